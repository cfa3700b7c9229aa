import Derived.Test.YtabicbgeoiilmaaGreatDoorDsk1
noncomputable section
set_option linter.unusedVariables false
namespace Go.Proofs.YtabicbgeoiilmaaGreatDoor.Dsk
open Go.Vm
open Bks (En InE dp Sm ci)
def bz (N:List En) (n:Int):Int:=if n<1∨N.length<n then 34 else match N[(n-1).toNat]? with
 |none=>0
 |some y=>if y.2.1≠0∨Bks.bM N n≠0 then 35 else (Ent.bt y.1 y.2.1 y.2.2).2
theorem uv {N:List En} {n:Int} (h:n<1∨N.length<n):bz N n=34:=Q_ h
theorem gH {N:List En} {n:Int} {y:En} (h: ¬(n<1∨N.length<n)) (hy:N[(n-1).toNat]? =some y) (k:y.2.1≠0∨Bks.bM N n≠0):bz N n=35:=by unfold bz;rw [Q8 h,hy];exact Q_ k
theorem uw {N:List En} {n:Int} {y:En} (h: ¬(n<1∨N.length<n)) (hy:N[(n-1).toNat]? =some y) (k: ¬(y.2.1≠0∨Bks.bM N n≠0)):bz N n=(Ent.bt y.1 y.2.1 y.2.2).2:=by unfold bz;rw [Q8 h,hy];exact Q8 k
def ic (N:List En) (n:Int):Env where
 P:=Tryz.prog
 ty:=aJ
 specs:=ai [Bks.Pt,Ent.Ak]
def da (N:List En) (n:Int):Prop:=
 (decide (n<1)=false->(decide (N.length<n)=true->((34:Int),())=(bz N n,()))/\(decide (N.length<n)=false->(au (n-(1:Int)))/\(0<=n-(1:Int)/\n-(1:Int)<(↑N.length:Int))/\∀(x:Int×Int×List (Int×Int×Int×Int)),N[(n-(1:Int)).toNat]? =some x->((!decide (x.2.1=0))=false->N.length<=(1000000000:Nat)/\((!decide (Bks.bM N n=0))=true->((35:Int),())=(bz N n,()))/\((!decide (Bks.bM N n=0))=false->(au (n-(1:Int)))/\(0<=n-(1:Int)/\n-(1:Int)<(↑N.length:Int))/\∀(x:Int×Int×List (Int×Int×Int×Int)),N[(n-(1:Int)).toNat]? =some x->(Ent.InL x.2.2/\x.2.2.length<=(1000:Nat))/\((Ent.bt x.1 x.2.1 x.2.2).2,())=(bz N n,())))/\((!decide (x.2.1=0))= !false->((35:Int),())=(bz N n,()))))/\(decide (n<1)= !false->((34:Int),())=(bz N n,()))
def fE (N:List En) (n:Int):Env where
 P:=Tryz.prog
 ty:=aJ
 specs:=ai [Bks.Cv,Ent.mm]
def cy (N:List En) (n:Int):Prop:=
 (decide (n<1)=false->(decide (N.length<n)=true->((34:Int),())=(bz N n,()))/\(decide (N.length<n)=false->(au (n-(1:Int)))/\(0<=n-(1:Int)/\n-(1:Int)<(↑N.length:Int))/\∀(x:Int×Int×List (Int×Int×Int×Int)),N[(n-(1:Int)).toNat]? =some x->((!decide (x.2.1=0))=false->N.length<=(1000000000:Nat)/\((!decide (Bks.bM N n=0))=true->((35:Int),())=(bz N n,()))/\((!decide (Bks.bM N n=0))=false->(au (n-(1:Int)))/\(0<=n-(1:Int)/\n-(1:Int)<(↑N.length:Int))/\∀(x:Int×Int×List (Int×Int×Int×Int)),N[(n-(1:Int)).toNat]? =some x->(Ent.InL x.2.2/\x.2.2.length<=(1000:Nat))/\((Ent.bt x.1 x.2.1 x.2.2).2,())=(bz N n,())))/\((!decide (x.2.1=0))= !false->((35:Int),())=(bz N n,()))))/\(decide (n<1)= !false->((34:Int),())=(bz N n,()))
theorem fF (N:List En) (n:Int) (h:N.length<=1000000/\InE N):da N n:=by
 obtain ⟨hl,hi⟩:=h;unfold da;simp only [Q7,Q6,Rb,Rd,Rl,Rg];repeat' (first
  |with_reducible apply And.intro
  |(intro (x1:Int×Int×List (Int×Int×Int×Int)) (hx1:N[(n-1).toNat]? =some x1);have e:=Option.some.inj (hx.symm.trans hx1);subst e)
  |(intro (x:Int×Int×List (Int×Int×Int×Int)) (hx:N[(n-1).toNat]? =some x);have hix:=dp hi hx)
  |intro _)
 all_goals try (first|trivial|rfl|omega|exact hix.1 _ (by assumption))
 all_goals first
  |(rw [uv (by omega)])
  |(rw [gH (by omega) hx (.inl (by assumption))])
  |(rw [gH (by omega) hx (.inr (by assumption))])
  |(rw [uw (by omega) hx (fun c=>c.elim (fun c=>c (by assumption)) (fun c=>c (by assumption)))])
set_option maxRecDepth 20000
def iM:FSpec Tryz.prog:=mkF 145 (.c (.l EnT) (.c .j .z)) [.int .i64] (fun x=>(fun (N:List En) (n:Int)=>(N.length<=1000000/\InE N,bz N n,())) x.1 x.2.1) fun ⟨N,n,_⟩ h=>av (E:=ic N n) (fF N n h) (ab rfl _ [] rfl rfl) Tryz.func145
theorem ej (N:List En) (n:Int) (h:N.length<=1000000/\InE N):cy N n:=by
 obtain ⟨hl,hi⟩:=h;unfold cy;simp only [Q7,Q6,Rb,Rd,Rl,Rg];repeat' (first
  |with_reducible apply And.intro
  |(intro (x1:Int×Int×List (Int×Int×Int×Int)) (hx1:N[(n-1).toNat]? =some x1);have e:=Option.some.inj (hx.symm.trans hx1);subst e)
  |(intro (x:Int×Int×List (Int×Int×Int×Int)) (hx:N[(n-1).toNat]? =some x);have hix:=dp hi hx)
  |intro _)
 all_goals try (first|trivial|rfl|omega|exact hix.1 _ (by assumption))
 all_goals first
  |(rw [uv (by omega)])
  |(rw [gH (by omega) hx (.inl (by assumption))])
  |(rw [gH (by omega) hx (.inr (by assumption))])
  |(rw [uw (by omega) hx (fun c=>c.elim (fun c=>c (by assumption)) (fun c=>c (by assumption)))])
def g9:FSpec Tryz.prog:=mkF 94 (.c (.l EnT) (.c .j .z)) [.int .i64] (fun x=>(fun (N:List En) (n:Int)=>(N.length<=1000000/\InE N,bz N n,())) x.1 x.2.1) fun ⟨N,n,_⟩ h=>av (E:=fE N n) (ej N n h) (ab rfl _ [] rfl rfl) Tryz.func94
def cz (A:List Acc.AcD) (x:Ln):Bool:= !Acc.bf A x.2.1
def Pu (e a p m:Int):Env:=ee
def CS (e:Int) (a:Int) (p:Int) (m:Int):Prop:=
 (decide (a<=3),())=(ci (e,a,p,m),())
theorem MB (e a p m:Int):CS e a p m:=by
 unfold CS ci;trivial
def QI:FSpec Tryz.prog:=mkF 140 (.c (.g (.c .j (.c .j (.c .j (.c .j .z))))) .z) [.bool] (fun x=>(fun (e a p m:Int)=>(True,ci (e,a,p,m),())) x.1.1 x.1.2.1 x.1.2.2.1 x.1.2.2.2.1) fun ⟨⟨e,a,p,m,_⟩,_⟩ _=>av (E:=Pu e a p m) (MB e a p m) (ab rfl [] [] rfl rfl) Tryz.func140
def Pv (e a p m:Int) (E:List Int) (A:List Acc.AcD) (S:List Ln) (R:List Rts.Rt) (K:List Lck.Lk) (N:List En):Env where
 P:=Tryz.prog
 ty:=aJ
 specs:=ai [Acc.Ir]
 frz:=fun|11=>true|_=>false
def CT (e:Int) (a:Int) (p:Int) (m:Int) (E:List Int) (A:List Acc.AcD) (S:List Ln) (R:List Rts.Rt) (K:List Lck.Lk) (N:List En):Prop:=
 A.length<=(1000000000:Nat)/\(!Acc.bf A a,())=(cz A (e,a,p,m),())
theorem MC (e a p m:Int) (E:List Int) (A:List Acc.AcD) (S:List Ln) (R:List Rts.Rt) (K:List Lck.Lk) (N:List En) (h:A.length<=1000000000):CT e a p m E A S R K N:=by
 unfold CT cz;exact ⟨h,rfl⟩
def QJ:FSpec Tryz.prog:=mkF 141 (.c (.g (.c .j (.c .j (.c .j (.c .j .z))))) (.c (.f (.c (.f (.c (.l I) (.c (.l AcT) (.c (.l LnT) (.c (.l RTy) (.c (.l Vl) (.c (.l EnT) .z))))))) .z)) .z)) [.bool] (fun x=>(fun (e a p m:Int) (E:List Int) (A:List Acc.AcD) (S:List Ln) (R:List Rts.Rt) (K:List Lck.Lk) (N:List En)=>(A.length<=1000000000,cz A (e,a,p,m),())) x.1.1 x.1.2.1 x.1.2.2.1 x.1.2.2.2.1 x.2.1.1.1 x.2.1.1.2.1 x.2.1.1.2.2.1 x.2.1.1.2.2.2.1 x.2.1.1.2.2.2.2.1 x.2.1.1.2.2.2.2.2.1) fun ⟨⟨e,a,p,m,_⟩,⟨⟨E,A,S,R,K,N,_⟩,_⟩,_⟩ h=>av (E:=Pv e a p m E A S R K N) (MC e a p m E A S R K N h) (ab rfl _ [] rfl rfl) Tryz.func141
def Pw (l:List Ln):Env where
 P:=Tryz.prog
 ty:=aJ
 specs:=ai [QI]
 heads:=fun|2=>some {slots:=[(8, .int .i64)],boxes:=[],inv:=fun _ (x:Int×Unit)=>0<=x.1/\x.1<=l.length/\bj ci l=bm ci (l.drop x.1.toNat) x.1,measure:=fun _ (x:Int×Unit)=>(l.length-x.1).toNat}|_=>none
def CU (l:List Ln):Prop:=
 (True/\0<=(0:Int)/\0<=(↑l.length:Int)/\bj ci l=bm ci (List.drop (Int.toNat 0) l) 0)/\∀(x:Int×Unit),0<=x.1/\x.1<=l.length/\bj ci l=bm ci (List.drop x.1.toNat l) x.1->(decide (x.1<l.length)=true->(0<=x.1/\x.1<l.length)/\∀(x_1:Int×Int×Int×Int),l[x.1.toNat]? =some x_1->True/\(ci (x_1.1,x_1.2.1,x_1.2.2.1,x_1.2.2.2)=true->(x.1,())=(bj ci l,()))/\(ci (x_1.1,x_1.2.1,x_1.2.2.1,x_1.2.2.2)=false->(au (x.1+1))/\True/\(0<=x.1+1/\x.1+1<=l.length/\bj ci l=bm ci (List.drop (x.1+1).toNat l) (x.1+1))/\(l.length-(x.1+1)).toNat<(l.length-x.1).toNat))/\(decide (x.1<l.length)=false->((-1:Int),())=(bj ci l,()))
theorem MD (l:List Ln) (h:l.length<=1000000000):CU l:=by
 have hl:l.length<=1000000000:=h;unfold CU;simp only [Q7,Q6];refine ⟨⟨trivial,by omega,by omega,rfl⟩, ?_⟩;rintro ⟨i,⟨⟩⟩ ⟨h0,h1,hb⟩;dsimp only at h0 h1 hb⊢;rw [hb];refine ⟨fun c=>⟨⟨h0,c⟩,fun x hx=>⟨trivial,fun k=> ?_,fun k=>⟨by omega,trivial,⟨by omega,by omega, ?_⟩,by omega⟩⟩⟩,fun c=> ?_⟩
 ·rw [ga h0 hx k]
 ·rw [dW h0 hx k]
 ·rw [gb c]
def QK:FSpec Tryz.prog:=mkF 194 (.c (.l LnT) (.c (.n 140 .z .z) .z)) [.int .i64] (fun x=>(fun (l:List Ln)=>(l.length<=1000000000,bj ci l,())) x.1) fun ⟨l,⟨_,_⟩,_⟩ h=>av (E:=Pw l) (MD l h) (ab rfl _ [] rfl rfl) Tryz.func194
def Px (l:List Ln):Env where
 P:=Tryz.prog
 ty:=aJ
 specs:=ai [QK]
def CV (l:List Ln):Prop:=
 l.length<=(1000000000:Nat)/\(decide (0<=bj ci l),())=(l.any ci,())
theorem ME (l:List Ln) (h:l.length<=1000000000):CV l:=by
 unfold CV;exact ⟨h,by rw [jy]⟩
def QL:FSpec Tryz.prog:=mkF 143 (.c (.l LnT) (.c (.n 140 .z .z) .z)) [.bool] (fun x=>(fun (l:List Ln)=>(l.length<=1000000000,l.any ci,())) x.1) fun ⟨l,⟨_,_⟩,_⟩ h=>av (E:=Px l) (ME l h) (ab rfl _ [] rfl rfl) Tryz.func143
def Py (l:List Ln) (E:List Int) (A:List Acc.AcD) (S:List Ln) (R:List Rts.Rt) (K:List Lck.Lk) (N:List En):Env where
 P:=Tryz.prog
 ty:=aJ
 specs:=ai [QJ]
 heads:=fun|2=>some {slots:=[(8, .int .i64)],boxes:=[],inv:=fun _ (x:Int×Unit)=>0<=x.1/\x.1<=l.length/\bj (cz A) l=bm (cz A) (l.drop x.1.toNat) x.1,measure:=fun _ (x:Int×Unit)=>(l.length-x.1).toNat}|_=>none
def CW (l:List Ln) (E:List Int) (A:List Acc.AcD) (S:List Ln) (R:List Rts.Rt) (K:List Lck.Lk) (N:List En):Prop:=
 (True/\0<=(0:Int)/\0<=(↑l.length:Int)/\bj (cz A) l=bm (cz A) (List.drop (Int.toNat 0) l) 0)/\∀(x:Int×Unit),0<=x.1/\x.1<=l.length/\bj (cz A) l=bm (cz A) (List.drop x.1.toNat l) x.1->(decide (x.1<l.length)=true->(0<=x.1/\x.1<l.length)/\∀(x_1:Int×Int×Int×Int),l[x.1.toNat]? =some x_1->A.length<=(1000000000:Nat)/\(cz A (x_1.1,x_1.2.1,x_1.2.2.1,x_1.2.2.2)=true->(x.1,())=(bj (cz A) l,()))/\(cz A (x_1.1,x_1.2.1,x_1.2.2.1,x_1.2.2.2)=false->(au (x.1+1))/\True/\(0<=x.1+1/\x.1+1<=l.length/\bj (cz A) l=bm (cz A) (List.drop (x.1+1).toNat l) (x.1+1))/\(l.length-(x.1+1)).toNat<(l.length-x.1).toNat))/\(decide (x.1<l.length)=false->((-1:Int),())=(bj (cz A) l,()))
theorem MF (l:List Ln) (E:List Int) (A:List Acc.AcD) (S:List Ln) (R:List Rts.Rt) (K:List Lck.Lk) (N:List En) (h:l.length<=1000000000/\A.length<=1000000000):CW l E A S R K N:=by
 have hl:l.length<=1000000000:=h.1;unfold CW;simp only [Q7,Q6];refine ⟨⟨trivial,by omega,by omega,rfl⟩, ?_⟩;rintro ⟨i,⟨⟩⟩ ⟨h0,h1,hb⟩;dsimp only at h0 h1 hb⊢;rw [hb];refine ⟨fun c=>⟨⟨h0,c⟩,fun x hx=>⟨h.2,fun k=> ?_,fun k=>⟨by omega,trivial,⟨by omega,by omega, ?_⟩,by omega⟩⟩⟩,fun c=> ?_⟩
 ·rw [ga h0 hx k]
 ·rw [dW h0 hx k]
 ·rw [gb c]
def QM:FSpec Tryz.prog:=mkF 194 (.c (.l LnT) (.c (.n 141 .z (.c (.f (.c (.f (.c (.l I) (.c (.l AcT) (.c (.l LnT) (.c (.l RTy) (.c (.l Vl) (.c (.l EnT) .z))))))) .z)) .z)) .z)) [.int .i64] (fun x=>(fun (l:List Ln) (E:List Int) (A:List Acc.AcD) (S:List Ln) (R:List Rts.Rt) (K:List Lck.Lk) (N:List En)=>(l.length<=1000000000/\A.length<=1000000000,bj (cz A) l,())) x.1 x.2.1.2.1.1.1 x.2.1.2.1.1.2.1 x.2.1.2.1.1.2.2.1 x.2.1.2.1.1.2.2.2.1 x.2.1.2.1.1.2.2.2.2.1 x.2.1.2.1.1.2.2.2.2.2.1) fun ⟨l,⟨_,⟨⟨⟨E,A,S,R,K,N,_⟩,_⟩,_⟩⟩,_⟩ h=>av (E:=Py l E A S R K N) (MF l E A S R K N h) (ab rfl _ [] rfl rfl) Tryz.func194
def Pz (l:List Ln) (E:List Int) (A:List Acc.AcD) (S:List Ln) (R:List Rts.Rt) (K:List Lck.Lk) (N:List En):Env where
 P:=Tryz.prog
 ty:=aJ
 specs:=ai [QM]
def CX (l:List Ln) (E:List Int) (A:List Acc.AcD) (S:List Ln) (R:List Rts.Rt) (K:List Lck.Lk) (N:List En):Prop:=
 (l.length<=(1000000000:Nat)/\A.length<=(1000000000:Nat))/\(decide (0<=bj (cz A) l),())=(l.any (cz A),())
theorem MG (l:List Ln) (E:List Int) (A:List Acc.AcD) (S:List Ln) (R:List Rts.Rt) (K:List Lck.Lk) (N:List En) (h:l.length<=1000000000/\A.length<=1000000000):CX l E A S R K N:=by
 unfold CX;exact ⟨h,by rw [jy]⟩
def QN:FSpec Tryz.prog:=mkF 143 (.c (.l LnT) (.c (.n 141 .z (.c (.f (.c (.f (.c (.l I) (.c (.l AcT) (.c (.l LnT) (.c (.l RTy) (.c (.l Vl) (.c (.l EnT) .z))))))) .z)) .z)) .z)) [.bool] (fun x=>(fun (l:List Ln) (E:List Int) (A:List Acc.AcD) (S:List Ln) (R:List Rts.Rt) (K:List Lck.Lk) (N:List En)=>(l.length<=1000000000/\A.length<=1000000000,l.any (cz A),())) x.1 x.2.1.2.1.1.1 x.2.1.2.1.1.2.1 x.2.1.2.1.1.2.2.1 x.2.1.2.1.1.2.2.2.1 x.2.1.2.1.1.2.2.2.2.1 x.2.1.2.1.1.2.2.2.2.2.1) fun ⟨l,⟨_,⟨⟨⟨E,A,S,R,K,N,_⟩,_⟩,_⟩⟩,_⟩ h=>av (E:=Pz l E A S R K N) (MG l E A S R K N h) (ab rfl _ [] rfl rfl) Tryz.func143
def Is:FSpec Tryz.prog:=Q3 QL QN rfl
def dG (K:List Lck.Lk) (N:List En) (x:En):List En×Int:=if (Ent.bh x.2.2).any (Lck.lkP K x.1)=true then (N,33) else if 2000<=(N.length:Int) then (N,3) else (N++[x],0)
theorem xd {K:List Lck.Lk} {N:List En} {x:En} (h:(Ent.bh x.2.2).any (Lck.lkP K x.1)=true):dG K N x=(N,33):=Q_ h
theorem xe {K:List Lck.Lk} {N:List En} {x:En} (h:(Ent.bh x.2.2).any (Lck.lkP K x.1)=false) (k:2000<=(N.length:Int)):dG K N x=(N,3):=by unfold dG;rw [Q8 (by rw [h];decide),Q_ k]
theorem It {K:List Lck.Lk} {N:List En} {x:En} (h:(Ent.bh x.2.2).any (Lck.lkP K x.1)=false) (k: ¬2000<=(N.length:Int)):dG K N x=(N++[x],0):=by unfold dG;rw [Q8 (by rw [h];decide),Q8 k]
def Iu (E:List Int) (A:List Acc.AcD) (S:List Ln) (R:List Rts.Rt) (K:List Lck.Lk) (N:List En) (p r:Int) (L:List Ln):Env where
 P:=Tryz.prog
 ty:=aJ
 specs:=ai [Ent.ux,Lck.mI]
 pins:=[9000]
 frz:=fun|14=>true|15=>true|_=>false
 asArr:=fun|31=>true|_=>false
abbrev Iv:Ann:={slots:=bB 0 [.int .i64],boxes:=[(9000,[.list .part I, .list .part AcT, .list .part LnT, .list .part RTy, .list .part Vl, .slc 9001 EnT])],inv:=fun _ _=>True}
def mJ (E:List Int) (A:List Acc.AcD) (S:List Ln) (R:List Rts.Rt) (K:List Lck.Lk) (N:List En) (p:Int) (r:Int) (L:List Ln):Prop:=
 L.length<=(1000000000:Nat)/\((Ent.bh L).length<=(1000000000:Nat)/\K.length<=(1000000000:Nat))/\((Ent.bh L).any (Lck.lkP K p)=true->True/\((33:Int),E,A,S,R,K,N,())=((dG K N (p,r,L)).2,E,A,S,R,K,(dG K N (p,r,L)).1,()))/\((Ent.bh L).any (Lck.lkP K p)=false->(decide ((2000:Int)<=(↑N.length:Int))=true->True/\((3:Int),E,A,S,R,K,N,())=((dG K N (p,r,L)).2,E,A,S,R,K,(dG K N (p,r,L)).1,()))/\(decide ((2000:Int)<=(↑N.length:Int))=false->((N.length+(1:Nat))*(40:Nat)<=(140737488355328:Nat)/\N.length+(1:Nat)<=(4611686018427387904:Nat))/\True/\((0:Int),E,A,S,R,K,N++[(p,r,L)],())=((dG K N (p,r,L)).2,E,A,S,R,K,(dG K N (p,r,L)).1,())))
theorem E0 (E:List Int) (A:List Acc.AcD) (S:List Ln) (R:List Rts.Rt) (K:List Lck.Lk) (N:List En) (p r:Int) (L:List Ln):dV (Iu E A S R K N p r L) Tryz.f144 [.ptr 9000 0, .agg [.int .i64 p, .int .i64 r, .list .part LnT L]] [(9000, .box [.list .part (.int .i64) E, .list .part (.pair (.int .i64) (.pair (.int .i64) (.pair .bool .bool))) A, .list .part (.pair (.int .i64) (.pair (.int .i64) (.pair (.int .i64) (.int .i64)))) S, .list .part (.pair (.int .i64) (.pair (.int .i64) (.pair (.int .i64) (.pair (.int .i64) (.pair (.int .i64) (.int .i64)))))) R, .list .part (.pair (.int .i64) (.int .i64)) K, .slc 9001 0 none]),(9001, .arr 0 (.pair (.int .i64) (.pair (.int .i64) (.slice (.pair (.int .i64) (.pair (.int .i64) (.pair (.int .i64) (.int .i64))))))) N)] [none] Iv ((dG K N (p,r,L)).2,E,A,S,R,K,(dG K N (p,r,L)).1,())=mJ E A S R K N p r L:=by kernel_rfl
theorem E3 (E:List Int) (A:List Acc.AcD) (S:List Ln) (R:List Rts.Rt) (K:List Lck.Lk) (N:List En) (p r:Int) (L:List Ln) (h:L.length<=1000000/\K.length<=1000000/\N.length<=1000000):mJ E A S R K N p r L:=by
 obtain ⟨h1,h2,h3⟩:=h;unfold mJ;simp only [Q7,Q6,Rb,Rd,Rl,Rg];repeat' (first|with_reducible apply And.intro|intro _)
 all_goals try (first|trivial|rfl|omega)
 ·have:=Ent.gI L;omega
 ·rw [xd (by assumption)]
 ·rw [xe (by assumption) (by assumption)]
 ·rw [It (by assumption) (by assumption)]
theorem Iw (E:List Int) (A:List Acc.AcD) (S:List Ln) (R:List Rts.Rt) (K:List Lck.Lk) (N:List En) (p r:Int) (L:List Ln) (h:L.length<=1000000/\K.length<=1000000/\N.length<=1000000):UpdC Tryz.prog 144 [.ptr 9000 0, .agg [.int .i64 p, .int .i64 r, .list .part LnT L]] [(9000, .box [.list .part (.int .i64) E, .list .part (.pair (.int .i64) (.pair (.int .i64) (.pair .bool .bool))) A, .list .part (.pair (.int .i64) (.pair (.int .i64) (.pair (.int .i64) (.int .i64)))) S, .list .part (.pair (.int .i64) (.pair (.int .i64) (.pair (.int .i64) (.pair (.int .i64) (.pair (.int .i64) (.int .i64)))))) R, .list .part (.pair (.int .i64) (.int .i64)) K, .slc 9001 0 none]),(9001, .arr 0 (.pair (.int .i64) (.pair (.int .i64) (.slice (.pair (.int .i64) (.pair (.int .i64) (.pair (.int .i64) (.int .i64))))))) N)] (.int .i64 ((dG K N (p,r,L)).2)) [(9001, .arr 0 (.pair (.int .i64) (.pair (.int .i64) (.slice (.pair (.int .i64) (.pair (.int .i64) (.pair (.int .i64) (.int .i64))))))) ((dG K N (p,r,L)).1)),(9000, .box [.list .part (.int .i64) E, .list .part (.pair (.int .i64) (.pair (.int .i64) (.pair .bool .bool))) A, .list .part (.pair (.int .i64) (.pair (.int .i64) (.pair (.int .i64) (.int .i64)))) S, .list .part (.pair (.int .i64) (.pair (.int .i64) (.pair (.int .i64) (.pair (.int .i64) (.pair (.int .i64) (.int .i64)))))) R, .list .part (.pair (.int .i64) (.int .i64)) K, .slc 9001 0 none])]:=
 by have k:=UpdC.of_cond (E0 E A S R K N p r L) (E3 E A S R K N p r L h) (ab rfl [Ent.ux,Lck.mI] [] rfl rfl) mixed Tryz.func144;exact k
def PA (E:List Int) (A:List Acc.AcD) (S:List Ln) (R:List Rts.Rt) (K:List Lck.Lk) (N:List En) (p r:Int) (L:List Ln):Prop×V×Store:=(L.length<=1000000/\K.length<=1000000/\N.length<=1000000, .int .i64 ((dG K N (p,r,L)).2),[(9001, .arr 0 (.pair (.int .i64) (.pair (.int .i64) (.slice (.pair (.int .i64) (.pair (.int .i64) (.pair (.int .i64) (.int .i64))))))) ((dG K N (p,r,L)).1)),(9000, .box [.list .part (.int .i64) E, .list .part (.pair (.int .i64) (.pair (.int .i64) (.pair .bool .bool))) A, .list .part (.pair (.int .i64) (.pair (.int .i64) (.pair (.int .i64) (.int .i64)))) S, .list .part (.pair (.int .i64) (.pair (.int .i64) (.pair (.int .i64) (.pair (.int .i64) (.pair (.int .i64) (.int .i64)))))) R, .list .part (.pair (.int .i64) (.int .i64)) K, .slc 9001 0 none])])
def oT:OSpec Tryz.prog where
 f:=144
 run:=fun args σ=>match args,σ with
  |[.ptr 9000 0, .agg [.int .i64 p, .int .i64 r,v1_2]],[(9000, .box [.list .part (.int .i64) E, .list .part (.pair (.int .i64) (.pair (.int .i64) (.pair .bool .bool))) A, .list .part (.pair (.int .i64) (.pair (.int .i64) (.pair (.int .i64) (.int .i64)))) S, .list .part (.pair (.int .i64) (.pair (.int .i64) (.pair (.int .i64) (.pair (.int .i64) (.pair (.int .i64) (.int .i64)))))) R, .list .part (.pair (.int .i64) (.int .i64)) K, .slc 9001 0 none]),(9001, .arr 0 (.pair (.int .i64) (.pair (.int .i64) (.slice (.pair (.int .i64) (.pair (.int .i64) (.pair (.int .i64) (.int .i64))))))) N)]=>(asP LnT v1_2:Option (List Ln)).bind fun L=>some (PA E A S R K N p r L)
  |_,_=>none
 ok:=fun args σ pre r σ' h hp=>by
  try dsimp only at h
  split at h
  ·rename_i p r v1_2 E A S R K N;obtain ⟨L,h1_2,h⟩:=Ra.1 h;exact eL h hp fun h=>(Iw E A S R K N p r L h).weak (.cons (.refl _) (.cons (Weak.agg (.cons (.refl _) (.cons (.refl _) (.cons (pV h1_2) .nil)))) .nil))
  ·cases h
def b9 (E:List Int) (A:List Acc.AcD) (K:List Lck.Lk) (N:List En) (p:Int) (L:List Ln):List En×Int:=
 if (Ent.ah p L E.length A.length).2≠0 then (N,(Ent.ah p L E.length A.length).2) else if L.any ci=true then (N,28) else if L.any (cz A)=true then (N,27) else dG K N (p,0,L)
theorem Ix {E:List Int} {A:List Acc.AcD} {K:List Lck.Lk} {N:List En} {p:Int} {L:List Ln} (h: ¬(Ent.ah p L E.length A.length).2=0):b9 E A K N p L=(N,(Ent.ah p L E.length A.length).2):=Q_ h
theorem Iy {E:List Int} {A:List Acc.AcD} {K:List Lck.Lk} {N:List En} {p:Int} {L:List Ln} (h:(Ent.ah p L E.length A.length).2=0) (k:L.any ci=true):b9 E A K N p L=(N,28):=by unfold b9;rw [Q8 (fun c=>c h),Q_ k]
theorem CY {E:List Int} {A:List Acc.AcD} {K:List Lck.Lk} {N:List En} {p:Int} {L:List Ln} (h:(Ent.ah p L E.length A.length).2=0) (k:L.any ci=false) (m:L.any (cz A)=true):b9 E A K N p L=(N,27):=by unfold b9;rw [Q8 (fun c=>c h),Q8 (by rw [k];decide),Q_ m]
theorem Iz {E:List Int} {A:List Acc.AcD} {K:List Lck.Lk} {N:List En} {p:Int} {L:List Ln} (h:(Ent.ah p L E.length A.length).2=0) (k:L.any ci=false) (m:L.any (cz A)=false):b9 E A K N p L=dG K N (p,0,L):=by unfold b9;rw [Q8 (fun c=>c h),Q8 (by rw [k];decide),Q8 (by rw [m];decide)]
def E4 (E:List Int) (A:List Acc.AcD) (S:List Ln) (R:List Rts.Rt) (K:List Lck.Lk) (N:List En) (k a b c d:Int) (s q:Bool) (n m:Int) (l:List Ln):Env where
 P:=Tryz.prog
 ty:=aJ
 specs:=ai [Ent.bV,Ent.bA,Is]
 upd:=bJ [oT.upd]
 pins:=[9000]
 frz:=fun|14=>true|30=>true|41=>true|46=>true|_=>false
abbrev E5:Ann:={slots:=bB 0 [.int .i64],boxes:=[(9000,[.list .part I, .list .part AcT, .list .part LnT, .list .part RTy, .list .part Vl, .slc 9001 EnT])],inv:=fun _ _=>True}
def kG (E:List Int) (A:List Acc.AcD) (S:List Ln) (R:List Rts.Rt) (K:List Lck.Lk) (N:List En) (k:Int) (a:Int) (b:Int) (c:Int) (d:Int) (s:Bool) (q:Bool) (n:Int) (m:Int) (l:List Ln):Prop:=
 l.length<=(1000000000:Nat)/\(Ent.InL l/\l.length<=(1000:Nat))/\((!decide ((Ent.ah a l (↑E.length:Int) (↑A.length:Int)).2=0))=true->True/\((Ent.ah a l (↑E.length:Int) (↑A.length:Int)).2,E,A,S,R,K,N,())=((b9 E A K N a l).2,E,A,S,R,K,(b9 E A K N a l).1,()))/\((!decide ((Ent.ah a l (↑E.length:Int) (↑A.length:Int)).2=0))=false->l.length<=(1000000000:Nat)/\(l.any ci=true->True/\((28:Int),E,A,S,R,K,N,())=((b9 E A K N a l).2,E,A,S,R,K,(b9 E A K N a l).1,()))/\(l.any ci=false->(l.length<=(1000000000:Nat)/\A.length<=(1000000000:Nat))/\(l.any (cz A)=true->True/\((27:Int),E,A,S,R,K,N,())=((b9 E A K N a l).2,E,A,S,R,K,(b9 E A K N a l).1,()))/\(l.any (cz A)=false->(l.length<=(1000000:Nat)/\K.length<=(1000000:Nat)/\N.length<=(1000000:Nat))/\True/\((dG K N (a,(0:Int),l)).2,E,A,S,R,K,(dG K N (a,(0:Int),l)).1,())=((b9 E A K N a l).2,E,A,S,R,K,(b9 E A K N a l).1,()))))
theorem Al (E:List Int) (A:List Acc.AcD) (S:List Ln) (R:List Rts.Rt) (K:List Lck.Lk) (N:List En) (k a b c d:Int) (s q:Bool) (n m:Int) (l:List Ln):dV (E4 E A S R K N k a b c d s q n m l) Tryz.f103 [.ptr 9000 0, .agg [.int .i64 k, .int .i64 a, .int .i64 b, .int .i64 c, .int .i64 d, .bool s, .bool q, .int .i64 n, .int .i64 m, .list .tmp LnT l]] [(9000, .box [.list .part (.int .i64) E, .list .part (.pair (.int .i64) (.pair (.int .i64) (.pair .bool .bool))) A, .list .part (.pair (.int .i64) (.pair (.int .i64) (.pair (.int .i64) (.int .i64)))) S, .list .part (.pair (.int .i64) (.pair (.int .i64) (.pair (.int .i64) (.pair (.int .i64) (.pair (.int .i64) (.int .i64)))))) R, .list .part (.pair (.int .i64) (.int .i64)) K, .slc 9001 0 none]),(9001, .arr 0 (.pair (.int .i64) (.pair (.int .i64) (.slice (.pair (.int .i64) (.pair (.int .i64) (.pair (.int .i64) (.int .i64))))))) N)] [none] E5 ((b9 E A K N a l).2,E,A,S,R,K,(b9 E A K N a l).1,())=kG E A S R K N k a b c d s q n m l:=by kernel_rfl
theorem Am (E:List Int) (A:List Acc.AcD) (S:List Ln) (R:List Rts.Rt) (K:List Lck.Lk) (N:List En) (k a b c d:Int) (s q:Bool) (n m:Int) (l:List Ln) (h:Ent.InL l/\l.length<=1000/\E.length<=1000000/\A.length<=1000000/\K.length<=1000000/\N.length<=1000000):kG E A S R K N k a b c d s q n m l:=by
 obtain ⟨h1,h2,h3,h4,h5,h6⟩:=h;unfold kG;simp only [Q7,Q6,Rb,Rd,Rl,Rg];repeat' (first|with_reducible apply And.intro|intro _)
 all_goals try (first|trivial|rfl|omega|exact h1 _ (by assumption))
 ·rw [Ix (by assumption)]
 ·rw [Iy (by assumption) (by assumption)]
 ·rw [CY (by assumption) (by assumption) (by assumption)]
 ·rw [Iz (by assumption) (by assumption) (by assumption)]
theorem E6 (E:List Int) (A:List Acc.AcD) (S:List Ln) (R:List Rts.Rt) (K:List Lck.Lk) (N:List En) (k a b c d:Int) (s q:Bool) (n m:Int) (l:List Ln) (h:Ent.InL l/\l.length<=1000/\E.length<=1000000/\A.length<=1000000/\K.length<=1000000/\N.length<=1000000):UpdC Tryz.prog 103 [.ptr 9000 0, .agg [.int .i64 k, .int .i64 a, .int .i64 b, .int .i64 c, .int .i64 d, .bool s, .bool q, .int .i64 n, .int .i64 m, .list .tmp LnT l]] [(9000, .box [.list .part (.int .i64) E, .list .part (.pair (.int .i64) (.pair (.int .i64) (.pair .bool .bool))) A, .list .part (.pair (.int .i64) (.pair (.int .i64) (.pair (.int .i64) (.int .i64)))) S, .list .part (.pair (.int .i64) (.pair (.int .i64) (.pair (.int .i64) (.pair (.int .i64) (.pair (.int .i64) (.int .i64)))))) R, .list .part (.pair (.int .i64) (.int .i64)) K, .slc 9001 0 none]),(9001, .arr 0 (.pair (.int .i64) (.pair (.int .i64) (.slice (.pair (.int .i64) (.pair (.int .i64) (.pair (.int .i64) (.int .i64))))))) N)] (.int .i64 ((b9 E A K N a l).2)) [(9001, .arr 0 (.pair (.int .i64) (.pair (.int .i64) (.slice (.pair (.int .i64) (.pair (.int .i64) (.pair (.int .i64) (.int .i64))))))) ((b9 E A K N a l).1)),(9000, .box [.list .part (.int .i64) E, .list .part (.pair (.int .i64) (.pair (.int .i64) (.pair .bool .bool))) A, .list .part (.pair (.int .i64) (.pair (.int .i64) (.pair (.int .i64) (.int .i64)))) S, .list .part (.pair (.int .i64) (.pair (.int .i64) (.pair (.int .i64) (.pair (.int .i64) (.pair (.int .i64) (.int .i64)))))) R, .list .part (.pair (.int .i64) (.int .i64)) K, .slc 9001 0 none])]:=
 by have k:=UpdC.of_cond (Al E A S R K N k a b c d s q n m l) (Am E A S R K N k a b c d s q n m l h) (ab rfl [Ent.bV,Ent.bA,Is] [oT.upd] rfl rfl) mixed Tryz.func103;exact k
def MH (E:List Int) (A:List Acc.AcD) (S:List Ln) (R:List Rts.Rt) (K:List Lck.Lk) (N:List En) (k a b c d:Int) (s q:Bool) (n m:Int) (l:List Ln):Prop×V×Store:=(Ent.InL l/\l.length<=1000/\E.length<=1000000/\A.length<=1000000/\K.length<=1000000/\N.length<=1000000, .int .i64 ((b9 E A K N a l).2),[(9001, .arr 0 (.pair (.int .i64) (.pair (.int .i64) (.slice (.pair (.int .i64) (.pair (.int .i64) (.pair (.int .i64) (.int .i64))))))) ((b9 E A K N a l).1)),(9000, .box [.list .part (.int .i64) E, .list .part (.pair (.int .i64) (.pair (.int .i64) (.pair .bool .bool))) A, .list .part (.pair (.int .i64) (.pair (.int .i64) (.pair (.int .i64) (.int .i64)))) S, .list .part (.pair (.int .i64) (.pair (.int .i64) (.pair (.int .i64) (.pair (.int .i64) (.pair (.int .i64) (.int .i64)))))) R, .list .part (.pair (.int .i64) (.int .i64)) K, .slc 9001 0 none])])
def xf:OSpec Tryz.prog where
 f:=103
 run:=fun args σ=>match args,σ with
  |[.ptr 9000 0, .agg [.int .i64 k, .int .i64 a, .int .i64 b, .int .i64 c, .int .i64 d,v1_5,v1_6, .int .i64 n, .int .i64 m,v1_9]],[(9000, .box [.list .part (.int .i64) E, .list .part (.pair (.int .i64) (.pair (.int .i64) (.pair .bool .bool))) A, .list .part (.pair (.int .i64) (.pair (.int .i64) (.pair (.int .i64) (.int .i64)))) S, .list .part (.pair (.int .i64) (.pair (.int .i64) (.pair (.int .i64) (.pair (.int .i64) (.pair (.int .i64) (.int .i64)))))) R, .list .part (.pair (.int .i64) (.int .i64)) K, .slc 9001 0 none]),(9001, .arr 0 (.pair (.int .i64) (.pair (.int .i64) (.slice (.pair (.int .i64) (.pair (.int .i64) (.pair (.int .i64) (.int .i64))))))) N)]=>(bC v1_5).bind fun s=>(bC v1_6).bind fun q=>(asL LnT v1_9:Option (List Ln)).bind fun l=>some (MH E A S R K N k a b c d s q n m l)
  |_,_=>none
 ok:=fun args σ pre r σ' h hp=>by
  try dsimp only at h
  split at h
  ·rename_i k a b c d v1_5 v1_6 n m v1_9 E A S R K N;obtain ⟨s,h1_5,h⟩:=Ra.1 h;obtain ⟨q,h1_6,h⟩:=Ra.1 h;obtain ⟨l,h1_9,h⟩:=Ra.1 h;exact eL h hp fun h=>(E6 E A S R K N k a b c d s q n m l h).weak (.cons (.refl _) (.cons (Weak.agg (.cons (.refl _) (.cons (.refl _) (.cons (.refl _) (.cons (.refl _) (.cons (.refl _) (.cons (a_ h1_5) (.cons (a_ h1_6) (.cons (.refl _) (.cons (.refl _) (.cons (aT h1_9) .nil))))))))))) .nil))
  ·cases h
theorem uy (x:En):(Ent.bt x.1 x.2.1 x.2.2).1.2.2.length<=x.2.2.length:=by
 unfold Ent.bt;split
 ·simp
 ·simp
def rvY (K:List Lck.Lk) (N:List En) (a b:Int) (y:En):List En×Int:=if (Ent.bt y.1 y.2.1 y.2.2).2≠0 then (N,(Ent.bt y.1 y.2.1 y.2.2).2) else dG K N (b,a,(Ent.bt y.1 y.2.1 y.2.2).1.2.2)
def bM (K:List Lck.Lk) (N:List En) (a b:Int):List En×Int:=
 if b<0∨24<=b then (N,22) else if bz N a≠0 then (N,bz N a) else match N[(a-1).toNat]? with
 |none=>(N,0)
 |some y=>rvY K N a b y
theorem An {K:List Lck.Lk} {N:List En} {a b:Int} (h:b<0∨24<=b):bM K N a b=(N,22):=Q_ h
theorem IA {K:List Lck.Lk} {N:List En} {a b:Int} (h: ¬(b<0∨24<=b)) (k: ¬bz N a=0):bM K N a b=(N,bz N a):=by unfold bM;rw [Q8 h,Q_ k]
theorem OQ {K:List Lck.Lk} {N:List En} {a b:Int} {y:En} (h: ¬(b<0∨24<=b)) (k:bz N a=0) (hy:N[(a-1).toNat]? =some y):bM K N a b=rvY K N a b y:=by unfold bM;rw [Q8 h,Q8 (fun c=>c k),hy]
theorem PB {K:List Lck.Lk} {N:List En} {a b:Int} {y:En} (h: ¬(b<0∨24<=b)) (k:bz N a=0) (hy:N[(a-1).toNat]? =some y) (m: ¬(Ent.bt y.1 y.2.1 y.2.2).2=0):bM K N a b=(N,(Ent.bt y.1 y.2.1 y.2.2).2):=by rw [OQ h k hy];exact Q_ m
theorem OR {K:List Lck.Lk} {N:List En} {a b:Int} {y:En} (h: ¬(b<0∨24<=b)) (k:bz N a=0) (hy:N[(a-1).toNat]? =some y) (m:(Ent.bt y.1 y.2.1 y.2.2).2=0):bM K N a b=dG K N (b,a,(Ent.bt y.1 y.2.1 y.2.2).1.2.2):=by rw [OQ h k hy];exact Q8 (fun c=>c m)
theorem Ao {N:List En} {n:Int} (h:bz N n=0):1<=n/\n<=N.length:=by
 refine Classical.byContradiction fun c=> ?_;rw [uv (by omega)] at h;cases h
def IB (E:List Int) (A:List Acc.AcD) (S:List Ln) (R:List Rts.Rt) (K:List Lck.Lk) (N:List En) (k a b c d:Int) (s q:Bool) (n m:Int) (l:List Ln):Env where
 P:=Tryz.prog
 ty:=aJ
 specs:=ai [iM,Ent.Ak]
 upd:=bJ [oT.upd]
 pins:=[9000]
 frz:=fun|23=>true|38=>true|_=>false
abbrev IC:Ann:={slots:=bB 0 [.int .i64],boxes:=[(9000,[.list .part I, .list .part AcT, .list .part LnT, .list .part RTy, .list .part Vl, .slc 9001 EnT])],inv:=fun _ _=>True}
def mK (E:List Int) (A:List Acc.AcD) (S:List Ln) (R:List Rts.Rt) (K:List Lck.Lk) (N:List En) (k:Int) (a:Int) (b:Int) (c:Int) (d:Int) (s:Bool) (q:Bool) (n:Int) (m:Int) (l:List Ln):Prop:=
 (decide (b<0)=false->(decide (24<=b)=true->True/\((22:Int),E,A,S,R,K,N,())=((bM K N a b).2,E,A,S,R,K,(bM K N a b).1,()))/\(decide (24<=b)=false->(N.length<=(1000000:Nat)/\InE N)/\((!decide (bz N a=0))=true->True/\(bz N a,E,A,S,R,K,N,())=((bM K N a b).2,E,A,S,R,K,(bM K N a b).1,()))/\((!decide (bz N a=0))=false->(au (a-(1:Int)))/\(0<=a-(1:Int)/\a-(1:Int)<(↑N.length:Int))/\(a-(1:Int)).toNat<N.length/\∀(x:Int×Int×List (Int×Int×Int×Int)),N[(a-(1:Int)).toNat]? =some x->(Ent.InL x.2.2/\x.2.2.length<=(1000:Nat))/\((!decide ((Ent.bt x.1 x.2.1 x.2.2).2=0))=true->True/\((Ent.bt x.1 x.2.1 x.2.2).2,E,A,S,R,K,N,())=((bM K N a b).2,E,A,S,R,K,(bM K N a b).1,()))/\((!decide ((Ent.bt x.1 x.2.1 x.2.2).2=0))=false->((Ent.bt x.1 x.2.1 x.2.2).1.2.2.length<=(1000000:Nat)/\K.length<=(1000000:Nat)/\N.length<=(1000000:Nat))/\True/\((dG K N (b,a,(Ent.bt x.1 x.2.1 x.2.2).1.2.2)).2,E,A,S,R,K,(dG K N (b,a,(Ent.bt x.1 x.2.1 x.2.2).1.2.2)).1,())=((bM K N a b).2,E,A,S,R,K,(bM K N a b).1,())))))/\(decide (b<0)= !false->True/\((22:Int),E,A,S,R,K,N,())=((bM K N a b).2,E,A,S,R,K,(bM K N a b).1,()))
theorem E7 (E:List Int) (A:List Acc.AcD) (S:List Ln) (R:List Rts.Rt) (K:List Lck.Lk) (N:List En) (k a b c d:Int) (s q:Bool) (n m:Int) (l:List Ln):dV (IB E A S R K N k a b c d s q n m l) Tryz.f104 [.ptr 9000 0, .agg [.int .i64 k, .int .i64 a, .int .i64 b, .int .i64 c, .int .i64 d, .bool s, .bool q, .int .i64 n, .int .i64 m, .list .tmp LnT l]] [(9000, .box [.list .part (.int .i64) E, .list .part (.pair (.int .i64) (.pair (.int .i64) (.pair .bool .bool))) A, .list .part (.pair (.int .i64) (.pair (.int .i64) (.pair (.int .i64) (.int .i64)))) S, .list .part (.pair (.int .i64) (.pair (.int .i64) (.pair (.int .i64) (.pair (.int .i64) (.pair (.int .i64) (.int .i64)))))) R, .list .part (.pair (.int .i64) (.int .i64)) K, .slc 9001 0 none]),(9001, .arr 0 (.pair (.int .i64) (.pair (.int .i64) (.slice (.pair (.int .i64) (.pair (.int .i64) (.pair (.int .i64) (.int .i64))))))) N)] [none] IC ((bM K N a b).2,E,A,S,R,K,(bM K N a b).1,())=mK E A S R K N k a b c d s q n m l:=by kernel_rfl
theorem E8 (E:List Int) (A:List Acc.AcD) (S:List Ln) (R:List Rts.Rt) (K:List Lck.Lk) (N:List En) (k a b c d:Int) (s q:Bool) (n m:Int) (l:List Ln) (h:InE N/\K.length<=1000000/\N.length<=1000000):mK E A S R K N k a b c d s q n m l:=by
 obtain ⟨hi,h5,h6⟩:=h;unfold mK;simp only [Q7,Q6,Rb,Rd,Rl,Rg];repeat' (first
  |with_reducible apply And.intro
  |(intro (x1:Int×Int×List (Int×Int×Int×Int)) (hx1:N[(a-1).toNat]? =some x1);have e:=Option.some.inj (hx.symm.trans hx1);subst e)
  |(intro (x:Int×Int×List (Int×Int×Int×Int)) (hx:N[(a-1).toNat]? =some x);have hix:=dp hi hx)
  |(intro (hm:bz N a=0);have hmi:=Ao hm)
  |intro _)
 all_goals try (first|trivial|rfl|omega|exact hix.1 _ (by assumption))
 all_goals first
  |(rename_i y hy z hz;exact (hi y hy).1 z hz)
  |(rename_i y hy;exact (hi y hy).2)
  |(rw [An (by omega)])
  |(rw [IA (by omega) (by assumption)])
  |(rw [PB (by omega) hm hx (by assumption)])
  |(rw [OR (by omega) hm hx (by assumption)])
  |(have:=uy x;have:=hix.2;omega)
theorem ID (E:List Int) (A:List Acc.AcD) (S:List Ln) (R:List Rts.Rt) (K:List Lck.Lk) (N:List En) (k a b c d:Int) (s q:Bool) (n m:Int) (l:List Ln) (h:InE N/\K.length<=1000000/\N.length<=1000000):UpdC Tryz.prog 104 [.ptr 9000 0, .agg [.int .i64 k, .int .i64 a, .int .i64 b, .int .i64 c, .int .i64 d, .bool s, .bool q, .int .i64 n, .int .i64 m, .list .tmp LnT l]] [(9000, .box [.list .part (.int .i64) E, .list .part (.pair (.int .i64) (.pair (.int .i64) (.pair .bool .bool))) A, .list .part (.pair (.int .i64) (.pair (.int .i64) (.pair (.int .i64) (.int .i64)))) S, .list .part (.pair (.int .i64) (.pair (.int .i64) (.pair (.int .i64) (.pair (.int .i64) (.pair (.int .i64) (.int .i64)))))) R, .list .part (.pair (.int .i64) (.int .i64)) K, .slc 9001 0 none]),(9001, .arr 0 (.pair (.int .i64) (.pair (.int .i64) (.slice (.pair (.int .i64) (.pair (.int .i64) (.pair (.int .i64) (.int .i64))))))) N)] (.int .i64 ((bM K N a b).2)) [(9001, .arr 0 (.pair (.int .i64) (.pair (.int .i64) (.slice (.pair (.int .i64) (.pair (.int .i64) (.pair (.int .i64) (.int .i64))))))) ((bM K N a b).1)),(9000, .box [.list .part (.int .i64) E, .list .part (.pair (.int .i64) (.pair (.int .i64) (.pair .bool .bool))) A, .list .part (.pair (.int .i64) (.pair (.int .i64) (.pair (.int .i64) (.int .i64)))) S, .list .part (.pair (.int .i64) (.pair (.int .i64) (.pair (.int .i64) (.pair (.int .i64) (.pair (.int .i64) (.int .i64)))))) R, .list .part (.pair (.int .i64) (.int .i64)) K, .slc 9001 0 none])]:=
 by have k:=UpdC.of_cond (E7 E A S R K N k a b c d s q n m l) (E8 E A S R K N k a b c d s q n m l h) (ab rfl [iM,Ent.Ak] [oT.upd] rfl rfl) mixed Tryz.func104;exact k
def PC (E:List Int) (A:List Acc.AcD) (S:List Ln) (R:List Rts.Rt) (K:List Lck.Lk) (N:List En) (k a b c d:Int) (s q:Bool) (n m:Int) (l:List Ln):Prop×V×Store:=(InE N/\K.length<=1000000/\N.length<=1000000, .int .i64 ((bM K N a b).2),[(9001, .arr 0 (.pair (.int .i64) (.pair (.int .i64) (.slice (.pair (.int .i64) (.pair (.int .i64) (.pair (.int .i64) (.int .i64))))))) ((bM K N a b).1)),(9000, .box [.list .part (.int .i64) E, .list .part (.pair (.int .i64) (.pair (.int .i64) (.pair .bool .bool))) A, .list .part (.pair (.int .i64) (.pair (.int .i64) (.pair (.int .i64) (.int .i64)))) S, .list .part (.pair (.int .i64) (.pair (.int .i64) (.pair (.int .i64) (.pair (.int .i64) (.pair (.int .i64) (.int .i64)))))) R, .list .part (.pair (.int .i64) (.int .i64)) K, .slc 9001 0 none])])
def CZ:OSpec Tryz.prog where
 f:=104
 run:=fun args σ=>match args,σ with
  |[.ptr 9000 0, .agg [.int .i64 k, .int .i64 a, .int .i64 b, .int .i64 c, .int .i64 d,v1_5,v1_6, .int .i64 n, .int .i64 m,v1_9]],[(9000, .box [.list .part (.int .i64) E, .list .part (.pair (.int .i64) (.pair (.int .i64) (.pair .bool .bool))) A, .list .part (.pair (.int .i64) (.pair (.int .i64) (.pair (.int .i64) (.int .i64)))) S, .list .part (.pair (.int .i64) (.pair (.int .i64) (.pair (.int .i64) (.pair (.int .i64) (.pair (.int .i64) (.int .i64)))))) R, .list .part (.pair (.int .i64) (.int .i64)) K, .slc 9001 0 none]),(9001, .arr 0 (.pair (.int .i64) (.pair (.int .i64) (.slice (.pair (.int .i64) (.pair (.int .i64) (.pair (.int .i64) (.int .i64))))))) N)]=>(bC v1_5).bind fun s=>(bC v1_6).bind fun q=>(asL LnT v1_9:Option (List Ln)).bind fun l=>some (PC E A S R K N k a b c d s q n m l)
  |_,_=>none
 ok:=fun args σ pre r σ' h hp=>by
  try dsimp only at h
  split at h
  ·rename_i k a b c d v1_5 v1_6 n m v1_9 E A S R K N;obtain ⟨s,h1_5,h⟩:=Ra.1 h;obtain ⟨q,h1_6,h⟩:=Ra.1 h;obtain ⟨l,h1_9,h⟩:=Ra.1 h;exact eL h hp fun h=>(ID E A S R K N k a b c d s q n m l h).weak (.cons (.refl _) (.cons (Weak.agg (.cons (.refl _) (.cons (.refl _) (.cons (.refl _) (.cons (.refl _) (.cons (.refl _) (.cons (a_ h1_5) (.cons (a_ h1_6) (.cons (.refl _) (.cons (.refl _) (.cons (aT h1_9) .nil))))))))))) .nil))
  ·cases h
end Go.Proofs.YtabicbgeoiilmaaGreatDoor.Dsk
