import Derived.Test.YtabicbgeoiilmaaGreatDoorAcc3
import Derived.Test.YtabicbgeoiilmaaGreatDoorEnt10
namespace Go.Proofs.YtabicbgeoiilmaaGreatDoor
noncomputable section
set_option linter.unusedVariables false
section
namespace Bks
open Go.Vm
abbrev Ln:=Int×Int×Int×Int
abbrev En:=Int×Int×List Ln
def InE (N:List En):Prop:= ∀x∈N,Ent.InL x.2.2/\x.2.2.length<=1000
theorem dp {N:List En} {i:Nat} {x:En} (h:InE N) (hx:N[i]? =some x):Ent.InL x.2.2/\x.2.2.length<=1000:=h x (Rr hx)
def du (n:Int) (x:En):Bool:=decide (x.2.1=n)
def bM (N:List En) (n:Int):Int:=if n<1∨N.length<n then 0 else bj (du n) N+1
def KD (p r:Int) (L:List Ln) (n:Int):Env:=ee
def sZ (p:Int) (r:Int) (L:List Ln) (n:Int):Prop:=
 (decide (r=n),())=(du n (p,r,L),())
theorem Gh (p r:Int) (L:List Ln) (n:Int):sZ p r L n:=by
 unfold sZ;exact rfl
set_option maxRecDepth 20000
def N8:FSpec Tryz.prog:=mkF 229 (.c (.g (.c .j (.c .j (.c (.l LnT) .z)))) (.c (.f (.c .j .z)) .z)) [.bool] (fun x=>(fun (p r:Int) (L:List Ln) (n:Int)=>(True,du n (p,r,L),())) x.1.1 x.1.2.1 x.1.2.2.1 x.2.1.1) fun ⟨⟨p,r,L,_⟩,⟨n,_⟩,_⟩ _=>av (E:=KD p r L n) (Gh p r L n) (ab rfl [] [] rfl rfl) Tryz.func229
def KE (l:List En) (n:Int):Env where
 P:=Tryz.prog
 ty:=aJ
 specs:=ai [N8]
 heads:=fun|2=>some {slots:=[(8, .int .i64)],boxes:=[],inv:=fun _ (x:Int×Unit)=>0<=x.1/\x.1<=l.length/\bj (du n) l=bm (du n) (l.drop x.1.toNat) x.1,measure:=fun _ (x:Int×Unit)=>(l.length-x.1).toNat}|_=>none
def s9 (l:List En) (n:Int):Prop:=
 (True/\0<=(0:Int)/\0<=(↑l.length:Int)/\bj (du n) l=bm (du n) (List.drop (Int.toNat 0) l) 0)/\∀(x:Int×Unit),0<=x.1/\x.1<=l.length/\bj (du n) l=bm (du n) (List.drop x.1.toNat l) x.1->(ag (x.1<l.length)->(0<=x.1/\x.1<l.length)/\∀(x_1:Int×Int×List (Int×Int×Int×Int)),l[x.1.toNat]? =some x_1->True/\(du n (x_1.1,x_1.2.1,x_1.2.2)=true->(x.1,())=(bj (du n) l,()))/\(du n (x_1.1,x_1.2.1,x_1.2.2)=false->(au (x.1+1))/\True/\(0<=x.1+1/\x.1+1<=l.length/\bj (du n) l=bm (du n) (List.drop (x.1+1).toNat l) (x.1+1))/\(l.length-(x.1+1)).toNat<(l.length-x.1).toNat))/\(aj (x.1<l.length)->((-1:Int),())=(bj (du n) l,()))
theorem Gi (l:List En) (n:Int) (h:l.length<=1000000000):s9 l n:=by
 unfold s9 aj ag;simp only [Q7,Q6];refine ⟨⟨trivial,by omega,by omega,rfl⟩, ?_⟩;rintro ⟨i,⟨⟩⟩ ⟨h0,h1,hb⟩;dsimp only at h0 h1 hb⊢;rw [hb];refine ⟨fun c=>⟨⟨h0,c⟩,fun x hx=>⟨trivial,fun k=> ?_,fun k=>⟨by omega,trivial,⟨by omega,by omega, ?_⟩,by omega⟩⟩⟩,fun c=> ?_⟩
 ·rw [ga h0 hx k]
 ·rw [dW h0 hx k]
 ·rw [gb c]
def N9:FSpec Tryz.prog:=mkF 228 (.c (.l EnT) (.c (.n 229 .z (.c (.f (.c .j .z)) .z)) .z)) [.int .i64] (fun x=>(fun (l:List En) (n:Int)=>(l.length<=1000000000,bj (du n) l,())) x.1 x.2.1.2.1.1) fun ⟨l,⟨_,⟨⟨n,_⟩,_⟩⟩,_⟩ h=>av (E:=KE l n) (Gi l n h) (ab rfl _ [] rfl rfl) Tryz.func228
def N_ (l:List En) (n:Int):Env where
 P:=Tryz.prog
 ty:=aJ
 specs:=ai [N9]
def yg (l:List En) (n:Int):Prop:=
 (aj (n<1)->(ag (l.length<n)->((0:Int),())=(bM l n,()))/\(aj (l.length<n)->l.length<=(1000000000:Nat)/\(au (bj (du n) l+1))/\(bj (du n) l+1,())=(bM l n,())))/\(bu (n<1)->((0:Int),())=(bM l n,()))
theorem KF (l:List En) (n:Int) (h:l.length<=1000000000):yg l n:=by
 unfold yg aj bu ag;simp only [Q7,Q6,Rg];have hb:=AM (du n) l;unfold bM;refine ⟨fun c=>⟨fun d=>by rw [Q_ (.inr d)],fun d=>⟨h,by omega,by rw [Q8 (by omega)]⟩⟩,fun c=>by rw [Q_ (.inl c)]⟩
def Pt:FSpec Tryz.prog:=mkF 196 (.c (.l EnT) (.c .j .z)) [.int .i64] (fun x=>(fun (l:List En) (n:Int)=>(l.length<=1000000000,bM l n,())) x.1 x.2.1) fun ⟨l,n,_⟩ h=>av (E:=N_ l n) (KF l n h) (ab rfl _ [] rfl rfl) Tryz.func196
def KG (l:List En) (n:Int):Env where
 P:=Tryz.prog
 ty:=aJ
 heads:=fun|2=>some {slots:=[(5, .int .i64)],boxes:=[],inv:=fun _ (x:Int×Unit)=>0<=x.1/\x.1<=l.length/\(1<=n/\n<=l.length->bj (du n) l=bm (du n) (l.drop x.1.toNat) x.1),measure:=fun _ (x:Int×Unit)=>(l.length-x.1).toNat}|_=>none
def s_ (l:List En) (n:Int):Prop:=
 (True/\0<=(0:Int)/\0<=(↑l.length:Int)/\(1<=n/\n<=(↑l.length:Int)->bj (du n) l=bm (du n) (List.drop (Int.toNat 0) l) 0))/\∀(x:Int×Unit),0<=x.1/\x.1<=l.length/\(1<=n/\n<=(↑l.length:Int)->bj (du n) l=bm (du n) (List.drop x.1.toNat l) x.1)->(ag (x.1<l.length)->(ag (1<=n)->(ag (n<=l.length)->(0<=x.1/\x.1<l.length)/\∀(x_1:Int×Int×List (Int×Int×Int×Int)),l[x.1.toNat]? =some x_1->(ag (x_1.2.1=n)->(au (x.1+1))/\(x.1+1,())=(bM l n,()))/\(aj (x_1.2.1=n)->(au (x.1+1))/\True/\(0<=x.1+1/\x.1+1<=l.length/\(1<=n/\n<=(↑l.length:Int)->bj (du n) l=bm (du n) (List.drop (x.1+1).toNat l) (x.1+1)))/\(l.length-(x.1+1)).toNat<(l.length-x.1).toNat))/\(aP (n<=l.length)->(au (x.1+1))/\True/\(0<=x.1+1/\x.1+1<=l.length/\(1<=n/\n<=(↑l.length:Int)->bj (du n) l=bm (du n) (List.drop (x.1+1).toNat l) (x.1+1)))/\(l.length-(x.1+1)).toNat<(l.length-x.1).toNat))/\(aP (1<=n)->(au (x.1+1))/\True/\(0<=x.1+1/\x.1+1<=l.length/\(1<=n/\n<=(↑l.length:Int)->bj (du n) l=bm (du n) (List.drop (x.1+1).toNat l) (x.1+1)))/\(l.length-(x.1+1)).toNat<(l.length-x.1).toNat))/\(aj (x.1<l.length)->((0:Int),())=(bM l n,()))
theorem Gj (l:List En) (n:Int) (h:l.length<=1000000000):s_ l n:=by
 unfold s_ aj aP ag;simp only [Q7,Q6,Rg,Rl];refine ⟨⟨trivial,by omega,by omega,fun _=>rfl⟩, ?_⟩;rintro ⟨i,⟨⟩⟩ ⟨h0,h1,hb⟩;dsimp only at h0 h1 hb⊢;refine ⟨fun c=>⟨fun d=>⟨fun e=>⟨⟨h0,c⟩,fun x hx=>⟨fun k=>⟨by omega, ?_⟩,fun k=>⟨by omega,trivial,⟨by omega,by omega,fun _=> ?_⟩,by omega⟩⟩⟩,fun e=>⟨by omega,trivial,⟨by omega,by omega,fun m=>by omega⟩,by omega⟩⟩,fun d=>⟨by omega,trivial,⟨by omega,by omega,fun m=>by omega⟩,by omega⟩⟩,fun c=> ?_⟩
 ·unfold bM;rw [Q8 (by omega),hb ⟨d,e⟩,ga h0 hx (by unfold du;rw [RB k])]
 ·rw [hb ⟨d,e⟩,dW h0 hx (by unfold du;rw [Rs k])]
 ·unfold bM;split
  ·rfl
  ·rw [hb (by omega),gb c];rfl
def Cv:FSpec Tryz.prog:=mkF 127 (.c (.l EnT) (.c .j .z)) [.int .i64] (fun x=>(fun (l:List En) (n:Int)=>(l.length<=1000000000,bM l n,())) x.1 x.2.1) fun ⟨l,n,_⟩ h=>av (E:=KG l n) (Gj l n h) (ab rfl [] [] rfl rfl) Tryz.func127
def ci (x:Ln):Bool:=decide (x.2.1<=3)
def eqP (n:Int) (x:Int):Bool:=decide (n=x)
def kV (ls:List Int) (x:Ln):Bool:= !ls.any (eqP x.2.1)
def uK (l:List Int) (n:Int):Env where
 P:=Tryz.prog
 ty:=aJ
 heads:=fun|2=>some {slots:=[(8, .int .i64)],boxes:=[],inv:=fun _ (x:Int×Unit)=>0<=x.1/\x.1<=l.length/\bj (eqP n) l=bm (eqP n) (l.drop x.1.toNat) x.1,measure:=fun _ (x:Int×Unit)=>(l.length-x.1).toNat}|_=>none
def i_ (l:List Int) (n:Int):Prop:=
 (True/\0<=(0:Int)/\0<=(↑l.length:Int)/\bj (eqP n) l=bm (eqP n) (List.drop (Int.toNat 0) l) 0)/\∀(x:Int×Unit),0<=x.1/\x.1<=l.length/\bj (eqP n) l=bm (eqP n) (List.drop x.1.toNat l) x.1->(ag (x.1<l.length)->(0<=x.1/\x.1<l.length)/\∀(x_1:Int),l[x.1.toNat]? =some x_1->(ag (n=x_1)->(x.1,())=(bj (eqP n) l,()))/\(aj (n=x_1)->(au (x.1+1))/\True/\(0<=x.1+1/\x.1+1<=l.length/\bj (eqP n) l=bm (eqP n) (List.drop (x.1+1).toNat l) (x.1+1))/\(l.length-(x.1+1)).toNat<(l.length-x.1).toNat))/\(aj (x.1<l.length)->((-1:Int),())=(bj (eqP n) l,()))
theorem qs (l:List Int) (n:Int) (h:l.length<=1000000000):i_ l n:=by
 unfold i_ aj ag;simp only [Q7,Q6];refine ⟨⟨trivial,by omega,by omega,rfl⟩, ?_⟩;rintro ⟨i,⟨⟩⟩ ⟨h0,h1,hb⟩;dsimp only at h0 h1 hb⊢;rw [hb];refine ⟨fun c=>⟨⟨h0,c⟩,fun x hx=>⟨fun k=> ?_,fun k=>⟨by omega,trivial,⟨by omega,by omega, ?_⟩,by omega⟩⟩⟩,fun c=> ?_⟩
 ·rw [ga h0 hx (by unfold eqP;rw [RB k])]
 ·rw [dW h0 hx (by unfold eqP;rw [Rs k])]
 ·rw [gb c]
def AS:FSpec Tryz.prog:=mkF 131 (.c (.l I) (.c .j .z)) [.int .i64] (fun x=>(fun (l:List Int) (n:Int)=>(l.length<=1000000000,bj (eqP n) l,())) x.1 x.2.1) fun ⟨l,n,_⟩ h=>av (E:=uK l n) (qs l n h) (ab rfl [] [] rfl rfl) Tryz.func131
def qt (l:List Int) (n:Int):Env where
 P:=Tryz.prog
 ty:=aJ
 specs:=ai [AS]
def gM (l:List Int) (n:Int):Prop:=
 l.length<=(1000000000:Nat)/\(decide (0<=bj (eqP n) l),())=(l.any (eqP n),())
theorem mT (l:List Int) (n:Int) (h:l.length<=1000000000):gM l n:=by
 unfold gM;exact ⟨h,by rw [jy]⟩
def oP:FSpec Tryz.prog:=mkF 96 (.c (.l I) (.c .j .z)) [.bool] (fun x=>(fun (l:List Int) (n:Int)=>(l.length<=1000000000,l.any (eqP n),())) x.1 x.2.1) fun ⟨l,n,_⟩ h=>av (E:=qt l n) (mT l n h) (ab rfl _ [] rfl rfl) Tryz.func96
def ck (ls:List Int) (L:List Ln):Int:=if L.any ci=true then 28 else if L.any (kV ls)=true then 27 else 0
def pk (A:List En) (r:Int) (L:List Ln) (y:En):Int:=if y.2.1≠0∨bM A r≠0 then 35 else if (Ent.bt y.1 y.2.1 y.2.2).2≠0∨L≠(Ent.bt y.1 y.2.1 y.2.2).1.2.2 then 30 else 0
def dU (A:List En) (r:Int) (L:List Ln):Int:=if r=0 then 0 else if r<0∨A.length<r then 34 else match A[(r-1).toNat]? with
 |none=>0
 |some y=>pk A r L y
theorem gB {A:List En} {r:Int} {L:List Ln} {y:En} (h0:r≠0) (h1: ¬(r<0∨A.length<r)) (hy:A[(r-1).toNat]? =some y):dU A r L=pk A r L y:=by
 unfold dU;rw [Q8 h0,Q8 h1,hy]
end Bks
end
section
namespace Stk
open Go.Vm
def kg (l:List Stk) (e p:Int) (i a s f:Int) (hit:Bool):Prop:=
 0<=i/\i<=l.length/\match iJ (l.take i.toNat) e p with
  |none=>hit=false/\a=0/\s=10000
  |some q=>hit=true/\a=q.2.1/\s=q.2.2.1/\f=q.2.2.2
def Gk (l:List Stk) (e p:Int):Env where
 P:=Tryz.prog
 ty:=fun|24=>some STy|_=>none
 heads:=fun
  |3=>some {slots:=[(12, .int .i64),(8, .int .i64),(9, .int .i64),(10, .int .i64),(11, .bool)],boxes:=[],inv:=fun _ (x:Int×Int×Int×Int×Bool×Unit)=>kg l e p x.1 x.2.1 x.2.2.1 x.2.2.2.1 x.2.2.2.2.1,measure:=fun _ (x:Int×Int×Int×Int×Bool×Unit)=>(l.length-x.1).toNat}
  |_=>none
def qP (l:List Stk) (e:Int) (p:Int):Prop:=
 (True/\kg l e p 0 0 10000 0 false)/\∀(x:Int×Int×Int×Int×Bool×Unit),kg l e p x.1 x.2.1 x.2.2.1 x.2.2.2.1 x.2.2.2.2.1->(ag (x.1<l.length)->(0<=x.1/\x.1<l.length)/\∀(x_1:Int×Int×Int×Int),l[x.1.toNat]? =some x_1->(ag (x_1.1=e)->(ag (x_1.2.2.2<=p)->((!x.2.2.2.2.1)=false->(ag (x.2.2.2.1<=x_1.2.2.2)->(au (x.1+1))/\True/\kg l e p (x.1+1) x_1.2.1 x_1.2.2.1 x_1.2.2.2 true/\(l.length-(x.1+1)).toNat<(l.length-x.1).toNat)/\(aj (x.2.2.2.1<=x_1.2.2.2)->(au (x.1+1))/\True/\kg l e p (x.1+1) x.2.1 x.2.2.1 x.2.2.2.1 x.2.2.2.2.1/\(l.length-(x.1+1)).toNat<(l.length-x.1).toNat))/\((!x.2.2.2.2.1)= !false->(au (x.1+1))/\True/\kg l e p (x.1+1) x_1.2.1 x_1.2.2.1 x_1.2.2.2 true/\(l.length-(x.1+1)).toNat<(l.length-x.1).toNat))/\(aP (x_1.2.2.2<=p)->(au (x.1+1))/\True/\kg l e p (x.1+1) x.2.1 x.2.2.1 x.2.2.2.1 x.2.2.2.2.1/\(l.length-(x.1+1)).toNat<(l.length-x.1).toNat))/\(aP (x_1.1=e)->(au (x.1+1))/\True/\kg l e p (x.1+1) x.2.1 x.2.2.1 x.2.2.2.1 x.2.2.2.2.1/\(l.length-(x.1+1)).toNat<(l.length-x.1).toNat))/\(aj (x.1<l.length)->(x.2.1,x.2.2.1,())=((atF l e p).1,(atF l e p).2,()))
def qd (xs ys:List Stk):Env where
 P:=Tryz.prog
 heads:=fun|4=>some {slots:=[(5, .int .i64)],boxes:=[],inv:=fun _ (x:Int×Unit)=>0<=x.1/\x.1<=xs.length/\∀j:Nat,j<x.1.toNat->xs[j]? =ys[j]?,measure:=fun _ (x:Int×Unit)=>(xs.length-x.1).toNat}|_=>none
def gK (xs:List Stk) (ys:List Stk):Prop:=
 ((!decide ((↑xs.length:Int)=(↑ys.length:Int)))=true->(false,())=(decide (xs=ys),()))/\((!decide ((↑xs.length:Int)=(↑ys.length:Int)))=false->(True/\0<=(0:Int)/\0<=(↑xs.length:Int)/\∀(j:Nat),j<Int.toNat 0->xs[j]? =ys[j]?)/\∀(x:Int×Unit),(0<=x.1/\x.1<=xs.length/\∀(j:Nat),j<x.1.toNat->xs[j]? =ys[j]?)->(ag (x.1<xs.length)->(0<=x.1/\x.1<xs.length)/\∀(x_1:Int×Int×Int×Int),xs[x.1.toNat]? =some x_1->(0<=x.1/\x.1<ys.length)/\∀(x_2:Int×Int×Int×Int),ys[x.1.toNat]? =some x_2->((!(decide (x_1.1=x_2.1)&&(decide (x_1.2.1=x_2.2.1)&&(decide (x_1.2.2.1=x_2.2.2.1)&&(decide (x_1.2.2.2=x_2.2.2.2)&&true)))))=true->(false,())=(decide (xs=ys),()))/\((!(decide (x_1.1=x_2.1)&&(decide (x_1.2.1=x_2.2.1)&&(decide (x_1.2.2.1=x_2.2.2.1)&&(decide (x_1.2.2.2=x_2.2.2.2)&&true)))))=false->(au (x.1+1))/\True/\(0<=x.1+1/\x.1+1<=xs.length/\∀(j:Nat),j<(x.1+1).toNat->xs[j]? =ys[j]?)/\(xs.length-(x.1+1)).toNat<(xs.length-x.1).toNat))/\(aj (x.1<xs.length)->(true,())=(decide (xs=ys),())))
theorem mO (xs ys:List Stk) (h:xs.length<=1000000000):gK xs ys:=by
 unfold gK aj ag;simp only [Rb,Q6,Rd,Q7,true_and,Int.ofNat_inj,Int.toNat_zero,Nat.not_lt_zero];refine ⟨fun hne=> ?_,fun hlen=>⟨⟨by omega,by omega,fun j hj=>hj.elim⟩, ?_⟩⟩
 ·have:xs≠ys:=fun e=>hne (by rw [e]);simp [this]
 rintro ⟨i,_⟩ ⟨h1,h2,h3⟩;simp only at*;refine ⟨fun hlt=>⟨⟨h1,hlt⟩,fun x hx=>⟨⟨h1,by omega⟩,fun y hy=>⟨fun e=> ?_,fun e=>⟨by omega,⟨by omega,by omega,fun j hj=> ?_⟩,by omega⟩⟩⟩⟩,fun hge=> ?_⟩
 ·have:xs≠ys:=by
   rintro rfl;rw [hx] at hy;cases hy;simp at e
  simp [this]
 ·by_cases hji:j<i.toNat
  ·exact h3 j hji
  ·have:j=i.toNat:=by omega
   subst this;obtain ⟨a1,a2,a3,a4⟩:=x;obtain ⟨b1,b2,b3,b4⟩:=y;simp at e;obtain ⟨rfl,rfl,rfl,rfl⟩:=e;rw [hx,hy]
 ·have:xs=ys:=by
   apply Sv;intro j;by_cases hj:j<i.toNat
   ·exact h3 j hj
   ·rw [List.getElem?_eq_none (by omega),List.getElem?_eq_none (by omega)]
  simp [this]
theorem Bl (l:List Stk) (e p:Int) (h:l.length<=1000000000):qP l e p:=by
 unfold qP aj aP ag;refine ⟨⟨trivial,by simp [kg,iJ]⟩, ?_⟩;rintro ⟨i,a,s,f,hit,_⟩ hI;have hI0:=hI;obtain ⟨h1,h2,h3⟩:=hI0;simp only [Q7,Q6,true_and] at*;have step: ∀(x:Stk) a' s' f' hit',i<l.length->l[i.toNat]? =some x->(match take e p (iJ (l.take i.toNat) e p) x with
  |none=>hit'=false/\a'=0/\s'=10000
  |some q=>hit'=true/\a'=q.2.1/\s'=q.2.2.1/\f'=q.2.2.2)->kg l e p (i+1) a' s' f' hit':=by
  intro x a' s' f' hit' hi hx hm
  refine ⟨by omega,by omega, ?_⟩
  rw [aM h1,mh hx]
  exact hm
 refine ⟨fun hi=>⟨⟨h1,hi⟩,fun x hx=> ?_⟩,fun hi=> ?_⟩
 ·have st:=fun a' s' f' hit'=>step x a' s' f' hit' hi hx;clear step;generalize iJ (l.take i.toNat) e p=b at h3 st;have m1:((l.length:Int)-(i+1)).toNat<((l.length:Int)-i).toNat:=by omega
  have m2: -9223372036854775808<=i+1/\i+1<=9223372036854775807:=by omega
  simp only [m1,m2,and_true,true_and,and_self];simp only [take] at st;cases b with
  |none=>simp only at h3 st⊢;grind
  |some q=>simp only at h3 st⊢;grind
 ·have hl:l.take i.toNat=l:=Rh (by omega);rw [hl] at h3;unfold atF;split at h3
  ·rename_i hb;rw [hb];simp [h3.2.1,h3.2.2]
  ·rename_i q hb;rw [hb];simp [h3.2.1,h3.2.2.1]
set_option maxRecDepth 20000
def oQ:FSpec Tryz.prog:=mkF 38 (.c (.l STy) (.c (.l STy) .z)) [.bool] (fun x=>(fun (xs ys:List Stk)=>(xs.length<=1000000000,decide (xs=ys),())) x.1 x.2.1) fun ⟨xs,ys,_⟩ h=>av (E:=qd xs ys) (mO xs ys h) (ab rfl [] [] rfl rfl) Tryz.func38
def KH:FSpec Tryz.prog:=mkF 236 (.c (.l STy) (.c .j (.c .j .z))) [.int .i64, .int .i64] (fun x=>(fun (l:List Stk) (e p:Int)=>(l.length<=1000000000,(atF l e p).1,(atF l e p).2,())) x.1 x.2.1 x.2.2.1) fun ⟨l,e,p,_⟩ h=>av (E:=Gk l e p) (Bl l e p h) (ab rfl [] [] rfl rfl) Tryz.func236
end Stk
end
section
namespace Stk
open Go.Vm
def par (l:List Stk) (p:Int) (a:Int):Int:=(atF l a p).1
def fa (l:List Stk) (e p:Int):Nat->Int->Bool
 |0,at_=>decide (par l p at_=e)
 |n+1,at_=>if par l p at_≠e/\par l p at_≠0 then fa l e p n (par l p at_) else decide (par l p at_=e)
def ce (l:List Stk) (e p:Int):Bool:=fa l e p l.length e
def kh (l:List Stk) (e p a n:Int):Prop:=0<=n/\n<=l.length/\fa l e p (l.length-n.toNat) a=ce l e p
def Gl (l:List Stk) (e p:Int):Env where
 P:=Tryz.prog
 specs:=ai [O0]
 joins:=fun
  |2000000=>some {slots:=[(7, .int .i64),(8, .int .i64)],boxes:=[],inv:=fun _ (x:Int×Int×Unit)=>kh l e p x.1 x.2.1,measure:=fun _ (x:Int×Int×Unit)=>(l.length-x.2.1+1).toNat}
  |_=>none
def qQ (l:List Stk) (e:Int) (p:Int):Prop:=
 l.length<=(1000000000:Nat)/\(au ((0:Int)+1))/\((!decide ((atF l e p).1=e))=true->((!decide ((atF l e p).1=0))=true->(ag ((0:Int)+1<=l.length)->(0:Nat)=(0:Nat)/\(True/\kh l e p (atF l e p).1 ((0:Int)+1))/\∀(x:Int×Int×Unit),kh l e p x.1 x.2.1->l.length<=(1000000000:Nat)/\(au (x.2.1+1))/\((!decide ((atF l x.1 p).1=e))=true->((!decide ((atF l x.1 p).1=0))=true->(ag (x.2.1+1<=l.length)->(0:Nat)=(0:Nat)/\True/\kh l e p (atF l x.1 p).1 (x.2.1+1)/\(l.length-(x.2.1+1)+1).toNat<(l.length-x.2.1+1).toNat)/\(aj (x.2.1+1<=l.length)->(decide ((atF l x.1 p).1=e),())=(ce l e p,())))/\((!decide ((atF l x.1 p).1=0))= !true->(decide ((atF l x.1 p).1=e),())=(ce l e p,())))/\((!decide ((atF l x.1 p).1=e))= !true->(decide ((atF l x.1 p).1=e),())=(ce l e p,())))/\(aj ((0:Int)+1<=l.length)->(decide ((atF l e p).1=e),())=(ce l e p,())))/\((!decide ((atF l e p).1=0))= !true->(decide ((atF l e p).1=e),())=(ce l e p,())))/\((!decide ((atF l e p).1=e))= !true->(decide ((atF l e p).1=e),())=(ce l e p,()))
theorem Bm (l:List Stk) (e p:Int) (h:l.length<=1000000000):qQ l e p:=by
 have step: ∀(a n:Int),kh l e p a n->n+1<=l.length->par l p a≠e->par l p a≠0->kh l e p (par l p a) (n+1):=by
  rintro a n ⟨h1,h2,h3⟩ hn ha hb;refine ⟨by omega,by omega, ?_⟩;rw [<-h3];obtain ⟨m,hm⟩: ∃m,l.length-n.toNat=m+1:=⟨l.length-n.toNat-1,by omega⟩
  have:l.length-(n+1).toNat=m:=by omega
  rw [this,hm];simp [fa,ha,hb]
 have stop: ∀(a n:Int),kh l e p a n->(¬(n+1<=l.length)∨par l p a=e∨par l p a=0)->decide (par l p a=e)=ce l e p:=by
  rintro a n ⟨h1,h2,h3⟩ hc;rw [<-h3];cases hm:l.length-n.toNat with
  |zero=>rfl
  |succ m=>
   have:n+1<=l.length:=by omega
   rcases hc with hc|hc|hc
   ·exact absurd this hc
   ·simp [fa,hc]
   ·simp [fa,hc]
 have first:kh l e p e 0:=⟨by omega,by omega,by simp [ce]⟩
 have core: ∀(a n:Int),kh l e p a n->((!decide (par l p a=e))=true->
  ((!decide (par l p a=(0:Int)))=true->
   (decide (n+(1:Int)<=(↑l.length:Int))=true->kh l e p (par l p a) (n+(1:Int)))/\
    (decide (n+(1:Int)<=(↑l.length:Int))=false->decide (par l p a=e)=ce l e p))/\
   ((!decide (par l p a=(0:Int)))= !true->decide (par l p a=e)=ce l e p))/\
  ((!decide (par l p a=e))= !true->decide (par l p a=e)=ce l e p):=by
  intro a n hI;refine ⟨fun c1=>⟨fun c2=>⟨fun c3=>step a n hI (by simpa using c3) (by simpa using c1) (by simpa using c2),fun c3=>stop a n hI (.inl (by simpa using c3))⟩,fun c2=>stop a n hI (.inr (.inr (by simpa using c2)))⟩,fun c1=>stop a n hI (.inr (.inl (by simpa using c1)))⟩
 unfold qQ aj ag;obtain ⟨k1,k2⟩:=core e 0 first
 refine ⟨h,by omega,fun c1=>⟨fun c2=>⟨fun c3=>⟨rfl,⟨trivial,((k1 c1).1 c2).1 c3⟩, ?_⟩,fun c3=>congrArg (·,()) (((k1 c1).1 c2).2 c3)⟩,fun c2=>congrArg (·,()) ((k1 c1).2 c2)⟩,fun c1=>congrArg (·,()) (k2 c1)⟩;clear c1 c2 c3 k1 k2;rintro ⟨a,n,_⟩ hI;have hI0:=hI;obtain ⟨h1,h2,_⟩:=hI0;simp only at h1 h2;obtain ⟨k1,k2⟩:=core a n hI;simp only;exact ⟨h,by omega,fun c1=>⟨fun c2=>⟨fun c3=>⟨trivial,trivial,((k1 c1).1 c2).1 c3,by simp only [Q7] at c3;omega⟩,fun c3=>congrArg (·,()) (((k1 c1).1 c2).2 c3)⟩,fun c2=>congrArg (·,()) ((k1 c1).2 c2)⟩,fun c1=>congrArg (·,()) (k2 c1)⟩
set_option maxRecDepth 20000
def KI:FSpec Tryz.prog:=mkF 212 (.c (.l STy) (.c .j (.c .j .z))) [.bool] (fun x=>(fun (l:List Stk) (e p:Int)=>(l.length<=1000000000,ce l e p,())) x.1 x.2.1 x.2.2.1) fun ⟨l,e,p,_⟩ h=>av (E:=Gl l e p) (Bm l e p h) (ab rfl _ [] rfl rfl) Tryz.func212
end Stk
end
section
namespace Stk
open Go.Vm
theorem jI: ∀{a b:List Int},a.Nodup->(∀x∈a,x∈b)->a.length<=b.length
 |[],_,_,_=>RV _
 |x::r,b,hn,hs=>by
  obtain ⟨h1,h2⟩:=Su.1 hn;have hx:=hs x RF;have:=jI (b:=b.erase x) h2 (fun y hy=>by
   have hne:y≠x:=fun e=>h1 (e▸hy);exact (List.mem_erase_of_ne hne).2 (hs y (Rq _ hy)))
  rw [List.length_erase_of_mem hx] at this;have:0<b.length:=List.length_pos_of_mem hx;simp only [Rj];omega
theorem KJ {l:List Stk} {e p:Int} {s:Stk} (h:iJ l e p=some s):s∈l:=by
 have key: ∀(l:List Stk) (b:Option Stk),(∀q,b=some q->q∈l∨True)->∀s,l.foldl (take e p) b=some s->s∈l∨b=some s:=by
  intro l;induction l with
  |nil=>intro b _ s h;exact .inr h
  |cons x r ih=>
   intro b _ s h;rcases ih (take e p b x) (fun _ _=> .inr trivial) s h with h1|h1
   ·exact .inl (Rq _ h1)
   ·unfold take at h1;split at h1
    ·split at h1
     ·cases h1;exact .inl RF
     ·split at h1
      ·cases h1;exact .inl RF
      ·exact .inr h1
    ·exact .inr h1
 rcases key l none (fun _ _=> .inr trivial) s h with h1|h1
 ·exact h1
 ·cases h1
theorem jJ {l:List Stk} {p a:Int} (h:par l p a≠0):par l p a∈l.map (·.2.1):=by
 unfold par atF at*;split at h
 ·simp at h
 ·rename_i s hs;exact RS.2 ⟨s,KJ hs,rfl⟩
def cN (l:List Stk) (p:Int):Nat->List Int->Int->List Int
 |0,acc,_=>acc
 |n+1,acc,a=>if a≠0/\a∉acc then cN l p n (acc++[a]) (par l p a) else acc
def d_ (l:List Stk) (e p:Int):List Int:=cN l p (l.length+1) [] (par l p e)
def qR (l:List Stk) (e p:Int) (acc:List Int) (a:Int):Prop:=
 acc.Nodup/\(∀x∈acc,x∈l.map (·.2.1))/\(a≠0->a∈l.map (·.2.1))/\acc.length<=l.length/\cN l p (l.length+1-acc.length) acc a=d_ l e p
theorem Bo {l:List Stk} {e p:Int} {acc:List Int} {a:Int} (h:qR l e p acc a) (h0:a≠0) (h1:a∉acc):qR l e p (acc++[a]) (par l p a):=by
 obtain ⟨k1,k2,k3,k4,k5⟩:=h;have n1:(acc++[a]).Nodup:=List.nodup_append.2 ⟨k1,by simp,fun x hx y hy=>by
  simp only [Ru] at hy;subst hy;intro e;exact h1 (e▸hx)⟩
 have n2: ∀x∈acc++[a],x∈l.map (·.2.1):=by
  intro x hx;simp only [Rn,Ru] at hx;rcases hx with hx|rfl
  ·exact k2 x hx
  ·exact k3 h0
 have n3:=jI n1 n2;simp only [RI] at n3;refine ⟨n1,n2,jJ,n3, ?_⟩;rw [<-k5];have e1:l.length+1-acc.length=(l.length+1-(acc++[a]).length)+1:=by
  simp only [Re,Rm] at n3⊢;omega
 rw [e1,cN,Q_ ⟨h0,h1⟩]
theorem qS {l:List Stk} {e p:Int} {acc:List Int} {a:Int} (h:qR l e p acc a) (h0:a=0∨a∈acc):acc=d_ l e p:=by
 obtain ⟨k1,k2,k3,k4,k5⟩:=h;rw [<-k5];have e1:l.length+1-acc.length=(l.length-acc.length)+1:=by omega
 rw [e1,cN,Q8];rcases h0 with h0|h0
 ·exact fun h=>h.1 h0
 ·exact fun h=>h.2 h0
def Gm (l:List Stk) (e p:Int):Env where
 P:=Tryz.prog
 ty:=fun|3=>some I|_=>none
 specs:=ai [KH,tN]
 heads:=fun
  |3=>some {slots:=[(7, .slc 5000 I),(8, .int .i64)],boxes:=[],inv:=fun _ (x:List Int×Int×Unit)=>qR l e p x.1 x.2.1,measure:=fun _ (x:List Int×Int×Unit)=>l.length+1-x.1.length}
  |_=>none
def qT (l:List Stk) (e:Int) (p:Int):Prop:=
 l.length<=(1000000000:Nat)/\(True/\qR l e p [] (atF l e p).1)/\∀(x:List Int×Int×Unit),qR l e p x.1 x.2.1->((!decide (x.2.1=0))=true->x.1.length<=(1000000000:Nat)/\((!x.1.contains x.2.1)=true->((x.1.length+[x.2.1].length)*(8:Nat)<=(140737488355328:Nat)/\x.1.length+[x.2.1].length<=(4611686018427387904:Nat))/\l.length<=(1000000000:Nat)/\True/\qR l e p (x.1++[x.2.1]) (atF l x.2.1 p).1/\l.length+(1:Nat)-(x.1++[x.2.1]).length<l.length+(1:Nat)-x.1.length)/\((!x.1.contains x.2.1)=false->(x.1,())=(d_ l e p,())))/\((!decide (x.2.1=0))= !true->(x.1,())=(d_ l e p,()))
theorem Bp (l:List Stk) (e p:Int) (h:l.length<=1000000000):qT l e p:=by
 unfold qT;refine ⟨h,⟨trivial,List.nodup_nil,fun x hx=>by simp at hx,jJ,RV _,rfl⟩, ?_⟩;rintro ⟨acc,a,_⟩ hI;have h4:=hI.2.2.2.1;simp only at h4⊢;refine ⟨fun c1=>⟨by omega,fun c2=>⟨⟨?_, ?_⟩,h,trivial, ?_, ?_⟩,fun c2=> ?_⟩,fun c1=> ?_⟩
 ·simp only [Rm];omega
 ·simp only [Rm];omega
 ·exact Bo hI (by simpa using c1) (by simpa using c2)
 ·simp only [Re,Rm];omega
 ·exact congrArg (·,()) (qS hI (.inr (by simpa using c2)))
 ·exact congrArg (·,()) (qS hI (.inl (by simpa using c1)))
set_option maxRecDepth 20000
def KK:FSpec Tryz.prog:=mkF 209 (.c (.l STy) (.c .j (.c .j .z))) [.slc 0 I] (fun x=>(fun (l:List Stk) (e p:Int)=>(l.length<=1000000000,d_ l e p,())) x.1 x.2.1 x.2.2.1) fun ⟨l,e,p,_⟩ h=>av (E:=Gm l e p) (Bp l e p h) (ab rfl _ [] rfl rfl) Tryz.func209
end Stk
end
section
namespace Stk
open Go.Vm
abbrev tys:TypeId->Option Ty:=aJ
def gJ (l:List Stk):Env where
 P:=Tryz.prog
 ty:=tys
def dc (l:List Stk):Prop:=
 ((true=true->l.length=(0:Nat))->([],())=(l,()))/\((false=true->l.length=(0:Nat))->(((0:Nat)+l.length)*(32:Nat)<=(140737488355328:Nat)/\(0:Nat)+l.length<=(4611686018427387904:Nat)/\((0:Nat)<l.length∨(0:Nat)=(0:Nat)))/\(l,())=(l,()))
set_option maxRecDepth 20000
theorem fH (l:List Stk) (h:l.length<=1000000000):dc l:=by
 unfold dc;refine ⟨fun e=> ?_,fun _=>⟨⟨by omega,by omega, .inr rfl⟩,rfl⟩⟩;have:=Rk (e rfl);rw [this]
def bV:FSpec Tryz.prog:=mkF 73 (.c (.l STy) .z) [.slc 0 STy] (fun x=>(fun (l:List Stk)=>(l.length<=1000000000,l,())) x.1) fun ⟨l,_⟩ h=>av (E:=gJ l) (fH l h) (ab rfl [] [] rfl rfl) Tryz.func73
end Stk
end
section
namespace Stk
open Go.Vm
def dF (l:List Stk) (e p:Int):Nat->Int->Bool
 |m,a=>if a≠e/\a≠0 then match m with
  |0=>false
  |m+1=>dF l e p m (par l p a)
  else decide (a=e)
theorem qU (l:List Stk) (e p:Int): ∀(m:Nat) (a:Int),fa l e p m a=dF l e p m (par l p a)
 |0,a=>by
  unfold fa dF;split
  ·rename_i h;simp [h.1]
  ·rfl
 |m+1,a=>by
  unfold fa dF;split
  ·exact qU l e p m _
  ·rfl
theorem lI (l:List Stk) (p:Int): ∀(n:Nat) (acc:List Int) (a x:Int),x∈acc->x∈cN l p n acc a
 |0,acc,a,x,h=>h
 |n+1,acc,a,x,h=>by
  unfold cN;split
  ·exact lI l p n _ _ _ (R7 _ h)
  ·exact h
theorem qV (l:List Stk) (e p:Int) (he:e≠0) {acc:List Int} (hn:e∉acc) (hc: ∀x∈acc,par l p x∈acc): ∀(m:Nat) (a:Int),a∈acc->dF l e p m a=false
 |0,a,ha=>by
  have hae:a≠e:=fun h=>hn (h▸ha);unfold dF;split
  ·rfl
  ·simp [hae]
 |m+1,a,ha=>by
  have hae:a≠e:=fun h=>hn (h▸ha);unfold dF;split
  ·exact qV l e p he hn hc m _ (hc a ha)
  ·simp [hae]
theorem yh (l:List Stk) (e p:Int) (he:e≠0): ∀(m:Nat) (acc:List Int) (a:Int),acc.Nodup->(∀x∈acc,x∈l.map (·.2.1))->(a≠0->a∈l.map (·.2.1))->e∉acc->(∀x∈acc,par l p x∈acc∨par l p x=a)->
 m+acc.length=l.length->(cN l p (m+1) acc a).contains e=dF l e p m a:=by
 intro m;induction m with
 |zero=>
  intro acc a h1 h2 h3 h4 h5 h6;unfold cN dF;by_cases ha0:a=0
  ·subst ha0;simp [h4,he.symm]
  ·by_cases hac:a∈acc
   ·have hae:a≠e:=fun h=>h4 (h▸hac);simp [hac,hae,ha0,h4]
   ·exfalso;have hn:(a::acc).Nodup:=Su.2 ⟨hac,h1⟩;have:=jI hn (b:=l.map (·.2.1)) (fun x hx=>by
     rcases Rp.1 hx with rfl|hx
     ·exact h3 ha0
     ·exact h2 x hx)
    simp only [Rj,RI] at this;omega
 |succ m ih=>
  intro acc a h1 h2 h3 h4 h5 h6;by_cases ha0:a=0
  ·subst ha0;unfold cN dF;simp [h4,he.symm]
  by_cases hac:a∈acc
  ·rw [qV l e p he h4 (fun x hx=>by rcases h5 x hx with h|h;exact h;exact h▸hac) _ a hac];unfold cN;simp [hac,h4]
  by_cases hae:a=e
  ·subst hae;unfold cN;rw [Q_ ⟨ha0,hac⟩];have hm:=lI l p (m+1) (acc++[a]) (par l p a) a (by simp);unfold dF;simp [hm]
  ·have hn:(acc++[a]).Nodup:=List.nodup_append.2 ⟨h1,by simp,fun x hx y hy=>by
    simp only [Ru] at hy;subst hy;intro e;exact hac (e▸hx)⟩
   unfold cN dF;rw [Q_ ⟨ha0,hac⟩,Q_ ⟨hae,ha0⟩];refine ih (acc++[a]) (par l p a) hn (fun x hx=> ?_) jJ (fun hx=> ?_) (fun x hx=> ?_) (by simp;omega)
   ·rcases Rn.1 hx with hx|hx
    ·exact h2 x hx
    ·simp only [Ru] at hx;subst hx;exact h3 ha0
   ·rcases Rn.1 hx with hx|hx
    ·exact h4 hx
    ·simp only [Ru] at hx;exact hae hx.symm
   ·rcases Rn.1 hx with hx|hx
    ·rcases h5 x hx with h|h
     ·exact .inl (R7 _ h)
     ·exact .inl (by rw [h];simp)
    ·simp only [Ru] at hx;subst hx;exact .inr rfl
theorem Gn (l:List Stk) (e p:Int) (he:e≠0):(d_ l e p).contains e=ce l e p:=by
 unfold ce d_;rw [qU];exact yh l e p he l.length [] (par l p e) List.nodup_nil (fun x hx=>by simp at hx) jJ (by simp) (fun x hx=>by simp at hx) (by simp)
def cj (l:List Stk):Stk:=l.getLastD (0,0,0,0)
def P8 (l:List Stk) (e:Int):Bool:=(List.range 24).any fun p=>ce l e p
def aE (l:List Stk) (n:Int):Int:=
 if (cj l).1<1∨n<(cj l).1∨(cj l).2.1<0∨n<(cj l).2.1 then 20
 else if (cj l).2.2.1<0∨10000<(cj l).2.2.1∨((cj l).2.1=0/\(cj l).2.2.1≠10000) then 12
 else if (cj l).2.2.2<0∨24<=(cj l).2.2.2 then 22
 else if P8 l (cj l).1 then 26 else 0
theorem yi {l:List Stk} (h:0<l.length):l[l.length-1]? =some (cj l):=by
 unfold cj;rw [List.getLastD_eq_getLast?,List.getLast?_eq_getElem?];have:l.length-1<l.length:=by omega
 rw [List.getElem?_eq_getElem this];rfl
def cG (l:List Stk) (k:Int):Prop:=0<=k/\k<=24/\∀j:Nat,j<k.toNat->ce l (cj l).1 j=false
def iN (l:List Stk) (_n:Int):Env where
 P:=Tryz.prog
 ty:=tys
 specs:=ai [KI]
 heads:=fun
  |9=>some {slots:=[(62, .int .i64)],boxes:=[],keep:=[5],inv:=fun _ (x:Int×Unit)=>cG l x.1,measure:=fun _ (x:Int×Unit)=>(24-x.1).toNat}
  |_=>none
def dM (l:List Stk) (n:Int):Prop:=
 (au ((↑l.length:Int)-(1:Int)))/\(0<=(↑l.length:Int)-(1:Int)/\(↑l.length:Int)-(1:Int)<(↑l.length:Int))/\∀(x:Int×Int×Int×Int),l[((↑l.length:Int)-(1:Int)).toNat]? =some x->(decide (x.1<1)=false->(decide (n<x.1)=false->(decide (x.2.1<0)=false->(decide (n<x.2.1)=true->((20:Int),())=(aE l n,()))/\(decide (n<x.2.1)=false->(decide (x.2.2.1<0)=false->(decide (10000<x.2.2.1)=false->(decide (x.2.1=0)=true->((!decide (x.2.2.1=10000))=true->((12:Int),())=(aE l n,()))/\((!decide (x.2.2.1=10000))=false->(decide (x.2.2.2<0)=false->(decide (24<=x.2.2.2)=true->((22:Int),())=(aE l n,()))/\(decide (24<=x.2.2.2)=false->((some (Obj.box [V.int IntKind.i64 x.1,V.int IntKind.i64 x.2.1,V.int IntKind.i64 x.2.2.1,V.int IntKind.i64 x.2.2.2])=some (Obj.box [V.int IntKind.i64 x.1,V.int IntKind.i64 x.2.1,V.int IntKind.i64 x.2.2.1,V.int IntKind.i64 x.2.2.2])/\True)/\cG l 0)/\∀(x_1:Int×Unit),cG l x_1.1->(decide (x_1.1<24)=true->l.length<=(1000000000:Nat)/\(ce l x.1 x_1.1=true->((26:Int),())=(aE l n,()))/\(ce l x.1 x_1.1=false->(au (x_1.1+1))/\(some (Obj.box [V.int IntKind.i64 x.1,V.int IntKind.i64 x.2.1,V.int IntKind.i64 x.2.2.1,V.int IntKind.i64 x.2.2.2])=some (Obj.box [V.int IntKind.i64 x.1,V.int IntKind.i64 x.2.1,V.int IntKind.i64 x.2.2.1,V.int IntKind.i64 x.2.2.2])/\True)/\cG l (x_1.1+1)/\((24:Int)-(x_1.1+1)).toNat<((24:Int)-x_1.1).toNat))/\(decide (x_1.1<24)=false->((0:Int),())=(aE l n,()))))/\(decide (x.2.2.2<0)= !false->((22:Int),())=(aE l n,()))))/\(decide (x.2.1=0)= !true->(decide (x.2.2.2<0)=false->(decide (24<=x.2.2.2)=true->((22:Int),())=(aE l n,()))/\(decide (24<=x.2.2.2)=false->((some (Obj.box [V.int IntKind.i64 x.1,V.int IntKind.i64 x.2.1,V.int IntKind.i64 x.2.2.1,V.int IntKind.i64 x.2.2.2])=some (Obj.box [V.int IntKind.i64 x.1,V.int IntKind.i64 x.2.1,V.int IntKind.i64 x.2.2.1,V.int IntKind.i64 x.2.2.2])/\True)/\cG l 0)/\∀(x_1:Int×Unit),cG l x_1.1->(decide (x_1.1<24)=true->l.length<=(1000000000:Nat)/\(ce l x.1 x_1.1=true->((26:Int),())=(aE l n,()))/\(ce l x.1 x_1.1=false->(au (x_1.1+1))/\(some (Obj.box [V.int IntKind.i64 x.1,V.int IntKind.i64 x.2.1,V.int IntKind.i64 x.2.2.1,V.int IntKind.i64 x.2.2.2])=some (Obj.box [V.int IntKind.i64 x.1,V.int IntKind.i64 x.2.1,V.int IntKind.i64 x.2.2.1,V.int IntKind.i64 x.2.2.2])/\True)/\cG l (x_1.1+1)/\((24:Int)-(x_1.1+1)).toNat<((24:Int)-x_1.1).toNat))/\(decide (x_1.1<24)=false->((0:Int),())=(aE l n,()))))/\(decide (x.2.2.2<0)= !false->((22:Int),())=(aE l n,()))))/\(decide (10000<x.2.2.1)= !false->((12:Int),())=(aE l n,())))/\(decide (x.2.2.1<0)= !false->((12:Int),())=(aE l n,()))))/\(decide (x.2.1<0)= !false->((20:Int),())=(aE l n,())))/\(decide (n<x.1)= !false->((20:Int),())=(aE l n,())))/\(decide (x.1<1)= !false->((20:Int),())=(aE l n,()))
theorem Dm {l:List Stk} {k:Int} (h:cG l k):0<=k/\k<=24:=⟨h.1,h.2.1⟩
theorem Dn (l:List Stk):cG l 0:=⟨by omega,by omega,fun j hj=>by simp at hj⟩
theorem Do {l:List Stk} {k:Int} (h:cG l k) (hk:k<24) (hr:ce l (cj l).1 k=false):cG l (k+1):=by
 obtain ⟨h1,h2,h3⟩:=h;refine ⟨by omega,by omega,fun j hj=> ?_⟩;by_cases e:j<k.toNat
 ·exact h3 j e
 ·have:(j:Int)=k:=by omega
  rw [this];exact hr
theorem yj {l:List Stk} {k:Int} (h:cG l k) (hk:k<24) (hr:ce l (cj l).1 k=true):P8 l (cj l).1=true:=by
 obtain ⟨h1,h2,h3⟩:=h;refine Sd.2 ⟨k.toNat,RX.2 (by omega), ?_⟩;rw [show ((k.toNat:Nat):Int)=k by omega];exact hr
theorem Dp {l:List Stk} {k:Int} (h:cG l k) (hk: ¬k<24):P8 l (cj l).1=false:=by
 obtain ⟨h1,h2,h3⟩:=h;refine Sw.2 (fun j hj=> ?_);rw [h3 j (by have:=RX.1 hj;omega)];simp
theorem gA (l : List Stk) (n : Int) (h : 0 < l.length /\ l.length <= 1000000000) : dM l n := by
  unfold dM
  obtain ⟨ha, hb⟩ := h
  refine ⟨by omega, by omega, fun x hx => ?_⟩
  obtain rfl : x = cj l := by
    rw [show ((l.length : Int) - 1).toNat = l.length - 1 by omega, yi ha] at hx
    exact (Option.some.inj hx).symm
  simp only [Q7, Q6, Rl, Rg, Rb, Rd, true_and, and_true]
  repeat' (first | (with_reducible apply And.intro) | intro _)
  all_goals first
    | exact hb
    | exact Dn l
    | exact Do ‹_› ‹_› ‹_›
    | (have := Dm ‹cG _ _›; omega)
    | (have hc := yj ‹cG _ _› ‹_› ‹_›
       refine congrArg (·, ()) ?_
       unfold aE
       rw [hc]
       simp only [if_true]
       repeat' split
       all_goals first | rfl | (exfalso; omega))
    | (have hc := Dp ‹cG _ _› ‹_›
       refine congrArg (·, ()) ?_
       unfold aE
       rw [hc]
       simp only [Rx, if_false]
       repeat' split
       all_goals first | rfl | (exfalso; omega))
    | (refine congrArg (·, ()) ?_
       unfold aE
       repeat' split
       all_goals first | rfl | (exfalso; omega))
set_option maxRecDepth 20000
def kU:FSpec Tryz.prog:=mkF 186 (.c (.l STy) (.c .j .z)) [.int .i64] (fun x=>(fun (l:List Stk) (n:Int)=>(0<l.length/\l.length<=1000000000,aE l n,())) x.1 x.2.1) fun ⟨l,n,_⟩ h=>av (E:=iN l n) (gA l n h) (ab rfl _ [] rfl rfl) Tryz.func186
def yk (l:List Stk) (_n:Int):Env where
 P:=Tryz.prog
 ty:=tys
 specs:=ai [KK,tN]
 frz:=fun|67=>true|_=>false
 heads:=fun
  |9=>some {slots:=[(6, .int .i64)],boxes:=[],keep:=[5],inv:=fun _ (x:Int×Unit)=>cG l x.1,measure:=fun _ (x:Int×Unit)=>(24-x.1).toNat}
  |_=>none
def lJ (l:List Stk) (n:Int):Prop:=
 (au ((↑l.length:Int)-(1:Int)))/\(0<=(↑l.length:Int)-(1:Int)/\(↑l.length:Int)-(1:Int)<(↑l.length:Int))/\∀(x:Int×Int×Int×Int),l[((↑l.length:Int)-(1:Int)).toNat]? =some x->(decide (x.1<1)=false->(decide (n<x.1)=false->(decide (x.2.1<0)=false->(decide (n<x.2.1)=true->((20:Int),())=(aE l n,()))/\(decide (n<x.2.1)=false->(decide (x.2.2.1<0)=false->(decide (10000<x.2.2.1)=false->(decide (x.2.1=0)=true->((!decide (x.2.2.1=10000))=true->((12:Int),())=(aE l n,()))/\((!decide (x.2.2.1=10000))=false->(decide (x.2.2.2<0)=false->(decide (24<=x.2.2.2)=true->((22:Int),())=(aE l n,()))/\(decide (24<=x.2.2.2)=false->((some (Obj.box [V.int IntKind.i64 x.1,V.int IntKind.i64 x.2.1,V.int IntKind.i64 x.2.2.1,V.int IntKind.i64 x.2.2.2])=some (Obj.box [V.int IntKind.i64 x.1,V.int IntKind.i64 x.2.1,V.int IntKind.i64 x.2.2.1,V.int IntKind.i64 x.2.2.2])/\True)/\cG l 0)/\∀(x_1:Int×Unit),cG l x_1.1->(decide (x_1.1<24)=true->l.length<=(1000000000:Nat)/\(d_ l x.1 x_1.1).length<=(1000000000:Nat)/\((d_ l x.1 x_1.1).contains x.1=true->((26:Int),())=(aE l n,()))/\((d_ l x.1 x_1.1).contains x.1=false->(au (x_1.1+1))/\(some (Obj.box [V.int IntKind.i64 x.1,V.int IntKind.i64 x.2.1,V.int IntKind.i64 x.2.2.1,V.int IntKind.i64 x.2.2.2])=some (Obj.box [V.int IntKind.i64 x.1,V.int IntKind.i64 x.2.1,V.int IntKind.i64 x.2.2.1,V.int IntKind.i64 x.2.2.2])/\True)/\cG l (x_1.1+1)/\((24:Int)-(x_1.1+1)).toNat<((24:Int)-x_1.1).toNat))/\(decide (x_1.1<24)=false->((0:Int),())=(aE l n,()))))/\(decide (x.2.2.2<0)= !false->((22:Int),())=(aE l n,()))))/\(decide (x.2.1=0)= !true->(decide (x.2.2.2<0)=false->(decide (24<=x.2.2.2)=true->((22:Int),())=(aE l n,()))/\(decide (24<=x.2.2.2)=false->((some (Obj.box [V.int IntKind.i64 x.1,V.int IntKind.i64 x.2.1,V.int IntKind.i64 x.2.2.1,V.int IntKind.i64 x.2.2.2])=some (Obj.box [V.int IntKind.i64 x.1,V.int IntKind.i64 x.2.1,V.int IntKind.i64 x.2.2.1,V.int IntKind.i64 x.2.2.2])/\True)/\cG l 0)/\∀(x_1:Int×Unit),cG l x_1.1->(decide (x_1.1<24)=true->l.length<=(1000000000:Nat)/\(d_ l x.1 x_1.1).length<=(1000000000:Nat)/\((d_ l x.1 x_1.1).contains x.1=true->((26:Int),())=(aE l n,()))/\((d_ l x.1 x_1.1).contains x.1=false->(au (x_1.1+1))/\(some (Obj.box [V.int IntKind.i64 x.1,V.int IntKind.i64 x.2.1,V.int IntKind.i64 x.2.2.1,V.int IntKind.i64 x.2.2.2])=some (Obj.box [V.int IntKind.i64 x.1,V.int IntKind.i64 x.2.1,V.int IntKind.i64 x.2.2.1,V.int IntKind.i64 x.2.2.2])/\True)/\cG l (x_1.1+1)/\((24:Int)-(x_1.1+1)).toNat<((24:Int)-x_1.1).toNat))/\(decide (x_1.1<24)=false->((0:Int),())=(aE l n,()))))/\(decide (x.2.2.2<0)= !false->((22:Int),())=(aE l n,()))))/\(decide (10000<x.2.2.1)= !false->((12:Int),())=(aE l n,())))/\(decide (x.2.2.1<0)= !false->((12:Int),())=(aE l n,()))))/\(decide (x.2.1<0)= !false->((20:Int),())=(aE l n,())))/\(decide (n<x.1)= !false->((20:Int),())=(aE l n,())))/\(decide (x.1<1)= !false->((20:Int),())=(aE l n,()))
theorem Bq (l:List Stk) (e p:Int):(d_ l e p).length<=l.length:=by
 have key: ∀(n:Nat) (acc:List Int) (a:Int),acc.Nodup->(∀x∈acc,x∈l.map (·.2.1))->(a≠0->a∈l.map (·.2.1))->acc.length<=l.length->(cN l p n acc a).length<=l.length:=by
  intro n;induction n with
  |zero=>intro acc a _ _ _ h;exact h
  |succ n ih=>
   intro acc a h1 h2 h3 h4;unfold cN;split
   ·rename_i hc;have hn:(acc++[a]).Nodup:=List.nodup_append.2 ⟨h1,by simp,fun x hx y hy=>by
     simp only [Ru] at hy;subst hy;intro e;exact hc.2 (e▸hx)⟩
    have hs: ∀x∈acc++[a],x∈l.map (·.2.1):=fun x hx=>by
     rcases Rn.1 hx with hx|hx
     ·exact h2 x hx
     ·simp only [Ru] at hx;subst hx;exact h3 hc.1
    have:=jI hn hs;exact ih _ _ hn hs jJ (by simpa using this)
   ·exact h4
 exact key _ [] _ List.nodup_nil (fun x hx=>by simp at hx) jJ (RV _)
theorem uZ (l : List Stk) (n : Int) (h : 0 < l.length /\ l.length <= 1000000000) : lJ l n := by
  unfold lJ
  obtain ⟨ha, hb⟩ := h
  refine ⟨by omega, by omega, fun x hx => ?_⟩
  obtain rfl : x = cj l := by
    rw [show ((l.length : Int) - 1).toNat = l.length - 1 by omega, yi ha] at hx
    exact (Option.some.inj hx).symm
  have hal := fun p => Bq l (cj l).1 p
  by_cases he : (cj l).1 = 0
  · simp only [he, Q7, Q6]
    refine ⟨fun hh => absurd hh (by decide), fun _ => ?_⟩
    refine congrArg (·, ()) ?_
    unfold aE
    rw [Q_ (.inl (by omega))]
  have hce := fun p => Gn l (cj l).1 p he
  simp only [hce]
  simp only [Q7, Q6, Rl, Rg, Rb, Rd, true_and, and_true]
  repeat' (first | (with_reducible apply And.intro) | intro _)
  all_goals first
    | exact hb
    | (have := hal ‹Int × Unit›.1; omega)
    | exact Dn l
    | exact Do ‹_› ‹_› ‹_›
    | (have := Dm ‹cG _ _›; omega)
    | (have hc := yj ‹cG _ _› ‹_› ‹_›
       refine congrArg (·, ()) ?_
       unfold aE
       rw [hc]
       simp only [if_true]
       repeat' split
       all_goals first | rfl | (exfalso; omega))
    | (have hc := Dp ‹cG _ _› ‹_›
       refine congrArg (·, ()) ?_
       unfold aE
       rw [hc]
       simp only [Rx, if_false]
       repeat' split
       all_goals first | rfl | (exfalso; omega))
    | (refine congrArg (·, ()) ?_
       unfold aE
       repeat' split
       all_goals first | rfl | (exfalso; omega))
def Br:FSpec Tryz.prog:=mkF 170 (.c (.l STy) (.c .j .z)) [.int .i64] (fun x=>(fun (l:List Stk) (n:Int)=>(0<l.length/\l.length<=1000000000,aE l n,())) x.1 x.2.1) fun ⟨l,n,_⟩ h=>av (E:=yk l n) (uZ l n h) (ab rfl _ [] rfl rfl) Tryz.func170
end Stk
end
section
namespace Stk
open Go.Vm
def aw (l:List Stk) (s:Stk) (n:Int):List Stk×Int:=
 if 400<=l.length then ([],3) else if aE (l++[s]) n=0 then (l++[s],0) else ([],aE (l++[s]) n)
def g8 (_l:List Stk) (_a _b _c _d:Int) (_n:Int):Env where
 P:=Tryz.prog
 ty:=tys
 specs:=ai [kU,bV]
def cX (l:List Stk) (a:Int) (b:Int) (c:Int) (d:Int) (n:Int):Prop:=
 (ag ((400:Int)<=(↑l.length:Int))->([],(3:Int),())=((aw l (a,b,c,d) n).1,(aw l (a,b,c,d) n).2,()))/\(aj ((400:Int)<=(↑l.length:Int))->l.length<=(1000000000:Nat)/\((l.length+(1:Nat))*(32:Nat)<=(140737488355328:Nat)/\l.length+(1:Nat)<=(4611686018427387904:Nat))/\((0:Nat)<(l++[(a,b,c,d)]).length/\(l++[(a,b,c,d)]).length<=(1000000000:Nat))/\((!decide (aE (l++[(a,b,c,d)]) n=0))=true->([],aE (l++[(a,b,c,d)]) n,())=((aw l (a,b,c,d) n).1,(aw l (a,b,c,d) n).2,()))/\((!decide (aE (l++[(a,b,c,d)]) n=0))=false->(l++[(a,b,c,d)],(0:Int),())=((aw l (a,b,c,d) n).1,(aw l (a,b,c,d) n).2,())))
def Bs (_l:List Stk) (_a _b _c _d:Int) (_n:Int):Env where
 P:=Tryz.prog
 ty:=tys
 specs:=ai [Br]
def oi (l:List Stk) (a:Int) (b:Int) (c:Int) (d:Int) (n:Int):Prop:=
 (ag ((400:Int)<=(↑l.length:Int))->([],(3:Int),())=((aw l (a,b,c,d) n).1,(aw l (a,b,c,d) n).2,()))/\(aj ((400:Int)<=(↑l.length:Int))->(((0:Nat)+l.length)*(32:Nat)<=(140737488355328:Nat)/\(0:Nat)+l.length<=(4611686018427387904:Nat)/\((0:Nat)<l.length∨(0:Nat)=(0:Nat)))/\((l.length+(1:Nat))*(32:Nat)<=(140737488355328:Nat)/\l.length+(1:Nat)<=(4611686018427387904:Nat))/\((0:Nat)<(l++[(a,b,c,d)]).length/\(l++[(a,b,c,d)]).length<=(1000000000:Nat))/\((!decide (aE (l++[(a,b,c,d)]) n=0))=true->([],aE (l++[(a,b,c,d)]) n,())=((aw l (a,b,c,d) n).1,(aw l (a,b,c,d) n).2,()))/\((!decide (aE (l++[(a,b,c,d)]) n=0))=false->(l++[(a,b,c,d)],(0:Int),())=((aw l (a,b,c,d) n).1,(aw l (a,b,c,d) n).2,())))
theorem fx (l:List Stk) (a b c d:Int) (n:Int) (h:l.length<=1000000000):cX l a b c d n:=by
 unfold cX aj ag;simp only [Q7,Q6,Rb,Rd,Re,Rm];refine ⟨fun hc=> ?_,fun hc=>⟨h,by omega,by omega,fun hr=> ?_,fun hr=> ?_⟩⟩
 ·rw [aw,Q_ (by omega)]
 ·rw [aw,Q8 (by omega),Q8 hr]
 ·rw [aw,Q8 (by omega),Q_ hr]
set_option maxRecDepth 20000
def fy:FSpec Tryz.prog:=mkF 136 (.c (.l STy) (.c (.g (.c .j (.c .j (.c .j (.c .j .z))))) (.c .j .z))) [.list .part STy, .int .i64] (fun x=>(fun (l:List Stk) (a b c d:Int) (n:Int)=>(l.length<=1000000000,(aw l (a,b,c,d) n).1,(aw l (a,b,c,d) n).2,())) x.1 x.2.1.1 x.2.1.2.1 x.2.1.2.2.1 x.2.1.2.2.2.1 x.2.2.1) fun ⟨l,⟨a,b,c,d,_⟩,n,_⟩ h=>av (E:=g8 l a b c d n) (fx l a b c d n h) (ab rfl _ [] rfl rfl) Tryz.func136
theorem ym (l:List Stk) (a b c d:Int) (n:Int) (h:l.length<=1000000000):oi l a b c d n:=by
 unfold oi aj ag;simp only [Q7,Q6,Rb,Rd,Re,Rm];refine ⟨fun hc=> ?_,fun hc=>⟨⟨by omega,by omega, .inr trivial⟩,by omega,by omega,fun hr=> ?_,fun hr=> ?_⟩⟩
 ·rw [aw,Q_ (by omega)]
 ·rw [aw,Q8 (by omega),Q8 hr]
 ·rw [aw,Q8 (by omega),Q_ hr]
def Fe:FSpec Tryz.prog:=mkF 121 (.c (.l STy) (.c (.g (.c .j (.c .j (.c .j (.c .j .z))))) (.c .j .z))) [.list .part STy, .int .i64] (fun x=>(fun (l:List Stk) (a b c d:Int) (n:Int)=>(l.length<=1000000000,(aw l (a,b,c,d) n).1,(aw l (a,b,c,d) n).2,())) x.1 x.2.1.1 x.2.1.2.1 x.2.1.2.2.1 x.2.1.2.2.2.1 x.2.2.1) fun ⟨l,⟨a,b,c,d,_⟩,n,_⟩ h=>av (E:=Bs l a b c d n) (ym l a b c d n h) (ab rfl _ [] rfl rfl) Tryz.func121
end Stk
end
end
end Go.Proofs.YtabicbgeoiilmaaGreatDoor
