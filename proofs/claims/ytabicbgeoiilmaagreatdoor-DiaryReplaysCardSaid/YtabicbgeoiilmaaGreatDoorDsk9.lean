import Derived.Test.YtabicbgeoiilmaaGreatDoorDsk6
namespace Go.Proofs.YtabicbgeoiilmaaGreatDoor
noncomputable section
section
namespace Dsk
open Go.Vm
open Bks (En InE Sm dp ci)
def bn (B:Bk) (x:En):Bk×Int:=match B with|(E,A,S,R,K,N)=>fin (dG K N x).2 (E,A,S,R,K,(dG K N x).1)
def I_ (E:List Int) (A:List Acc.AcD) (S:List Ln) (R:List Rts.Rt) (K:List Lck.Lk) (N:List En) (p r:Int) (L:List Ln):Env where
 P:=Tryz.prog
 ty:=aJ
 specs:=ai [Ent.p_,Lck.LR]
 asArr:=fun|19=>true|24=>true|_=>false
 frz:=fun|11=>true|12=>true|_=>false
abbrev Ja:Ann:={slots:=bB 0 [.list .part I, .list .part AcT, .list .part LnT, .list .part RTy, .list .part Vl, .list .part EnT, .int .i64],boxes:=[],inv:=fun _ _=>True}
def sv (E:List Int) (A:List Acc.AcD) (S:List Ln) (R:List Rts.Rt) (K:List Lck.Lk) (N:List En) (p:Int) (r:Int) (L:List Ln):Prop:=
 L.length<=(1000000000:Nat)/\(K.length<=(1000000:Nat)/\(Ent.bh L).length<=(1000000:Nat))/\((Ent.bh L).any (Lck.lkP K p)=true->True/\([],[],[],[],[],[],(33:Int),())=((bn (E,A,S,R,K,N) (p,r,L)).1.1,(bn (E,A,S,R,K,N) (p,r,L)).1.2.1,(bn (E,A,S,R,K,N) (p,r,L)).1.2.2.1,(bn (E,A,S,R,K,N) (p,r,L)).1.2.2.2.1,(bn (E,A,S,R,K,N) (p,r,L)).1.2.2.2.2.1,(bn (E,A,S,R,K,N) (p,r,L)).1.2.2.2.2.2,(bn (E,A,S,R,K,N) (p,r,L)).2,()))/\((Ent.bh L).any (Lck.lkP K p)=false->(decide ((2000:Int)<=(↑N.length:Int))=true->True/\([],[],[],[],[],[],(3:Int),())=((bn (E,A,S,R,K,N) (p,r,L)).1.1,(bn (E,A,S,R,K,N) (p,r,L)).1.2.1,(bn (E,A,S,R,K,N) (p,r,L)).1.2.2.1,(bn (E,A,S,R,K,N) (p,r,L)).1.2.2.2.1,(bn (E,A,S,R,K,N) (p,r,L)).1.2.2.2.2.1,(bn (E,A,S,R,K,N) (p,r,L)).1.2.2.2.2.2,(bn (E,A,S,R,K,N) (p,r,L)).2,()))/\(decide ((2000:Int)<=(↑N.length:Int))=false->(((0:Nat)+N.length)*(40:Nat)<=(140737488355328:Nat)/\(0:Nat)+N.length<=(4611686018427387904:Nat))/\((N.length+(1:Nat))*(40:Nat)<=(140737488355328:Nat)/\N.length+(1:Nat)<=(4611686018427387904:Nat))/\True/\(E,A,S,R,K,N++[(p,r,L)],(0:Int),())=((bn (E,A,S,R,K,N) (p,r,L)).1.1,(bn (E,A,S,R,K,N) (p,r,L)).1.2.1,(bn (E,A,S,R,K,N) (p,r,L)).1.2.2.1,(bn (E,A,S,R,K,N) (p,r,L)).1.2.2.2.1,(bn (E,A,S,R,K,N) (p,r,L)).1.2.2.2.2.1,(bn (E,A,S,R,K,N) (p,r,L)).1.2.2.2.2.2,(bn (E,A,S,R,K,N) (p,r,L)).2,())))
theorem Fd (E:List Int) (A:List Acc.AcD) (S:List Ln) (R:List Rts.Rt) (K:List Lck.Lk) (N:List En) (p r:Int) (L:List Ln) (h:L.length<=1000000/\K.length<=1000000/\N.length<=1000000):sv E A S R K N p r L:=by
 obtain ⟨h1,h2,h3⟩:=h;have hel:=Ent.gI L;unfold sv;simp only [Q7,Q6,Rb,Rd,Rl,Rg];repeat' (first|with_reducible apply And.intro|intro _)
 all_goals try (first|trivial|rfl|omega)
 all_goals (unfold bn;dsimp only)
 all_goals first
  |(rw [xd (by assumption)];rfl)
  |(rw [xe (by assumption) (by assumption)];rfl)
  |(rw [It (by assumption) (by assumption)];rfl)
set_option maxRecDepth 20000
def M2:FSpec Tryz.prog:=mkG 93 (.c (.g (.c (.p I) (.c (.p AcT) (.c (.p LnT) (.c (.p RTy) (.c (.p Vl) (.c (.p EnT) .z))))))) (.c (.g (.c .j (.c .j (.c (.p LnT) .z)))) .z)) (fun x=>(fun (E:List Int) (A:List Acc.AcD) (S:List Ln) (R:List Rts.Rt) (K:List Lck.Lk) (N:List En) (p r:Int) (L:List Ln)=>(L.length<=1000000/\K.length<=1000000/\N.length<=1000000,(.tuple [.agg [.list .part I ((bn (E,A,S,R,K,N) (p,r,L)).1.1), .list .part AcT ((bn (E,A,S,R,K,N) (p,r,L)).1.2.1), .list .part LnT ((bn (E,A,S,R,K,N) (p,r,L)).1.2.2.1), .list .part RTy ((bn (E,A,S,R,K,N) (p,r,L)).1.2.2.2.1), .list .part Vl ((bn (E,A,S,R,K,N) (p,r,L)).1.2.2.2.2.1), .list .part EnT ((bn (E,A,S,R,K,N) (p,r,L)).1.2.2.2.2.2)], .int .i64 (bn (E,A,S,R,K,N) (p,r,L)).2]))) x.1.1 x.1.2.1 x.1.2.2.1 x.1.2.2.2.1 x.1.2.2.2.2.1 x.1.2.2.2.2.2.1 x.2.1.1 x.2.1.2.1 x.2.1.2.2.1) fun ⟨⟨E,A,S,R,K,N,_⟩,⟨p,r,L,_⟩,_⟩ h=>Pure.of_condG (E:=I_ E A S R K N p r L) (sh:=[some 6,none]) (ann:=Ja) (x:=(fun (E:List Int) (A:List Acc.AcD) (S:List Ln) (R:List Rts.Rt) (K:List Lck.Lk) (N:List En) (p r:Int) (L:List Ln)=>((bn (E,A,S,R,K,N) (p,r,L)).1.1,(bn (E,A,S,R,K,N) (p,r,L)).1.2.1,(bn (E,A,S,R,K,N) (p,r,L)).1.2.2.1,(bn (E,A,S,R,K,N) (p,r,L)).1.2.2.2.1,(bn (E,A,S,R,K,N) (p,r,L)).1.2.2.2.2.1,(bn (E,A,S,R,K,N) (p,r,L)).1.2.2.2.2.2,(bn (E,A,S,R,K,N) (p,r,L)).2,())) E A S R K N p r L) (by kernel_rfl) (Fd E A S R K N p r L h) rfl (ab rfl _ [] rfl rfl) mixed Tryz.func93
def As (E:List Int) (A:List Acc.AcD) (S:List Ln) (R:List Rts.Rt) (K:List Lck.Lk) (N:List En) (k a b c d:Int) (s q:Bool) (n m:Int) (l:List Ln):Env where
 P:=Tryz.prog
 ty:=aJ
 specs:=ai [Cur.kT,Acc.kT,Acc.Hp,Stk.Fe,Rts.LW,Lck.kT,Bks.Hv]
abbrev At:Ann:={slots:=bB 0 [.list .part I, .list .part AcT, .list .part LnT, .list .part RTy, .list .part Vl, .list .part EnT, .int .i64],boxes:=[],inv:=fun _ _=>True}
def nQ (E:List Int) (A:List Acc.AcD) (S:List Ln) (R:List Rts.Rt) (K:List Lck.Lk) (N:List En) (k:Int) (a:Int) (b:Int) (c:Int) (d:Int) (s:Bool) (q:Bool) (n:Int) (m:Int) (l:List Ln):Prop:=
 (decide (k=1)=true->E.length<=(1000000:Nat)/\((!decide ((Cur.aw E a).2=0))=true->True/\([],[],[],[],[],[],(Cur.aw E a).2,())=((doF (E,A,S,R,K,N) (k,a,b,c,d,s,q,(n,m),l)).1.1,(doF (E,A,S,R,K,N) (k,a,b,c,d,s,q,(n,m),l)).1.2.1,(doF (E,A,S,R,K,N) (k,a,b,c,d,s,q,(n,m),l)).1.2.2.1,(doF (E,A,S,R,K,N) (k,a,b,c,d,s,q,(n,m),l)).1.2.2.2.1,(doF (E,A,S,R,K,N) (k,a,b,c,d,s,q,(n,m),l)).1.2.2.2.2.1,(doF (E,A,S,R,K,N) (k,a,b,c,d,s,q,(n,m),l)).1.2.2.2.2.2,(doF (E,A,S,R,K,N) (k,a,b,c,d,s,q,(n,m),l)).2,()))/\((!decide ((Cur.aw E a).2=0))=false->((!decide ((0:Int)=(0:Int)))=true->Sm (Cur.aw E a).1 A S R K N/\(Bks.cg N 0=true->True/\([],[],[],[],[],[],(29:Int),())=((doF (E,A,S,R,K,N) (k,a,b,c,d,s,q,(n,m),l)).1.1,(doF (E,A,S,R,K,N) (k,a,b,c,d,s,q,(n,m),l)).1.2.1,(doF (E,A,S,R,K,N) (k,a,b,c,d,s,q,(n,m),l)).1.2.2.1,(doF (E,A,S,R,K,N) (k,a,b,c,d,s,q,(n,m),l)).1.2.2.2.1,(doF (E,A,S,R,K,N) (k,a,b,c,d,s,q,(n,m),l)).1.2.2.2.2.1,(doF (E,A,S,R,K,N) (k,a,b,c,d,s,q,(n,m),l)).1.2.2.2.2.2,(doF (E,A,S,R,K,N) (k,a,b,c,d,s,q,(n,m),l)).2,()))/\(Bks.cg N 0=false->True/\((Cur.aw E a).1,A,S,R,K,N,(0:Int),())=((doF (E,A,S,R,K,N) (k,a,b,c,d,s,q,(n,m),l)).1.1,(doF (E,A,S,R,K,N) (k,a,b,c,d,s,q,(n,m),l)).1.2.1,(doF (E,A,S,R,K,N) (k,a,b,c,d,s,q,(n,m),l)).1.2.2.1,(doF (E,A,S,R,K,N) (k,a,b,c,d,s,q,(n,m),l)).1.2.2.2.1,(doF (E,A,S,R,K,N) (k,a,b,c,d,s,q,(n,m),l)).1.2.2.2.2.1,(doF (E,A,S,R,K,N) (k,a,b,c,d,s,q,(n,m),l)).1.2.2.2.2.2,(doF (E,A,S,R,K,N) (k,a,b,c,d,s,q,(n,m),l)).2,())))/\((!decide ((0:Int)=(0:Int)))= !true->True/\((Cur.aw E a).1,A,S,R,K,N,(0:Int),())=((doF (E,A,S,R,K,N) (k,a,b,c,d,s,q,(n,m),l)).1.1,(doF (E,A,S,R,K,N) (k,a,b,c,d,s,q,(n,m),l)).1.2.1,(doF (E,A,S,R,K,N) (k,a,b,c,d,s,q,(n,m),l)).1.2.2.1,(doF (E,A,S,R,K,N) (k,a,b,c,d,s,q,(n,m),l)).1.2.2.2.1,(doF (E,A,S,R,K,N) (k,a,b,c,d,s,q,(n,m),l)).1.2.2.2.2.1,(doF (E,A,S,R,K,N) (k,a,b,c,d,s,q,(n,m),l)).1.2.2.2.2.2,(doF (E,A,S,R,K,N) (k,a,b,c,d,s,q,(n,m),l)).2,()))))/\(decide (k=1)=false->(decide (k=2)=true->A.length<=(1000000:Nat)/\((!decide ((Acc.aw A (a,b,s,q)).2=0))=true->True/\([],[],[],[],[],[],(Acc.aw A (a,b,s,q)).2,())=((doF (E,A,S,R,K,N) (k,a,b,c,d,s,q,(n,m),l)).1.1,(doF (E,A,S,R,K,N) (k,a,b,c,d,s,q,(n,m),l)).1.2.1,(doF (E,A,S,R,K,N) (k,a,b,c,d,s,q,(n,m),l)).1.2.2.1,(doF (E,A,S,R,K,N) (k,a,b,c,d,s,q,(n,m),l)).1.2.2.2.1,(doF (E,A,S,R,K,N) (k,a,b,c,d,s,q,(n,m),l)).1.2.2.2.2.1,(doF (E,A,S,R,K,N) (k,a,b,c,d,s,q,(n,m),l)).1.2.2.2.2.2,(doF (E,A,S,R,K,N) (k,a,b,c,d,s,q,(n,m),l)).2,()))/\((!decide ((Acc.aw A (a,b,s,q)).2=0))=false->((!decide (a=0))=true->Sm E (Acc.aw A (a,b,s,q)).1 S R K N/\(Bks.cg N a=true->True/\([],[],[],[],[],[],(29:Int),())=((doF (E,A,S,R,K,N) (k,a,b,c,d,s,q,(n,m),l)).1.1,(doF (E,A,S,R,K,N) (k,a,b,c,d,s,q,(n,m),l)).1.2.1,(doF (E,A,S,R,K,N) (k,a,b,c,d,s,q,(n,m),l)).1.2.2.1,(doF (E,A,S,R,K,N) (k,a,b,c,d,s,q,(n,m),l)).1.2.2.2.1,(doF (E,A,S,R,K,N) (k,a,b,c,d,s,q,(n,m),l)).1.2.2.2.2.1,(doF (E,A,S,R,K,N) (k,a,b,c,d,s,q,(n,m),l)).1.2.2.2.2.2,(doF (E,A,S,R,K,N) (k,a,b,c,d,s,q,(n,m),l)).2,()))/\(Bks.cg N a=false->True/\(E,(Acc.aw A (a,b,s,q)).1,S,R,K,N,(0:Int),())=((doF (E,A,S,R,K,N) (k,a,b,c,d,s,q,(n,m),l)).1.1,(doF (E,A,S,R,K,N) (k,a,b,c,d,s,q,(n,m),l)).1.2.1,(doF (E,A,S,R,K,N) (k,a,b,c,d,s,q,(n,m),l)).1.2.2.1,(doF (E,A,S,R,K,N) (k,a,b,c,d,s,q,(n,m),l)).1.2.2.2.1,(doF (E,A,S,R,K,N) (k,a,b,c,d,s,q,(n,m),l)).1.2.2.2.2.1,(doF (E,A,S,R,K,N) (k,a,b,c,d,s,q,(n,m),l)).1.2.2.2.2.2,(doF (E,A,S,R,K,N) (k,a,b,c,d,s,q,(n,m),l)).2,())))/\((!decide (a=0))= !true->True/\(E,(Acc.aw A (a,b,s,q)).1,S,R,K,N,(0:Int),())=((doF (E,A,S,R,K,N) (k,a,b,c,d,s,q,(n,m),l)).1.1,(doF (E,A,S,R,K,N) (k,a,b,c,d,s,q,(n,m),l)).1.2.1,(doF (E,A,S,R,K,N) (k,a,b,c,d,s,q,(n,m),l)).1.2.2.1,(doF (E,A,S,R,K,N) (k,a,b,c,d,s,q,(n,m),l)).1.2.2.2.1,(doF (E,A,S,R,K,N) (k,a,b,c,d,s,q,(n,m),l)).1.2.2.2.2.1,(doF (E,A,S,R,K,N) (k,a,b,c,d,s,q,(n,m),l)).1.2.2.2.2.2,(doF (E,A,S,R,K,N) (k,a,b,c,d,s,q,(n,m),l)).2,()))))/\(decide (k=2)=false->(decide (k=3)=true->A.length<=(1000000:Nat)/\((!decide ((Acc.aG A a b).2=0))=true->True/\([],[],[],[],[],[],(Acc.aG A a b).2,())=((doF (E,A,S,R,K,N) (k,a,b,c,d,s,q,(n,m),l)).1.1,(doF (E,A,S,R,K,N) (k,a,b,c,d,s,q,(n,m),l)).1.2.1,(doF (E,A,S,R,K,N) (k,a,b,c,d,s,q,(n,m),l)).1.2.2.1,(doF (E,A,S,R,K,N) (k,a,b,c,d,s,q,(n,m),l)).1.2.2.2.1,(doF (E,A,S,R,K,N) (k,a,b,c,d,s,q,(n,m),l)).1.2.2.2.2.1,(doF (E,A,S,R,K,N) (k,a,b,c,d,s,q,(n,m),l)).1.2.2.2.2.2,(doF (E,A,S,R,K,N) (k,a,b,c,d,s,q,(n,m),l)).2,()))/\((!decide ((Acc.aG A a b).2=0))=false->((!decide (b=0))=true->Sm E (Acc.aG A a b).1 S R K N/\(Bks.cg N b=true->True/\([],[],[],[],[],[],(29:Int),())=((doF (E,A,S,R,K,N) (k,a,b,c,d,s,q,(n,m),l)).1.1,(doF (E,A,S,R,K,N) (k,a,b,c,d,s,q,(n,m),l)).1.2.1,(doF (E,A,S,R,K,N) (k,a,b,c,d,s,q,(n,m),l)).1.2.2.1,(doF (E,A,S,R,K,N) (k,a,b,c,d,s,q,(n,m),l)).1.2.2.2.1,(doF (E,A,S,R,K,N) (k,a,b,c,d,s,q,(n,m),l)).1.2.2.2.2.1,(doF (E,A,S,R,K,N) (k,a,b,c,d,s,q,(n,m),l)).1.2.2.2.2.2,(doF (E,A,S,R,K,N) (k,a,b,c,d,s,q,(n,m),l)).2,()))/\(Bks.cg N b=false->True/\(E,(Acc.aG A a b).1,S,R,K,N,(0:Int),())=((doF (E,A,S,R,K,N) (k,a,b,c,d,s,q,(n,m),l)).1.1,(doF (E,A,S,R,K,N) (k,a,b,c,d,s,q,(n,m),l)).1.2.1,(doF (E,A,S,R,K,N) (k,a,b,c,d,s,q,(n,m),l)).1.2.2.1,(doF (E,A,S,R,K,N) (k,a,b,c,d,s,q,(n,m),l)).1.2.2.2.1,(doF (E,A,S,R,K,N) (k,a,b,c,d,s,q,(n,m),l)).1.2.2.2.2.1,(doF (E,A,S,R,K,N) (k,a,b,c,d,s,q,(n,m),l)).1.2.2.2.2.2,(doF (E,A,S,R,K,N) (k,a,b,c,d,s,q,(n,m),l)).2,())))/\((!decide (b=0))= !true->True/\(E,(Acc.aG A a b).1,S,R,K,N,(0:Int),())=((doF (E,A,S,R,K,N) (k,a,b,c,d,s,q,(n,m),l)).1.1,(doF (E,A,S,R,K,N) (k,a,b,c,d,s,q,(n,m),l)).1.2.1,(doF (E,A,S,R,K,N) (k,a,b,c,d,s,q,(n,m),l)).1.2.2.1,(doF (E,A,S,R,K,N) (k,a,b,c,d,s,q,(n,m),l)).1.2.2.2.1,(doF (E,A,S,R,K,N) (k,a,b,c,d,s,q,(n,m),l)).1.2.2.2.2.1,(doF (E,A,S,R,K,N) (k,a,b,c,d,s,q,(n,m),l)).1.2.2.2.2.2,(doF (E,A,S,R,K,N) (k,a,b,c,d,s,q,(n,m),l)).2,()))))/\(decide (k=3)=false->(decide (k=4)=true->S.length<=(1000000000:Nat)/\((!decide ((Stk.aw S (a,b,c,d) (↑E.length:Int)).2=0))=true->True/\([],[],[],[],[],[],(Stk.aw S (a,b,c,d) (↑E.length:Int)).2,())=((doF (E,A,S,R,K,N) (k,a,b,c,d,s,q,(n,m),l)).1.1,(doF (E,A,S,R,K,N) (k,a,b,c,d,s,q,(n,m),l)).1.2.1,(doF (E,A,S,R,K,N) (k,a,b,c,d,s,q,(n,m),l)).1.2.2.1,(doF (E,A,S,R,K,N) (k,a,b,c,d,s,q,(n,m),l)).1.2.2.2.1,(doF (E,A,S,R,K,N) (k,a,b,c,d,s,q,(n,m),l)).1.2.2.2.2.1,(doF (E,A,S,R,K,N) (k,a,b,c,d,s,q,(n,m),l)).1.2.2.2.2.2,(doF (E,A,S,R,K,N) (k,a,b,c,d,s,q,(n,m),l)).2,()))/\((!decide ((Stk.aw S (a,b,c,d) (↑E.length:Int)).2=0))=false->((!decide ((0:Int)=(0:Int)))=true->Sm E A (Stk.aw S (a,b,c,d) (↑E.length:Int)).1 R K N/\(Bks.cg N 0=true->True/\([],[],[],[],[],[],(29:Int),())=((doF (E,A,S,R,K,N) (k,a,b,c,d,s,q,(n,m),l)).1.1,(doF (E,A,S,R,K,N) (k,a,b,c,d,s,q,(n,m),l)).1.2.1,(doF (E,A,S,R,K,N) (k,a,b,c,d,s,q,(n,m),l)).1.2.2.1,(doF (E,A,S,R,K,N) (k,a,b,c,d,s,q,(n,m),l)).1.2.2.2.1,(doF (E,A,S,R,K,N) (k,a,b,c,d,s,q,(n,m),l)).1.2.2.2.2.1,(doF (E,A,S,R,K,N) (k,a,b,c,d,s,q,(n,m),l)).1.2.2.2.2.2,(doF (E,A,S,R,K,N) (k,a,b,c,d,s,q,(n,m),l)).2,()))/\(Bks.cg N 0=false->True/\(E,A,(Stk.aw S (a,b,c,d) (↑E.length:Int)).1,R,K,N,(0:Int),())=((doF (E,A,S,R,K,N) (k,a,b,c,d,s,q,(n,m),l)).1.1,(doF (E,A,S,R,K,N) (k,a,b,c,d,s,q,(n,m),l)).1.2.1,(doF (E,A,S,R,K,N) (k,a,b,c,d,s,q,(n,m),l)).1.2.2.1,(doF (E,A,S,R,K,N) (k,a,b,c,d,s,q,(n,m),l)).1.2.2.2.1,(doF (E,A,S,R,K,N) (k,a,b,c,d,s,q,(n,m),l)).1.2.2.2.2.1,(doF (E,A,S,R,K,N) (k,a,b,c,d,s,q,(n,m),l)).1.2.2.2.2.2,(doF (E,A,S,R,K,N) (k,a,b,c,d,s,q,(n,m),l)).2,())))/\((!decide ((0:Int)=(0:Int)))= !true->True/\(E,A,(Stk.aw S (a,b,c,d) (↑E.length:Int)).1,R,K,N,(0:Int),())=((doF (E,A,S,R,K,N) (k,a,b,c,d,s,q,(n,m),l)).1.1,(doF (E,A,S,R,K,N) (k,a,b,c,d,s,q,(n,m),l)).1.2.1,(doF (E,A,S,R,K,N) (k,a,b,c,d,s,q,(n,m),l)).1.2.2.1,(doF (E,A,S,R,K,N) (k,a,b,c,d,s,q,(n,m),l)).1.2.2.2.1,(doF (E,A,S,R,K,N) (k,a,b,c,d,s,q,(n,m),l)).1.2.2.2.2.1,(doF (E,A,S,R,K,N) (k,a,b,c,d,s,q,(n,m),l)).1.2.2.2.2.2,(doF (E,A,S,R,K,N) (k,a,b,c,d,s,q,(n,m),l)).2,()))))/\(decide (k=4)=false->(decide (k=5)=true->R.length<=(1000000:Nat)/\((!decide ((Rts.bR R (a,b,c,d,n,m)).2=0))=true->True/\([],[],[],[],[],[],(Rts.bR R (a,b,c,d,n,m)).2,())=((doF (E,A,S,R,K,N) (k,a,b,c,d,s,q,(n,m),l)).1.1,(doF (E,A,S,R,K,N) (k,a,b,c,d,s,q,(n,m),l)).1.2.1,(doF (E,A,S,R,K,N) (k,a,b,c,d,s,q,(n,m),l)).1.2.2.1,(doF (E,A,S,R,K,N) (k,a,b,c,d,s,q,(n,m),l)).1.2.2.2.1,(doF (E,A,S,R,K,N) (k,a,b,c,d,s,q,(n,m),l)).1.2.2.2.2.1,(doF (E,A,S,R,K,N) (k,a,b,c,d,s,q,(n,m),l)).1.2.2.2.2.2,(doF (E,A,S,R,K,N) (k,a,b,c,d,s,q,(n,m),l)).2,()))/\((!decide ((Rts.bR R (a,b,c,d,n,m)).2=0))=false->((!decide ((0:Int)=(0:Int)))=true->Sm E A S (Rts.bR R (a,b,c,d,n,m)).1 K N/\(Bks.cg N 0=true->True/\([],[],[],[],[],[],(29:Int),())=((doF (E,A,S,R,K,N) (k,a,b,c,d,s,q,(n,m),l)).1.1,(doF (E,A,S,R,K,N) (k,a,b,c,d,s,q,(n,m),l)).1.2.1,(doF (E,A,S,R,K,N) (k,a,b,c,d,s,q,(n,m),l)).1.2.2.1,(doF (E,A,S,R,K,N) (k,a,b,c,d,s,q,(n,m),l)).1.2.2.2.1,(doF (E,A,S,R,K,N) (k,a,b,c,d,s,q,(n,m),l)).1.2.2.2.2.1,(doF (E,A,S,R,K,N) (k,a,b,c,d,s,q,(n,m),l)).1.2.2.2.2.2,(doF (E,A,S,R,K,N) (k,a,b,c,d,s,q,(n,m),l)).2,()))/\(Bks.cg N 0=false->True/\(E,A,S,(Rts.bR R (a,b,c,d,n,m)).1,K,N,(0:Int),())=((doF (E,A,S,R,K,N) (k,a,b,c,d,s,q,(n,m),l)).1.1,(doF (E,A,S,R,K,N) (k,a,b,c,d,s,q,(n,m),l)).1.2.1,(doF (E,A,S,R,K,N) (k,a,b,c,d,s,q,(n,m),l)).1.2.2.1,(doF (E,A,S,R,K,N) (k,a,b,c,d,s,q,(n,m),l)).1.2.2.2.1,(doF (E,A,S,R,K,N) (k,a,b,c,d,s,q,(n,m),l)).1.2.2.2.2.1,(doF (E,A,S,R,K,N) (k,a,b,c,d,s,q,(n,m),l)).1.2.2.2.2.2,(doF (E,A,S,R,K,N) (k,a,b,c,d,s,q,(n,m),l)).2,())))/\((!decide ((0:Int)=(0:Int)))= !true->True/\(E,A,S,(Rts.bR R (a,b,c,d,n,m)).1,K,N,(0:Int),())=((doF (E,A,S,R,K,N) (k,a,b,c,d,s,q,(n,m),l)).1.1,(doF (E,A,S,R,K,N) (k,a,b,c,d,s,q,(n,m),l)).1.2.1,(doF (E,A,S,R,K,N) (k,a,b,c,d,s,q,(n,m),l)).1.2.2.1,(doF (E,A,S,R,K,N) (k,a,b,c,d,s,q,(n,m),l)).1.2.2.2.1,(doF (E,A,S,R,K,N) (k,a,b,c,d,s,q,(n,m),l)).1.2.2.2.2.1,(doF (E,A,S,R,K,N) (k,a,b,c,d,s,q,(n,m),l)).1.2.2.2.2.2,(doF (E,A,S,R,K,N) (k,a,b,c,d,s,q,(n,m),l)).2,()))))/\(decide (k=5)=false->K.length<=(1000000:Nat)/\((!decide ((Lck.aw K a b (↑E.length:Int)).2=0))=true->True/\([],[],[],[],[],[],(Lck.aw K a b (↑E.length:Int)).2,())=((doF (E,A,S,R,K,N) (k,a,b,c,d,s,q,(n,m),l)).1.1,(doF (E,A,S,R,K,N) (k,a,b,c,d,s,q,(n,m),l)).1.2.1,(doF (E,A,S,R,K,N) (k,a,b,c,d,s,q,(n,m),l)).1.2.2.1,(doF (E,A,S,R,K,N) (k,a,b,c,d,s,q,(n,m),l)).1.2.2.2.1,(doF (E,A,S,R,K,N) (k,a,b,c,d,s,q,(n,m),l)).1.2.2.2.2.1,(doF (E,A,S,R,K,N) (k,a,b,c,d,s,q,(n,m),l)).1.2.2.2.2.2,(doF (E,A,S,R,K,N) (k,a,b,c,d,s,q,(n,m),l)).2,()))/\((!decide ((Lck.aw K a b (↑E.length:Int)).2=0))=false->((!decide ((0:Int)=(0:Int)))=true->Sm E A S R (Lck.aw K a b (↑E.length:Int)).1 N/\(Bks.cg N 0=true->True/\([],[],[],[],[],[],(29:Int),())=((doF (E,A,S,R,K,N) (k,a,b,c,d,s,q,(n,m),l)).1.1,(doF (E,A,S,R,K,N) (k,a,b,c,d,s,q,(n,m),l)).1.2.1,(doF (E,A,S,R,K,N) (k,a,b,c,d,s,q,(n,m),l)).1.2.2.1,(doF (E,A,S,R,K,N) (k,a,b,c,d,s,q,(n,m),l)).1.2.2.2.1,(doF (E,A,S,R,K,N) (k,a,b,c,d,s,q,(n,m),l)).1.2.2.2.2.1,(doF (E,A,S,R,K,N) (k,a,b,c,d,s,q,(n,m),l)).1.2.2.2.2.2,(doF (E,A,S,R,K,N) (k,a,b,c,d,s,q,(n,m),l)).2,()))/\(Bks.cg N 0=false->True/\(E,A,S,R,(Lck.aw K a b (↑E.length:Int)).1,N,(0:Int),())=((doF (E,A,S,R,K,N) (k,a,b,c,d,s,q,(n,m),l)).1.1,(doF (E,A,S,R,K,N) (k,a,b,c,d,s,q,(n,m),l)).1.2.1,(doF (E,A,S,R,K,N) (k,a,b,c,d,s,q,(n,m),l)).1.2.2.1,(doF (E,A,S,R,K,N) (k,a,b,c,d,s,q,(n,m),l)).1.2.2.2.1,(doF (E,A,S,R,K,N) (k,a,b,c,d,s,q,(n,m),l)).1.2.2.2.2.1,(doF (E,A,S,R,K,N) (k,a,b,c,d,s,q,(n,m),l)).1.2.2.2.2.2,(doF (E,A,S,R,K,N) (k,a,b,c,d,s,q,(n,m),l)).2,())))/\((!decide ((0:Int)=(0:Int)))= !true->True/\(E,A,S,R,(Lck.aw K a b (↑E.length:Int)).1,N,(0:Int),())=((doF (E,A,S,R,K,N) (k,a,b,c,d,s,q,(n,m),l)).1.1,(doF (E,A,S,R,K,N) (k,a,b,c,d,s,q,(n,m),l)).1.2.1,(doF (E,A,S,R,K,N) (k,a,b,c,d,s,q,(n,m),l)).1.2.2.1,(doF (E,A,S,R,K,N) (k,a,b,c,d,s,q,(n,m),l)).1.2.2.2.1,(doF (E,A,S,R,K,N) (k,a,b,c,d,s,q,(n,m),l)).1.2.2.2.2.1,(doF (E,A,S,R,K,N) (k,a,b,c,d,s,q,(n,m),l)).1.2.2.2.2.2,(doF (E,A,S,R,K,N) (k,a,b,c,d,s,q,(n,m),l)).2,()))))))))
theorem xi {A:List Acc.AcD} {x:Acc.AcD} (h:(Acc.aw A x).2=0):(Acc.aw A x).1.length<=61:=by
 unfold Acc.aw at h⊢;split
 ·simp
 ·split
  ·simp only [Re,Rm];omega
  ·simp
theorem lj {A:List Acc.AcD} {a p:Int}:(Acc.aG A a p).1.length<=A.length:=by
 unfold Acc.aG;split
 ·simp
 ·split
  ·simp
  ·split
   ·simp
   ·simp
theorem Au {B:Bk} {c:Cm.CmD} {e:Int} {B':Bk} (k:doF B c=fin e B') (h: ¬e=0):doF B c=(bk0,e):=k.trans (dj h)
theorem Jb {B:Bk} {c:Cm.CmD} {e:Int} {B':Bk} (k:doF B c=fin e B') (h:e=0):doF B c=(B',0):=k.trans (ij h)
theorem M3 {A L:List Acc.AcD} {N:List En} {a e:Int} (h: ¬e=0): ¬(grF A L N a e).2=0:=by rw [Ae h];exact h
theorem Jc {A L:List Acc.AcD} {N:List En} {a e:Int} (h:e=0) (h1: ¬a=0) (h2:Bks.cg N a=true): ¬(grF A L N a e).2=0:=by
 rw [uu h h1 h2];show¬(29:Int)=0;decide
theorem Jd {N:List En} {a:Int} (h:a=0∨Bks.cg N a=false): ¬(¬a=0/\Bks.cg N a=true):=by
 rintro ⟨h1,h2⟩;rcases h with h|h
 ·exact h1 h
 ·rw [h] at h2;cases h2
theorem Je {A L:List Acc.AcD} {N:List En} {a e:Int} (h:e=0) (h1:a=0∨Bks.cg N a=false):(grF A L N a e).2=0:=by rw [CP h (Jd h1)]
theorem xj (E : List Int) (A : List Acc.AcD) (S : List Ln) (R : List Rts.Rt) (K : List Lck.Lk) (N : List En) (k a b c d : Int) (s q : Bool) (n m : Int) (l : List Ln) (h : Sm E A S R K N /\ 1 <= k /\ k <= 6) : nQ E A S R K N k a b c d s q n m l := by
  obtain ⟨⟨l1, l2, l3, l4, l5, l6, hi⟩, hk1, hk6⟩ := h
  unfold nQ
  simp only [Q7, Q6, Rb, Rd, Rl, Rg]
  repeat' (first | with_reducible apply And.intro | intro _)
  all_goals try (first | trivial | rfl | omega | assumption)
  all_goals try (exact ⟨l1, Ro (xi (A := A) (x := (a, b, s, q)) (by assumption)) (by decide), l3, l4, l5, l6, hi⟩)
  all_goals try (exact ⟨l1, Ro lj l2, l3, l4, l5, l6, hi⟩)
  all_goals first
    | (have hk := ‹k = 1›; subst hk)
    | (have hk := ‹k = 2›; subst hk)
    | (have hk := ‹k = 3›; subst hk)
    | (have hk := ‹k = 4›; subst hk)
    | (have hk := ‹k = 5›; subst hk)
    | (have hk : k = 6 := by omega
       subst hk)
  all_goals first
    | (rw [Au rfl (by assumption)]; rfl)
    | (rw [Jb rfl (by assumption)])
    | (rw [Au rfl (M3 (by assumption)), Ae (by assumption)]; rfl)
    | (rw [Au rfl (Jc (by assumption) (by assumption) (by assumption)), uu (by assumption) (by assumption) (by assumption)]; rfl)
    | (rw [Jb rfl (Je (by assumption) (.inl (by assumption))), CP (by assumption) (Jd (.inl (by assumption)))])
    | (rw [Jb rfl (Je (by assumption) (.inr (by assumption))), CP (by assumption) (Jd (.inr (by assumption)))])
def Ff:FSpec Tryz.prog:=mkG 91 (.c (.g (.c (.p I) (.c (.p AcT) (.c (.p LnT) (.c (.p RTy) (.c (.p Vl) (.c (.p EnT) .z))))))) (.c (.g (.c .j (.c .j (.c .j (.c .j (.c .j (.c .b (.c .b (.c .j (.c .j (.c (.p LnT) .z))))))))))) .z)) (fun x=>(fun (E:List Int) (A:List Acc.AcD) (S:List Ln) (R:List Rts.Rt) (K:List Lck.Lk) (N:List En) (k a b c d:Int) (s q:Bool) (n m:Int) (l:List Ln)=>(Sm E A S R K N/\1<=k/\k<=6,(.tuple [.agg [.list .part I ((doF (E,A,S,R,K,N) (k,a,b,c,d,s,q,(n,m),l)).1.1), .list .part AcT ((doF (E,A,S,R,K,N) (k,a,b,c,d,s,q,(n,m),l)).1.2.1), .list .part LnT ((doF (E,A,S,R,K,N) (k,a,b,c,d,s,q,(n,m),l)).1.2.2.1), .list .part RTy ((doF (E,A,S,R,K,N) (k,a,b,c,d,s,q,(n,m),l)).1.2.2.2.1), .list .part Vl ((doF (E,A,S,R,K,N) (k,a,b,c,d,s,q,(n,m),l)).1.2.2.2.2.1), .list .part EnT ((doF (E,A,S,R,K,N) (k,a,b,c,d,s,q,(n,m),l)).1.2.2.2.2.2)], .int .i64 (doF (E,A,S,R,K,N) (k,a,b,c,d,s,q,(n,m),l)).2]))) x.1.1 x.1.2.1 x.1.2.2.1 x.1.2.2.2.1 x.1.2.2.2.2.1 x.1.2.2.2.2.2.1 x.2.1.1 x.2.1.2.1 x.2.1.2.2.1 x.2.1.2.2.2.1 x.2.1.2.2.2.2.1 x.2.1.2.2.2.2.2.1 x.2.1.2.2.2.2.2.2.1 x.2.1.2.2.2.2.2.2.2.1 x.2.1.2.2.2.2.2.2.2.2.1 x.2.1.2.2.2.2.2.2.2.2.2.1) fun ⟨⟨E,A,S,R,K,N,_⟩,⟨k,a,b,c,d,s,q,n,m,l,_⟩,_⟩ h=>Pure.of_condG (E:=As E A S R K N k a b c d s q n m l) (sh:=[some 6,none]) (ann:=At) (x:=(fun (E:List Int) (A:List Acc.AcD) (S:List Ln) (R:List Rts.Rt) (K:List Lck.Lk) (N:List En) (k a b c d:Int) (s q:Bool) (n m:Int) (l:List Ln)=>((doF (E,A,S,R,K,N) (k,a,b,c,d,s,q,(n,m),l)).1.1,(doF (E,A,S,R,K,N) (k,a,b,c,d,s,q,(n,m),l)).1.2.1,(doF (E,A,S,R,K,N) (k,a,b,c,d,s,q,(n,m),l)).1.2.2.1,(doF (E,A,S,R,K,N) (k,a,b,c,d,s,q,(n,m),l)).1.2.2.2.1,(doF (E,A,S,R,K,N) (k,a,b,c,d,s,q,(n,m),l)).1.2.2.2.2.1,(doF (E,A,S,R,K,N) (k,a,b,c,d,s,q,(n,m),l)).1.2.2.2.2.2,(doF (E,A,S,R,K,N) (k,a,b,c,d,s,q,(n,m),l)).2,())) E A S R K N k a b c d s q n m l) (by kernel_rfl) (xj E A S R K N k a b c d s q n m l h) rfl (ab rfl _ [] rfl rfl) mixed Tryz.func91
theorem nS (A:List Acc.AcD) (L:List Ln):L.any (Bks.kV (Acc.bi (Acc.bf A) A.length))=L.any (cz A):=by
 congr 1;funext x;exact Bks.ph A x
theorem Fg {E:List Int} {A:List Acc.AcD} {N:List En} {a:Int} {l:List Ln} {K:List Lck.Lk} (h: ¬Bks.bF E.length A.length (Acc.bi (Acc.bf A) A.length) N (a,0,l)=0):
 b9 E A K N a l=(N,Bks.bF E.length A.length (Acc.bi (Acc.bf A) A.length) N (a,0,l)):=by
 by_cases c:(Ent.ah a l E.length A.length).2=0
 ·have e:Bks.bF E.length A.length (Acc.bi (Acc.bf A) A.length) N (a,0,l)=(if Bks.ck (Acc.bi (Acc.bf A) A.length) l=0 then Bks.dU N 0 l else Bks.ck (Acc.bi (Acc.bf A) A.length) l):=Q_ c;have ht:Bks.dU N 0 l=0:=Q_ rfl;rw [e,ht] at h⊢;unfold Bks.ck at h⊢;rw [nS] at h⊢;cases h1:l.any ci with
  |true=>rw [Iy c h1];simp
  |false=>
   cases h2:l.any (cz A) with
   |true=>rw [CY c h1 h2];simp
   |false=>rw [h1,h2] at h;simp at h
 ·have e:Bks.bF E.length A.length (Acc.bi (Acc.bf A) A.length) N (a,0,l)=(Ent.ah a l E.length A.length).2:=Q8 c;rw [e,Ix c]
theorem Jf {E:List Int} {A:List Acc.AcD} {N:List En} {a:Int} {l:List Ln} {K:List Lck.Lk} (h:Bks.bF E.length A.length (Acc.bi (Acc.bf A) A.length) N (a,0,l)=0):
 b9 E A K N a l=dG K N (a,0,l):=by
 by_cases c:(Ent.ah a l E.length A.length).2=0
 ·have e:Bks.bF E.length A.length (Acc.bi (Acc.bf A) A.length) N (a,0,l)=(if Bks.ck (Acc.bi (Acc.bf A) A.length) l=0 then Bks.dU N 0 l else Bks.ck (Acc.bi (Acc.bf A) A.length) l):=Q_ c;have ht:Bks.dU N 0 l=0:=Q_ rfl;rw [e,ht] at h;unfold Bks.ck at h;rw [nS] at h;cases h1:l.any ci with
  |true=>rw [h1] at h;simp at h
  |false=>
   cases h2:l.any (cz A) with
   |true=>rw [h1,h2] at h;simp at h
   |false=>rw [Iz c h1 h2]
 ·have e:Bks.bF E.length A.length (Acc.bi (Acc.bf A) A.length) N (a,0,l)=(Ent.ah a l E.length A.length).2:=Q8 c;rw [e] at h;exact absurd h c
theorem OS {B:Bk} {c:Cm.CmD} (h:Cm.ah c=0):apF B c=doF B c:=Q_ h
theorem Jg {N:List En} {n:Int} {y:En} (h:bz N n=0) (hy:N[(n-1).toNat]? =some y):(Ent.bt y.1 y.2.1 y.2.2).2=0:=by
 have hin:=Ao h;have h1: ¬(n<1∨(N.length:Int)<n):=by omega
 by_cases k:y.2.1≠0∨Bks.bM N n≠0
 ·rw [gH h1 hy k] at h;cases h
 ·rw [uw h1 hy k] at h;exact h
def Av (E:List Int) (A:List Acc.AcD) (S:List Ln) (R:List Rts.Rt) (K:List Lck.Lk) (N:List En) (k a b c d:Int) (s q:Bool) (n m:Int) (l:List Ln):Env where
 P:=Tryz.prog
 ty:=aJ
 specs:=ai [Cm.mB,Ff,Bks.Hs,M2,g9,Ent.mm]
abbrev Aw:Ann:={slots:=bB 0 [.list .part I, .list .part AcT, .list .part LnT, .list .part RTy, .list .part Vl, .list .part EnT, .int .i64],boxes:=[],inv:=fun _ _=>True}
def nT (E:List Int) (A:List Acc.AcD) (S:List Ln) (R:List Rts.Rt) (K:List Lck.Lk) (N:List En) (k:Int) (a:Int) (b:Int) (c:Int) (d:Int) (s:Bool) (q:Bool) (n:Int) (m:Int) (l:List Ln):Prop:=
 True/\((!decide (Cm.ah (k,a,b,c,d,s,q,(n,m),l)=(0:Int)))=true->True/\([],[],[],[],[],[],Cm.ah (k,a,b,c,d,s,q,(n,m),l),())=((apF (E,A,S,R,K,N) (k,a,b,c,d,s,q,(n,m),l)).1.1,(apF (E,A,S,R,K,N) (k,a,b,c,d,s,q,(n,m),l)).1.2.1,(apF (E,A,S,R,K,N) (k,a,b,c,d,s,q,(n,m),l)).1.2.2.1,(apF (E,A,S,R,K,N) (k,a,b,c,d,s,q,(n,m),l)).1.2.2.2.1,(apF (E,A,S,R,K,N) (k,a,b,c,d,s,q,(n,m),l)).1.2.2.2.2.1,(apF (E,A,S,R,K,N) (k,a,b,c,d,s,q,(n,m),l)).1.2.2.2.2.2,(apF (E,A,S,R,K,N) (k,a,b,c,d,s,q,(n,m),l)).2,()))/\((!decide (Cm.ah (k,a,b,c,d,s,q,(n,m),l)=(0:Int)))=false->(decide (k<=6)=true->(Sm E A S R K N/\1<=k/\k<=6)/\True/\((doF (E,A,S,R,K,N) (k,a,b,c,d,s,q,(n,m),l)).1.1,(doF (E,A,S,R,K,N) (k,a,b,c,d,s,q,(n,m),l)).1.2.1,(doF (E,A,S,R,K,N) (k,a,b,c,d,s,q,(n,m),l)).1.2.2.1,(doF (E,A,S,R,K,N) (k,a,b,c,d,s,q,(n,m),l)).1.2.2.2.1,(doF (E,A,S,R,K,N) (k,a,b,c,d,s,q,(n,m),l)).1.2.2.2.2.1,(doF (E,A,S,R,K,N) (k,a,b,c,d,s,q,(n,m),l)).1.2.2.2.2.2,(doF (E,A,S,R,K,N) (k,a,b,c,d,s,q,(n,m),l)).2,())=((apF (E,A,S,R,K,N) (k,a,b,c,d,s,q,(n,m),l)).1.1,(apF (E,A,S,R,K,N) (k,a,b,c,d,s,q,(n,m),l)).1.2.1,(apF (E,A,S,R,K,N) (k,a,b,c,d,s,q,(n,m),l)).1.2.2.1,(apF (E,A,S,R,K,N) (k,a,b,c,d,s,q,(n,m),l)).1.2.2.2.1,(apF (E,A,S,R,K,N) (k,a,b,c,d,s,q,(n,m),l)).1.2.2.2.2.1,(apF (E,A,S,R,K,N) (k,a,b,c,d,s,q,(n,m),l)).1.2.2.2.2.2,(apF (E,A,S,R,K,N) (k,a,b,c,d,s,q,(n,m),l)).2,()))/\(decide (k<=6)=false->(decide (k=7)=true->(Sm E A S R K N/\N.length<=(1000000:Nat)/\InE N/\Ent.InL l/\l.length<=(1000:Nat))/\((!decide (Bks.bF (↑E.length:Int) (↑A.length:Int) (Acc.bi (Acc.bf A) A.length) N (a,(0:Int),l)=(0:Int)))=true->True/\([],[],[],[],[],[],Bks.bF (↑E.length:Int) (↑A.length:Int) (Acc.bi (Acc.bf A) A.length) N (a,(0:Int),l),())=((apF (E,A,S,R,K,N) (k,a,b,c,d,s,q,(n,m),l)).1.1,(apF (E,A,S,R,K,N) (k,a,b,c,d,s,q,(n,m),l)).1.2.1,(apF (E,A,S,R,K,N) (k,a,b,c,d,s,q,(n,m),l)).1.2.2.1,(apF (E,A,S,R,K,N) (k,a,b,c,d,s,q,(n,m),l)).1.2.2.2.1,(apF (E,A,S,R,K,N) (k,a,b,c,d,s,q,(n,m),l)).1.2.2.2.2.1,(apF (E,A,S,R,K,N) (k,a,b,c,d,s,q,(n,m),l)).1.2.2.2.2.2,(apF (E,A,S,R,K,N) (k,a,b,c,d,s,q,(n,m),l)).2,()))/\((!decide (Bks.bF (↑E.length:Int) (↑A.length:Int) (Acc.bi (Acc.bf A) A.length) N (a,(0:Int),l)=(0:Int)))=false->(l.length<=(1000000:Nat)/\K.length<=(1000000:Nat)/\N.length<=(1000000:Nat))/\True/\((bn (E,A,S,R,K,N) (a,(0:Int),l)).1.1,(bn (E,A,S,R,K,N) (a,(0:Int),l)).1.2.1,(bn (E,A,S,R,K,N) (a,(0:Int),l)).1.2.2.1,(bn (E,A,S,R,K,N) (a,(0:Int),l)).1.2.2.2.1,(bn (E,A,S,R,K,N) (a,(0:Int),l)).1.2.2.2.2.1,(bn (E,A,S,R,K,N) (a,(0:Int),l)).1.2.2.2.2.2,(bn (E,A,S,R,K,N) (a,(0:Int),l)).2,())=((apF (E,A,S,R,K,N) (k,a,b,c,d,s,q,(n,m),l)).1.1,(apF (E,A,S,R,K,N) (k,a,b,c,d,s,q,(n,m),l)).1.2.1,(apF (E,A,S,R,K,N) (k,a,b,c,d,s,q,(n,m),l)).1.2.2.1,(apF (E,A,S,R,K,N) (k,a,b,c,d,s,q,(n,m),l)).1.2.2.2.1,(apF (E,A,S,R,K,N) (k,a,b,c,d,s,q,(n,m),l)).1.2.2.2.2.1,(apF (E,A,S,R,K,N) (k,a,b,c,d,s,q,(n,m),l)).1.2.2.2.2.2,(apF (E,A,S,R,K,N) (k,a,b,c,d,s,q,(n,m),l)).2,())))/\(decide (k=7)=false->(decide (b<0)=false->(decide (23<b)=true->True/\([],[],[],[],[],[],(22:Int),())=((apF (E,A,S,R,K,N) (k,a,b,c,d,s,q,(n,m),l)).1.1,(apF (E,A,S,R,K,N) (k,a,b,c,d,s,q,(n,m),l)).1.2.1,(apF (E,A,S,R,K,N) (k,a,b,c,d,s,q,(n,m),l)).1.2.2.1,(apF (E,A,S,R,K,N) (k,a,b,c,d,s,q,(n,m),l)).1.2.2.2.1,(apF (E,A,S,R,K,N) (k,a,b,c,d,s,q,(n,m),l)).1.2.2.2.2.1,(apF (E,A,S,R,K,N) (k,a,b,c,d,s,q,(n,m),l)).1.2.2.2.2.2,(apF (E,A,S,R,K,N) (k,a,b,c,d,s,q,(n,m),l)).2,()))/\(decide (23<b)=false->(N.length<=(1000000:Nat)/\InE N)/\((!decide (bz N a=0))=true->True/\([],[],[],[],[],[],bz N a,())=((apF (E,A,S,R,K,N) (k,a,b,c,d,s,q,(n,m),l)).1.1,(apF (E,A,S,R,K,N) (k,a,b,c,d,s,q,(n,m),l)).1.2.1,(apF (E,A,S,R,K,N) (k,a,b,c,d,s,q,(n,m),l)).1.2.2.1,(apF (E,A,S,R,K,N) (k,a,b,c,d,s,q,(n,m),l)).1.2.2.2.1,(apF (E,A,S,R,K,N) (k,a,b,c,d,s,q,(n,m),l)).1.2.2.2.2.1,(apF (E,A,S,R,K,N) (k,a,b,c,d,s,q,(n,m),l)).1.2.2.2.2.2,(apF (E,A,S,R,K,N) (k,a,b,c,d,s,q,(n,m),l)).2,()))/\((!decide (bz N a=0))=false->(au (a-(1:Int)))/\(0<=a-(1:Int)/\a-(1:Int)<(↑N.length:Int))/\∀(x:Int×Int×List (Int×Int×Int×Int)),N[(a-(1:Int)).toNat]? =some x->(Ent.InL x.2.2/\x.2.2.length<=(1000:Nat))/\((Ent.bt x.1 x.2.1 x.2.2).1.2.2.length<=(1000000:Nat)/\K.length<=(1000000:Nat)/\N.length<=(1000000:Nat))/\True/\((bn (E,A,S,R,K,N) (b,a,(Ent.bt x.1 x.2.1 x.2.2).1.2.2)).1.1,(bn (E,A,S,R,K,N) (b,a,(Ent.bt x.1 x.2.1 x.2.2).1.2.2)).1.2.1,(bn (E,A,S,R,K,N) (b,a,(Ent.bt x.1 x.2.1 x.2.2).1.2.2)).1.2.2.1,(bn (E,A,S,R,K,N) (b,a,(Ent.bt x.1 x.2.1 x.2.2).1.2.2)).1.2.2.2.1,(bn (E,A,S,R,K,N) (b,a,(Ent.bt x.1 x.2.1 x.2.2).1.2.2)).1.2.2.2.2.1,(bn (E,A,S,R,K,N) (b,a,(Ent.bt x.1 x.2.1 x.2.2).1.2.2)).1.2.2.2.2.2,(bn (E,A,S,R,K,N) (b,a,(Ent.bt x.1 x.2.1 x.2.2).1.2.2)).2,())=((apF (E,A,S,R,K,N) (k,a,b,c,d,s,q,(n,m),l)).1.1,(apF (E,A,S,R,K,N) (k,a,b,c,d,s,q,(n,m),l)).1.2.1,(apF (E,A,S,R,K,N) (k,a,b,c,d,s,q,(n,m),l)).1.2.2.1,(apF (E,A,S,R,K,N) (k,a,b,c,d,s,q,(n,m),l)).1.2.2.2.1,(apF (E,A,S,R,K,N) (k,a,b,c,d,s,q,(n,m),l)).1.2.2.2.2.1,(apF (E,A,S,R,K,N) (k,a,b,c,d,s,q,(n,m),l)).1.2.2.2.2.2,(apF (E,A,S,R,K,N) (k,a,b,c,d,s,q,(n,m),l)).2,()))))/\(decide (b<0)= !false->True/\([],[],[],[],[],[],(22:Int),())=((apF (E,A,S,R,K,N) (k,a,b,c,d,s,q,(n,m),l)).1.1,(apF (E,A,S,R,K,N) (k,a,b,c,d,s,q,(n,m),l)).1.2.1,(apF (E,A,S,R,K,N) (k,a,b,c,d,s,q,(n,m),l)).1.2.2.1,(apF (E,A,S,R,K,N) (k,a,b,c,d,s,q,(n,m),l)).1.2.2.2.1,(apF (E,A,S,R,K,N) (k,a,b,c,d,s,q,(n,m),l)).1.2.2.2.2.1,(apF (E,A,S,R,K,N) (k,a,b,c,d,s,q,(n,m),l)).1.2.2.2.2.2,(apF (E,A,S,R,K,N) (k,a,b,c,d,s,q,(n,m),l)).2,())))))
theorem xk (E : List Int) (A : List Acc.AcD) (S : List Ln) (R : List Rts.Rt) (K : List Lck.Lk) (N : List En) (k a b c d : Int) (s q : Bool) (n m : Int) (l : List Ln) (h : Sm E A S R K N /\ Ent.InL l) : nT E A S R K N k a b c d s q n m l := by
  have hS := h.1
  have hL := h.2
  obtain ⟨l1, l2, l3, l4, l5, l6, hi⟩ := h.1
  unfold nT
  simp only [Q7, Q6, Rb, Rd, Rl, Rg]
  repeat' (first
    | with_reducible apply And.intro
    | (intro (hc : Cm.ah (k, a, b, c, d, s, q, (n, m), l) = 0); have hll := cT hc; have hkk := xh hc; simp only [Cm.aB] at hll hkk)
    | (intro (hm : bz N a = 0); have hmi := Ao hm)
    | (intro (x1 : Int × Int × List (Int × Int × Int × Int)) (hx1 : N[(a - 1).toNat]? = some x1); have e := Option.some.inj (hx.symm.trans hx1); subst e)
    | (intro (x : Int × Int × List (Int × Int × Int × Int)) (hx : N[(a - 1).toNat]? = some x); have hix := dp hi hx)
    | intro _)
  all_goals try (first | trivial | rfl | assumption | omega | exact hix.1 _ (by assumption) | exact hL _ (by assumption))
  all_goals try (first
    | (rename_i y hy z hz; exact (hi y hy).1 z hz)
    | (rename_i y hy; exact (hi y hy).2)
    | (exact Ro (uy x) (Ro hix.2 (by decide)))
    | (rw [fG (by assumption)]; rfl)
    | (have hk6 := ‹k <= 6›; rw [OS hc]))
  all_goals first
    | (have hk := ‹k = 7›; subst hk)
    | (have hk : k = 8 := by omega
       subst hk)
  all_goals first
    | (have he := ‹¬ Bks.bF _ _ _ _ _ = 0›; rw [dn hc rfl, Fg he, dj he]; rfl)
    | (have he := ‹Bks.bF _ _ _ _ _ = 0›; rw [dn hc rfl, Jf he]; rfl)
    | (rw [dn hc rfl, An (.inl (by assumption)), dj (show ¬ (22 : Int) = 0 by decide)]; rfl)
    | (have he := ‹23 < b›; rw [dn hc rfl, An (.inr he), dj (show ¬ (22 : Int) = 0 by decide)]; rfl)
    | (have he := ‹¬ bz N a = 0›; rw [dn hc rfl, IA (by omega) he, dj he]; rfl)
    | (rw [dn hc rfl, OR (by omega) hm hx (Jg hm hx)]; rfl)
def Fh:FSpec Tryz.prog:=mkG 69 (.c (.g (.c (.p I) (.c (.p AcT) (.c (.p LnT) (.c (.p RTy) (.c (.p Vl) (.c (.p EnT) .z))))))) (.c (.g (.c .j (.c .j (.c .j (.c .j (.c .j (.c .b (.c .b (.c .j (.c .j (.c (.p LnT) .z))))))))))) .z)) (fun x=>(fun (E:List Int) (A:List Acc.AcD) (S:List Ln) (R:List Rts.Rt) (K:List Lck.Lk) (N:List En) (k a b c d:Int) (s q:Bool) (n m:Int) (l:List Ln)=>(Sm E A S R K N/\Ent.InL l,(.tuple [.agg [.list .part I ((apF (E,A,S,R,K,N) (k,a,b,c,d,s,q,(n,m),l)).1.1), .list .part AcT ((apF (E,A,S,R,K,N) (k,a,b,c,d,s,q,(n,m),l)).1.2.1), .list .part LnT ((apF (E,A,S,R,K,N) (k,a,b,c,d,s,q,(n,m),l)).1.2.2.1), .list .part RTy ((apF (E,A,S,R,K,N) (k,a,b,c,d,s,q,(n,m),l)).1.2.2.2.1), .list .part Vl ((apF (E,A,S,R,K,N) (k,a,b,c,d,s,q,(n,m),l)).1.2.2.2.2.1), .list .part EnT ((apF (E,A,S,R,K,N) (k,a,b,c,d,s,q,(n,m),l)).1.2.2.2.2.2)], .int .i64 (apF (E,A,S,R,K,N) (k,a,b,c,d,s,q,(n,m),l)).2]))) x.1.1 x.1.2.1 x.1.2.2.1 x.1.2.2.2.1 x.1.2.2.2.2.1 x.1.2.2.2.2.2.1 x.2.1.1 x.2.1.2.1 x.2.1.2.2.1 x.2.1.2.2.2.1 x.2.1.2.2.2.2.1 x.2.1.2.2.2.2.2.1 x.2.1.2.2.2.2.2.2.1 x.2.1.2.2.2.2.2.2.2.1 x.2.1.2.2.2.2.2.2.2.2.1 x.2.1.2.2.2.2.2.2.2.2.2.1) fun ⟨⟨E,A,S,R,K,N,_⟩,⟨k,a,b,c,d,s,q,n,m,l,_⟩,_⟩ h=>Pure.of_condG (E:=Av E A S R K N k a b c d s q n m l) (sh:=[some 6,none]) (ann:=Aw) (x:=(fun (E:List Int) (A:List Acc.AcD) (S:List Ln) (R:List Rts.Rt) (K:List Lck.Lk) (N:List En) (k a b c d:Int) (s q:Bool) (n m:Int) (l:List Ln)=>((apF (E,A,S,R,K,N) (k,a,b,c,d,s,q,(n,m),l)).1.1,(apF (E,A,S,R,K,N) (k,a,b,c,d,s,q,(n,m),l)).1.2.1,(apF (E,A,S,R,K,N) (k,a,b,c,d,s,q,(n,m),l)).1.2.2.1,(apF (E,A,S,R,K,N) (k,a,b,c,d,s,q,(n,m),l)).1.2.2.2.1,(apF (E,A,S,R,K,N) (k,a,b,c,d,s,q,(n,m),l)).1.2.2.2.2.1,(apF (E,A,S,R,K,N) (k,a,b,c,d,s,q,(n,m),l)).1.2.2.2.2.2,(apF (E,A,S,R,K,N) (k,a,b,c,d,s,q,(n,m),l)).2,())) E A S R K N k a b c d s q n m l) (by kernel_rfl) (xk E A S R K N k a b c d s q n m l h) rfl (ab rfl _ [] rfl rfl) mixed Tryz.func69
end Dsk
end
section
namespace Dsk
open Go.Vm
open Bks (En InE Sm dp ci)
def Szn (n:Nat) (B:Bk):Prop:=B.1.length<=n/\B.2.1.length<=n/\B.2.2.1.length<=n/\B.2.2.2.1.length<=n/\B.2.2.2.2.1.length<=n/\B.2.2.2.2.2.length<=n/\InE B.2.2.2.2.2
theorem Id (n:Nat):Szn n bk0:=⟨RV _,RV _,RV _,RV _,RV _,RV _,fun _ h=>by cases h⟩
theorem iZ {n:Nat} {e:Int} {B:Bk} (h:Szn n B):Szn n (fin e B).1:=by
 unfold fin;split
 ·exact h
 ·exact Id n
theorem M4 (l:List Int) (c:Int):(Cur.aw l c).1.length<=l.length+1:=by
 unfold Cur.aw;split
 ·simp
 ·split<;>simp
theorem M5 (l:List Acc.AcD) (x:Acc.AcD):(Acc.aw l x).1.length<=l.length+1:=by
 unfold Acc.aw;split
 ·simp
 ·split<;>simp
theorem Jh (A L:List Acc.AcD) (N:List En) (a e:Int) (n:Nat) (h1:A.length<=n) (h2:L.length<=n):(grF A L N a e).1.length<=n:=by
 unfold grF;split
 ·exact h1
 ·split
  ·exact h1
  ·exact h2
theorem M6 (l:List Ln) (x:Ln) (n:Int):(Stk.aw l x n).1.length<=l.length+1:=by
 unfold Stk.aw;split
 ·simp
 ·split<;>simp
theorem M7 (l:List Rts.Rt) (x:Rts.Rt):(Rts.bR l x).1.length<=l.length+1:=by
 unfold Rts.bR;split
 ·split
  ·simp
  ·split<;>simp
 ·simp
theorem M8 (l:List Lck.Lk) (a b n:Int):(Lck.aw l a b n).1.length<=l.length+1:=by
 unfold Lck.aw;split
 ·simp
 ·split<;>simp
theorem Ji {K:List Lck.Lk} {N:List En} {x:En} (hi:InE N) (hx:Ent.InL x.2.2/\x.2.2.length<=1000):(dG K N x).1.length<=N.length+1/\InE (dG K N x).1:=by
 unfold dG;split
 ·exact ⟨SB _,hi⟩
 ·split
  ·exact ⟨SB _,hi⟩
  ·refine ⟨by simp,fun y hy=> ?_⟩;rcases Rn.1 hy with hy|hy
   ·exact hi y hy
   ·rw [Ru.1 hy];exact hx
theorem M9 {E:List Int} {A:List Acc.AcD} {K:List Lck.Lk} {N:List En} {p:Int} {L:List Ln} (hi:InE N) (hx:Ent.InL L/\L.length<=1000):(b9 E A K N p L).1.length<=N.length+1/\InE (b9 E A K N p L).1:=by
 unfold b9;split
 ·exact ⟨SB _,hi⟩
 ·split
  ·exact ⟨SB _,hi⟩
  ·split
   ·exact ⟨SB _,hi⟩
   ·exact Ji hi hx
theorem PD {L:List Ln} (h:Ent.InL L) (k:Ent.bD L=false):Ent.InL (L.map Ent.dz):=by
 intro x hx;obtain ⟨y,hy,rfl⟩:=RS.1 hx;have h1:=h y hy;have h2:y.2.2.2≠ -9223372036854775808:=by
  intro e;unfold Ent.bD at k;rw [Sw] at k;exact k y hy (by simpa using e)
 obtain ⟨a1,a2⟩:=h1;refine ⟨?_, ?_⟩<;>(simp only [Ent.dz];omega)
theorem PE {y:En} (h:Ent.InL y.2.2/\y.2.2.length<=1000):Ent.InL (Ent.bt y.1 y.2.1 y.2.2).1.2.2/\(Ent.bt y.1 y.2.1 y.2.2).1.2.2.length<=1000:=by
 refine ⟨?_,Ro (uy y) h.2⟩;unfold Ent.bt;split
 ·intro x hx;cases hx
 ·rename_i k;exact PD h.1 (by simpa using k)
theorem PF {K:List Lck.Lk} {N:List En} {a b:Int} (hi:InE N):(bM K N a b).1.length<=N.length+1/\InE (bM K N a b).1:=by
 unfold bM;split
 ·exact ⟨SB _,hi⟩
 ·split
  ·exact ⟨SB _,hi⟩
  ·split
   ·exact ⟨SB _,hi⟩
   ·rename_i y hy;unfold rvY;split
    ·exact ⟨SB _,hi⟩
    ·exact Ji hi (PE (dp hi hy))
theorem OP {n:Nat} {B:Bk} {c:Cm.CmD} (h:Szn n B) (hl:Ent.InL (Cm.aB c)):Szn (n+1) (apF B c).1:=by
 obtain ⟨E,A,S,R,K,N⟩:=B;obtain ⟨k,a,b,c,d,s,q,⟨m1,m2⟩,l⟩:=c;obtain ⟨h1,h2,h3,h4,h5,h6,hi⟩:=h;dsimp only at h1 h2 h3 h4 h5 h6 hi;by_cases hc:Cm.ah (k,a,b,c,d,s,q,(m1,m2),l)=0
 ·rw [OS hc];have hll:=cT hc;simp only [Cm.aB] at hll hl;unfold doF;dsimp only;split
  ·exact iZ ⟨Ro (M4 _ _) (by omega),by dsimp only;omega,by dsimp only;omega,by dsimp only;omega,by dsimp only;omega,by dsimp only;omega,hi⟩
  split
  ·exact iZ ⟨by dsimp only;omega,Jh _ _ _ _ _ _ (by omega) (Ro (M5 _ _) (by omega)),by dsimp only;omega,by dsimp only;omega,by dsimp only;omega,by dsimp only;omega,hi⟩
  split
  ·exact iZ ⟨by dsimp only;omega,Jh _ _ _ _ _ _ (by omega) (Ro lj (by omega)),by dsimp only;omega,by dsimp only;omega,by dsimp only;omega,by dsimp only;omega,hi⟩
  split
  ·exact iZ ⟨by dsimp only;omega,by dsimp only;omega,Ro (M6 _ _ _) (by omega),by dsimp only;omega,by dsimp only;omega,by dsimp only;omega,hi⟩
  split
  ·exact iZ ⟨by dsimp only;omega,by dsimp only;omega,by dsimp only;omega,Ro (M7 _ _) (by omega),by dsimp only;omega,by dsimp only;omega,hi⟩
  split
  ·exact iZ ⟨by dsimp only;omega,by dsimp only;omega,by dsimp only;omega,by dsimp only;omega,Ro (M8 _ _ _ _) (by omega),by dsimp only;omega,hi⟩
  split
  ·have hp:=M9 (E:=E) (A:=A) (K:=K) (p:=a) hi ⟨hl,Ro hll (by decide)⟩;exact iZ ⟨by dsimp only;omega,by dsimp only;omega,by dsimp only;omega,by dsimp only;omega,by dsimp only;omega,Ro hp.1 (by omega),hp.2⟩
  ·have hp:=PF (K:=K) (a:=a) (b:=b) hi;exact iZ ⟨by dsimp only;omega,by dsimp only;omega,by dsimp only;omega,by dsimp only;omega,by dsimp only;omega,Ro hp.1 (by omega),hp.2⟩
 ·rw [fG hc];exact Id _
theorem CK {n:Nat} {E:List Int} {A:List Acc.AcD} {S:List Ln} {R:List Rts.Rt} {K:List Lck.Lk} {N:List En} (h:Szn n (E,A,S,R,K,N)) (hn:n<=1000000):Sm E A S R K N:=by
 obtain ⟨h1,h2,h3,h4,h5,h6,hi⟩:=h;dsimp only at h1 h2 h3 h4 h5 h6 hi;exact ⟨by omega,by omega,by omega,by omega,by omega,by omega,hi⟩
def bN:Bk->List Cm.CmD->Int->Bk×Int×Int
 |B,[],i=>(B,i,0)
 |B,c::r,i=>if (apF B c).2=0 then bN (apF B c).1 r (i+1) else (B,i,(apF B c).2)
def aA (B:Bk) (l:List Cm.CmD):Bk×Int×Int:=bN B l 0
theorem xl {B:Bk} {l:List Cm.CmD} {i:Int} {c:Cm.CmD} (hc:l[i.toNat]? =some c) (h: ¬(apF B c).2=0):bN B (l.drop i.toNat) i=(B,i,(apF B c).2):=by
 obtain ⟨h1,h2⟩:=List.getElem?_eq_some_iff.1 hc;rw [Rw h1,h2,bN,Q8 h]
theorem xm {B:Bk} {l:List Cm.CmD} {i:Int} {c:Cm.CmD} (h0:0<=i) (hc:l[i.toNat]? =some c) (h:(apF B c).2=0):bN B (l.drop i.toNat) i=bN (apF B c).1 (l.drop (i+1).toNat) (i+1):=by
 obtain ⟨h1,h2⟩:=List.getElem?_eq_some_iff.1 hc;rw [Rw h1,h2,bN,Q_ h,show (i+1).toNat=i.toNat+1 by omega]
theorem C0 {B:Bk} {l:List Cm.CmD} {i:Int} (h: ¬i<(l.length:Int)) (h1:i<=l.length):bN B (l.drop i.toNat) i=(B,(l.length:Int),0):=by
 rw [RC (by omega),bN,show i=(l.length:Int) by omega]
end Dsk
end
section
namespace Dsk
open Go.Vm
open Bks (En InE Sm dp ci)
abbrev CmT:Ty:= .pair I (.pair I (.pair I (.pair I (.pair I (.pair .bool (.pair .bool (.pair Vl (.slice LnT))))))))
def oG:TypeId->Option Ty:=fun|57=>some CmT|i=>aJ i
def InC (l:List Cm.CmD):Prop:= ∀c∈l,Ent.InL (Cm.aB c)
theorem Ax {l:List Cm.CmD} {i:Nat} {c:Cm.CmD} (h:InC l) (hc:l[i]? =some c):Ent.InL (Cm.aB c):=h c (Rr hc)
theorem xn {i:Int} {n:Nat} {l:List Cm.CmD} {B:Bk} {c:Cm.CmD} (h:InC l) (hc:l[i.toNat]? =some c) (h0:0<=i) (hz:Szn (n+i.toNat) B):Szn (n+(i+1).toNat) (apF B c).1:=by
 rw [show n+(i+1).toNat=n+i.toNat+1 by omega];exact OP hz (Ax h hc)
def Ay (E:List Int) (A:List Acc.AcD) (S:List Ln) (R:List Rts.Rt) (K:List Lck.Lk) (N:List En) (l:List Cm.CmD):Env where
 P:=Tryz.prog
 ty:=oG
 specs:=ai [Bks.L5,I9]
 heads:=fun|3=>some {slots:=[(15, .int .i64)],boxes:=[(4,[.list .part I, .list .part AcT, .list .part LnT, .list .part RTy, .list .part Vl, .list .part EnT])],keep:=[],drop:=[2],inv:=fun _ (x:Int×List Int×List Acc.AcD×List Ln×List Rts.Rt×List Lck.Lk×List En×Unit)=>0<=x.1/\x.1<=l.length/\Szn (500000+x.1.toNat) (x.2.1,x.2.2.1,x.2.2.2.1,x.2.2.2.2.1,x.2.2.2.2.2.1,x.2.2.2.2.2.2.1)/\bN (x.2.1,x.2.2.1,x.2.2.2.1,x.2.2.2.2.1,x.2.2.2.2.2.1,x.2.2.2.2.2.2.1) (l.drop x.1.toNat) x.1=aA (E,A,S,R,K,N) l,measure:=fun _ (x:Int×List Int×List Acc.AcD×List Ln×List Rts.Rt×List Lck.Lk×List En×Unit)=>(l.length-x.1).toNat}|_=>none
abbrev Az:Ann:={slots:=bB 0 [.list .part I, .list .part AcT, .list .part LnT, .list .part RTy, .list .part Vl, .list .part EnT, .int .i64, .int .i64],boxes:=[],inv:=fun _ _=>True}
def nU (E:List Int) (A:List Acc.AcD) (S:List Ln) (R:List Rts.Rt) (K:List Lck.Lk) (N:List En) (l:List Cm.CmD):Prop:=
 Sm E A S R K N/\(True/\0<=(0:Int)/\0<=(↑l.length:Int)/\Szn ((500000:Nat)+Int.toNat 0) (E,A,S,R,K,N)/\bN (E,A,S,R,K,N) (List.drop (Int.toNat 0) l) 0=aA (E,A,S,R,K,N) l)/\∀(x:Int×List Int×List (Int×Int×Bool×Bool)×List (Int×Int×Int×Int)×List (Int×Int×Int×Int×Int×Int)×List (Int×Int)×List (Int×Int×List (Int×Int×Int×Int))×Unit),0<=x.1/\x.1<=l.length/\Szn ((500000:Nat)+x.1.toNat) (x.2.1,x.2.2.1,x.2.2.2.1,x.2.2.2.2.1,x.2.2.2.2.2.1,x.2.2.2.2.2.2.1)/\bN (x.2.1,x.2.2.1,x.2.2.2.1,x.2.2.2.2.1,x.2.2.2.2.2.1,x.2.2.2.2.2.2.1) (List.drop x.1.toNat l) x.1=aA (E,A,S,R,K,N) l->(decide (x.1<l.length)=true->(0<=x.1/\x.1<l.length)/\∀(x_1:Int×Int×Int×Int×Int×Bool×Bool×(Int×Int)×List (Int×Int×Int×Int)),l[x.1.toNat]? =some x_1->(Sm x.2.1 x.2.2.1 x.2.2.2.1 x.2.2.2.2.1 x.2.2.2.2.2.1 x.2.2.2.2.2.2.1/\Ent.InL x_1.2.2.2.2.2.2.2.2)/\((!decide ((apF (x.2.1,x.2.2.1,x.2.2.2.1,x.2.2.2.2.1,x.2.2.2.2.2.1,x.2.2.2.2.2.2.1) x_1).2=0))=true->True/\(x.2.1,x.2.2.1,x.2.2.2.1,x.2.2.2.2.1,x.2.2.2.2.2.1,x.2.2.2.2.2.2.1,x.1,(apF (x.2.1,x.2.2.1,x.2.2.2.1,x.2.2.2.2.1,x.2.2.2.2.2.1,x.2.2.2.2.2.2.1) x_1).2,())=((aA (E,A,S,R,K,N) l).1.1,(aA (E,A,S,R,K,N) l).1.2.1,(aA (E,A,S,R,K,N) l).1.2.2.1,(aA (E,A,S,R,K,N) l).1.2.2.2.1,(aA (E,A,S,R,K,N) l).1.2.2.2.2.1,(aA (E,A,S,R,K,N) l).1.2.2.2.2.2,(aA (E,A,S,R,K,N) l).2.1,(aA (E,A,S,R,K,N) l).2.2,()))/\((!decide ((apF (x.2.1,x.2.2.1,x.2.2.2.1,x.2.2.2.2.1,x.2.2.2.2.2.1,x.2.2.2.2.2.2.1) x_1).2=0))=false->(au (x.1+1))/\True/\(0<=x.1+1/\x.1+1<=l.length/\Szn ((500000:Nat)+(x.1+1).toNat) (apF (x.2.1,x.2.2.1,x.2.2.2.1,x.2.2.2.2.1,x.2.2.2.2.2.1,x.2.2.2.2.2.2.1) x_1).1/\bN (apF (x.2.1,x.2.2.1,x.2.2.2.1,x.2.2.2.2.1,x.2.2.2.2.2.1,x.2.2.2.2.2.2.1) x_1).1 (List.drop (x.1+1).toNat l) (x.1+1)=aA (E,A,S,R,K,N) l)/\(l.length-(x.1+1)).toNat<(l.length-x.1).toNat))/\(decide (x.1<l.length)=false->True/\(x.2.1,x.2.2.1,x.2.2.2.1,x.2.2.2.2.1,x.2.2.2.2.2.1,x.2.2.2.2.2.2.1,(↑l.length:Int),(0:Int),())=((aA (E,A,S,R,K,N) l).1.1,(aA (E,A,S,R,K,N) l).1.2.1,(aA (E,A,S,R,K,N) l).1.2.2.1,(aA (E,A,S,R,K,N) l).1.2.2.2.1,(aA (E,A,S,R,K,N) l).1.2.2.2.2.1,(aA (E,A,S,R,K,N) l).1.2.2.2.2.2,(aA (E,A,S,R,K,N) l).2.1,(aA (E,A,S,R,K,N) l).2.2,()))
theorem xo (E:List Int) (A:List Acc.AcD) (S:List Ln) (R:List Rts.Rt) (K:List Lck.Lk) (N:List En) (l:List Cm.CmD) (h:Szn 500000 (E,A,S,R,K,N)/\l.length<=500000/\InC l):nU E A S R K N l:=by
 obtain ⟨hz0,hl,hC⟩:=h;unfold nU;simp only [Q7,Q6,Rb,Rd,Rl,Rg];refine ⟨CK hz0 (by decide),⟨trivial,SA 0,by omega,hz0,rfl⟩, ?_⟩;rintro ⟨i,E1,A1,S1,R1,K1,N1,⟨⟩⟩ ⟨h0,h1,hz,hr⟩;dsimp only at h0 h1 hz hr⊢;refine ⟨fun hi=>⟨⟨h0,hi⟩,fun c hc=>⟨⟨CK hz (by omega),Ax hC hc⟩,fun he=>⟨trivial, ?_⟩,fun he=>⟨⟨by omega,by omega⟩,trivial,⟨by omega,by omega,xn hC hc h0 hz,(xm h0 hc he).symm.trans hr⟩,by omega⟩⟩⟩,fun hi=>⟨trivial, ?_⟩⟩
 ·have e:=(xl hc he).symm.trans hr;rw [<-e]
 ·have e:=(C0 hi h1).symm.trans hr;rw [<-e]
set_option maxRecDepth 20000
def mE:FSpec Tryz.prog:=mkG 17 (.c (.g (.c (.l I) (.c (.l AcT) (.c (.l LnT) (.c (.l RTy) (.c (.l Vl) (.c (.l EnT) .z))))))) (.c (.l CmT) .z)) (fun x=>(fun (E:List Int) (A:List Acc.AcD) (S:List Ln) (R:List Rts.Rt) (K:List Lck.Lk) (N:List En) (l:List Cm.CmD)=>(Szn 500000 (E,A,S,R,K,N)/\l.length<=500000/\InC l,(.tuple [.agg [.list .part I ((aA (E,A,S,R,K,N) l).1.1), .list .part AcT ((aA (E,A,S,R,K,N) l).1.2.1), .list .part LnT ((aA (E,A,S,R,K,N) l).1.2.2.1), .list .part RTy ((aA (E,A,S,R,K,N) l).1.2.2.2.1), .list .part Vl ((aA (E,A,S,R,K,N) l).1.2.2.2.2.1), .list .part EnT ((aA (E,A,S,R,K,N) l).1.2.2.2.2.2)], .int .i64 (aA (E,A,S,R,K,N) l).2.1, .int .i64 (aA (E,A,S,R,K,N) l).2.2]))) x.1.1 x.1.2.1 x.1.2.2.1 x.1.2.2.2.1 x.1.2.2.2.2.1 x.1.2.2.2.2.2.1 x.2.1) fun ⟨⟨E,A,S,R,K,N,_⟩,l,_⟩ h=>Pure.of_condG (E:=Ay E A S R K N l) (sh:=[some 6,none,none]) (ann:=Az) (x:=(fun (E:List Int) (A:List Acc.AcD) (S:List Ln) (R:List Rts.Rt) (K:List Lck.Lk) (N:List En) (l:List Cm.CmD)=>((aA (E,A,S,R,K,N) l).1.1,(aA (E,A,S,R,K,N) l).1.2.1,(aA (E,A,S,R,K,N) l).1.2.2.1,(aA (E,A,S,R,K,N) l).1.2.2.2.1,(aA (E,A,S,R,K,N) l).1.2.2.2.2.1,(aA (E,A,S,R,K,N) l).1.2.2.2.2.2,(aA (E,A,S,R,K,N) l).2.1,(aA (E,A,S,R,K,N) l).2.2,())) E A S R K N l) (by kernel_rfl) (xo E A S R K N l h) rfl (ab rfl _ [] rfl rfl) mixed Tryz.func17
def xp (E:List Int) (A:List Acc.AcD) (S:List Ln) (R:List Rts.Rt) (K:List Lck.Lk) (N:List En) (l:List Cm.CmD):Env where
 P:=Tryz.prog
 ty:=oG
 specs:=ai [Fh]
 heads:=fun|2=>some {slots:=[(7, .int .i64)],boxes:=[(2,[.list .part I, .list .part AcT, .list .part LnT, .list .part RTy, .list .part Vl, .list .part EnT])],keep:=[4],inv:=fun _ (x:Int×List Int×List Acc.AcD×List Ln×List Rts.Rt×List Lck.Lk×List En×Unit)=>0<=x.1/\x.1<=l.length/\Szn (500000+x.1.toNat) (x.2.1,x.2.2.1,x.2.2.2.1,x.2.2.2.2.1,x.2.2.2.2.2.1,x.2.2.2.2.2.2.1)/\bN (x.2.1,x.2.2.1,x.2.2.2.1,x.2.2.2.2.1,x.2.2.2.2.2.1,x.2.2.2.2.2.2.1) (l.drop x.1.toNat) x.1=aA (E,A,S,R,K,N) l,measure:=fun _ (x:Int×List Int×List Acc.AcD×List Ln×List Rts.Rt×List Lck.Lk×List En×Unit)=>(l.length-x.1).toNat}|_=>none
abbrev xq:Ann:={slots:=bB 0 [.list .part I, .list .part AcT, .list .part LnT, .list .part RTy, .list .part Vl, .list .part EnT, .int .i64, .int .i64],boxes:=[],inv:=fun _ _=>True}
def lk (E:List Int) (A:List Acc.AcD) (S:List Ln) (R:List Rts.Rt) (K:List Lck.Lk) (N:List En) (l:List Cm.CmD):Prop:=
 ((some (Obj.box [V.nils,V.nils,V.nils,V.nils,V.nils,V.nils])=some (Obj.box [V.nils,V.nils,V.nils,V.nils,V.nils,V.nils])/\True)/\0<=(0:Int)/\0<=(↑l.length:Int)/\Szn ((500000:Nat)+Int.toNat 0) (E,A,S,R,K,N)/\bN (E,A,S,R,K,N) (List.drop (Int.toNat 0) l) 0=aA (E,A,S,R,K,N) l)/\∀(x:Int×List Int×List (Int×Int×Bool×Bool)×List (Int×Int×Int×Int)×List (Int×Int×Int×Int×Int×Int)×List (Int×Int)×List (Int×Int×List (Int×Int×Int×Int))×Unit),0<=x.1/\x.1<=l.length/\Szn ((500000:Nat)+x.1.toNat) (x.2.1,x.2.2.1,x.2.2.2.1,x.2.2.2.2.1,x.2.2.2.2.2.1,x.2.2.2.2.2.2.1)/\bN (x.2.1,x.2.2.1,x.2.2.2.1,x.2.2.2.2.1,x.2.2.2.2.2.1,x.2.2.2.2.2.2.1) (List.drop x.1.toNat l) x.1=aA (E,A,S,R,K,N) l->(decide (x.1<l.length)=true->(0<=x.1/\x.1<l.length)/\∀(x_1:Int×Int×Int×Int×Int×Bool×Bool×(Int×Int)×List (Int×Int×Int×Int)),l[x.1.toNat]? =some x_1->(Sm x.2.1 x.2.2.1 x.2.2.2.1 x.2.2.2.2.1 x.2.2.2.2.2.1 x.2.2.2.2.2.2.1/\Ent.InL x_1.2.2.2.2.2.2.2.2)/\((!decide ((apF (x.2.1,x.2.2.1,x.2.2.2.1,x.2.2.2.2.1,x.2.2.2.2.2.1,x.2.2.2.2.2.2.1) x_1).2=0))=true->True/\(x.2.1,x.2.2.1,x.2.2.2.1,x.2.2.2.2.1,x.2.2.2.2.2.1,x.2.2.2.2.2.2.1,x.1,(apF (x.2.1,x.2.2.1,x.2.2.2.1,x.2.2.2.2.1,x.2.2.2.2.2.1,x.2.2.2.2.2.2.1) x_1).2,())=((aA (E,A,S,R,K,N) l).1.1,(aA (E,A,S,R,K,N) l).1.2.1,(aA (E,A,S,R,K,N) l).1.2.2.1,(aA (E,A,S,R,K,N) l).1.2.2.2.1,(aA (E,A,S,R,K,N) l).1.2.2.2.2.1,(aA (E,A,S,R,K,N) l).1.2.2.2.2.2,(aA (E,A,S,R,K,N) l).2.1,(aA (E,A,S,R,K,N) l).2.2,()))/\((!decide ((apF (x.2.1,x.2.2.1,x.2.2.2.1,x.2.2.2.2.1,x.2.2.2.2.2.1,x.2.2.2.2.2.2.1) x_1).2=0))=false->(au (x.1+1))/\(some (Obj.box [V.nils,V.nils,V.nils,V.nils,V.nils,V.nils])=some (Obj.box [V.nils,V.nils,V.nils,V.nils,V.nils,V.nils])/\True)/\(0<=x.1+1/\x.1+1<=l.length/\Szn ((500000:Nat)+(x.1+1).toNat) (apF (x.2.1,x.2.2.1,x.2.2.2.1,x.2.2.2.2.1,x.2.2.2.2.2.1,x.2.2.2.2.2.2.1) x_1).1/\bN (apF (x.2.1,x.2.2.1,x.2.2.2.1,x.2.2.2.2.1,x.2.2.2.2.2.1,x.2.2.2.2.2.2.1) x_1).1 (List.drop (x.1+1).toNat l) (x.1+1)=aA (E,A,S,R,K,N) l)/\(l.length-(x.1+1)).toNat<(l.length-x.1).toNat))/\(decide (x.1<l.length)=false->True/\(x.2.1,x.2.2.1,x.2.2.2.1,x.2.2.2.2.1,x.2.2.2.2.2.1,x.2.2.2.2.2.2.1,(↑l.length:Int),(0:Int),())=((aA (E,A,S,R,K,N) l).1.1,(aA (E,A,S,R,K,N) l).1.2.1,(aA (E,A,S,R,K,N) l).1.2.2.1,(aA (E,A,S,R,K,N) l).1.2.2.2.1,(aA (E,A,S,R,K,N) l).1.2.2.2.2.1,(aA (E,A,S,R,K,N) l).1.2.2.2.2.2,(aA (E,A,S,R,K,N) l).2.1,(aA (E,A,S,R,K,N) l).2.2,()))
theorem uA (E:List Int) (A:List Acc.AcD) (S:List Ln) (R:List Rts.Rt) (K:List Lck.Lk) (N:List En) (l:List Cm.CmD) (h:Szn 500000 (E,A,S,R,K,N)/\l.length<=500000/\InC l):lk E A S R K N l:=by
 obtain ⟨hz0,hl,hC⟩:=h;unfold lk;simp only [Q7,Q6,Rb,Rd,Rl,Rg];refine ⟨⟨⟨trivial,trivial⟩,SA 0,by omega,hz0,rfl⟩, ?_⟩;rintro ⟨i,E1,A1,S1,R1,K1,N1,⟨⟩⟩ ⟨h0,h1,hz,hr⟩;dsimp only at h0 h1 hz hr⊢;refine ⟨fun hi=>⟨⟨h0,hi⟩,fun c hc=>⟨⟨CK hz (by omega),Ax hC hc⟩,fun he=>⟨trivial, ?_⟩,fun he=>⟨⟨by omega,by omega⟩,⟨trivial,trivial⟩,⟨by omega,by omega,xn hC hc h0 hz,(xm h0 hc he).symm.trans hr⟩,by omega⟩⟩⟩,fun hi=>⟨trivial, ?_⟩⟩
 ·have e:=(xl hc he).symm.trans hr;rw [<-e]
 ·have e:=(C0 hi h1).symm.trans hr;rw [<-e]
def zX:FSpec Tryz.prog:=mkG 34 (.c (.g (.c (.p I) (.c (.p AcT) (.c (.p LnT) (.c (.p RTy) (.c (.p Vl) (.c (.p EnT) .z))))))) (.c (.p CmT) .z)) (fun x=>(fun (E:List Int) (A:List Acc.AcD) (S:List Ln) (R:List Rts.Rt) (K:List Lck.Lk) (N:List En) (l:List Cm.CmD)=>(Szn 500000 (E,A,S,R,K,N)/\l.length<=500000/\InC l,(.tuple [.agg [.list .part I ((aA (E,A,S,R,K,N) l).1.1), .list .part AcT ((aA (E,A,S,R,K,N) l).1.2.1), .list .part LnT ((aA (E,A,S,R,K,N) l).1.2.2.1), .list .part RTy ((aA (E,A,S,R,K,N) l).1.2.2.2.1), .list .part Vl ((aA (E,A,S,R,K,N) l).1.2.2.2.2.1), .list .part EnT ((aA (E,A,S,R,K,N) l).1.2.2.2.2.2)], .int .i64 (aA (E,A,S,R,K,N) l).2.1, .int .i64 (aA (E,A,S,R,K,N) l).2.2]))) x.1.1 x.1.2.1 x.1.2.2.1 x.1.2.2.2.1 x.1.2.2.2.2.1 x.1.2.2.2.2.2.1 x.2.1) fun ⟨⟨E,A,S,R,K,N,_⟩,l,_⟩ h=>Pure.of_condG (E:=xp E A S R K N l) (sh:=[some 6,none,none]) (ann:=xq) (x:=(fun (E:List Int) (A:List Acc.AcD) (S:List Ln) (R:List Rts.Rt) (K:List Lck.Lk) (N:List En) (l:List Cm.CmD)=>((aA (E,A,S,R,K,N) l).1.1,(aA (E,A,S,R,K,N) l).1.2.1,(aA (E,A,S,R,K,N) l).1.2.2.1,(aA (E,A,S,R,K,N) l).1.2.2.2.1,(aA (E,A,S,R,K,N) l).1.2.2.2.2.1,(aA (E,A,S,R,K,N) l).1.2.2.2.2.2,(aA (E,A,S,R,K,N) l).2.1,(aA (E,A,S,R,K,N) l).2.2,())) E A S R K N l) (by kernel_rfl) (uA E A S R K N l h) rfl (ab rfl _ [] rfl rfl) mixed Tryz.func34
end Dsk
end
end
end Go.Proofs.YtabicbgeoiilmaaGreatDoor
