/-
  What books that check are.
-/
import Derived.Test.YtabicbgeoiilmaaGreatDsk6
import Derived.Test.YtabicbgeoiilmaaGreatUse1
set_option linter.unusedVariables false
section
namespace Go.Proofs.YtabicbgeoiilmaaGreat.Dsk
open Go.Vm
open Bks (En InE Sm ine_at ownP)
def rputF (B:Bk) (x:En):Bk×Int:=match B with|(E,A,S,R,K,N)=>fin (putF K N x).2 (E,A,S,R,K,(putF K N x).1)
noncomputable def env_rput (E:List Int) (A:List Acc.AcD) (S:List Ln) (R:List Rts.Rt) (K:List Lck.Lk) (N:List En) (p r:Int) (L:List Ln):Env where
 P:=Tryz.prog
 ty:=tys0
 specs:=specsOf [Ent.sp_refEnts,Lck.sp_rany]
 asArr:=fun|19=>true|24=>true|_=>false
 frz:=fun|11=>true|12=>true|_=>false
abbrev ann_rput:Ann:={slots:=numP 0 [.list .part I, .list .part AcT, .list .part LnT, .list .part RTy, .list .part Vl, .list .part EnT, .int .i64],boxes:=[],inv:=fun _ _=>True}
def g_rput_vc (E:List Int) (A:List Acc.AcD) (S:List Ln) (R:List Rts.Rt) (K:List Lck.Lk) (N:List En) (p:Int) (r:Int) (L:List Ln):Prop:=
 L.length<=(1000000000:Nat)/\(K.length<=(1000000:Nat)/\(Ent.entsF L).length<=(1000000:Nat))/\((Ent.entsF L).any (Lck.lkP K p)=true->True/\([],[],[],[],[],[],(33:Int),())=((rputF (E,A,S,R,K,N) (p,r,L)).1.1,(rputF (E,A,S,R,K,N) (p,r,L)).1.2.1,(rputF (E,A,S,R,K,N) (p,r,L)).1.2.2.1,(rputF (E,A,S,R,K,N) (p,r,L)).1.2.2.2.1,(rputF (E,A,S,R,K,N) (p,r,L)).1.2.2.2.2.1,(rputF (E,A,S,R,K,N) (p,r,L)).1.2.2.2.2.2,(rputF (E,A,S,R,K,N) (p,r,L)).2,()))/\((Ent.entsF L).any (Lck.lkP K p)=false->(decide ((2000:Int)<=(↑N.length:Int))=true->True/\([],[],[],[],[],[],(3:Int),())=((rputF (E,A,S,R,K,N) (p,r,L)).1.1,(rputF (E,A,S,R,K,N) (p,r,L)).1.2.1,(rputF (E,A,S,R,K,N) (p,r,L)).1.2.2.1,(rputF (E,A,S,R,K,N) (p,r,L)).1.2.2.2.1,(rputF (E,A,S,R,K,N) (p,r,L)).1.2.2.2.2.1,(rputF (E,A,S,R,K,N) (p,r,L)).1.2.2.2.2.2,(rputF (E,A,S,R,K,N) (p,r,L)).2,()))/\(decide ((2000:Int)<=(↑N.length:Int))=false->(((0:Nat)+N.length)*(40:Nat)<=(140737488355328:Nat)/\(0:Nat)+N.length<=(4611686018427387904:Nat))/\((N.length+(1:Nat))*(40:Nat)<=(140737488355328:Nat)/\N.length+(1:Nat)<=(4611686018427387904:Nat))/\True/\(E,A,S,R,K,N++[(p,r,L)],(0:Int),())=((rputF (E,A,S,R,K,N) (p,r,L)).1.1,(rputF (E,A,S,R,K,N) (p,r,L)).1.2.1,(rputF (E,A,S,R,K,N) (p,r,L)).1.2.2.1,(rputF (E,A,S,R,K,N) (p,r,L)).1.2.2.2.1,(rputF (E,A,S,R,K,N) (p,r,L)).1.2.2.2.2.1,(rputF (E,A,S,R,K,N) (p,r,L)).1.2.2.2.2.2,(rputF (E,A,S,R,K,N) (p,r,L)).2,())))
theorem g_rput_eq (E:List Int) (A:List Acc.AcD) (S:List Ln) (R:List Rts.Rt) (K:List Lck.Lk) (N:List En) (p r:Int) (L:List Ln):CondG (env_rput E A S R K N p r L) Tryz.f39 [.agg [.list .part I E, .list .part AcT A, .list .part LnT S, .list .part RTy R, .list .part Vl K, .list .part EnT N], .agg [.int .i64 p, .int .i64 r, .list .part LnT L]] [some 6,none] ann_rput ((rputF (E,A,S,R,K,N) (p,r,L)).1.1,(rputF (E,A,S,R,K,N) (p,r,L)).1.2.1,(rputF (E,A,S,R,K,N) (p,r,L)).1.2.2.1,(rputF (E,A,S,R,K,N) (p,r,L)).1.2.2.2.1,(rputF (E,A,S,R,K,N) (p,r,L)).1.2.2.2.2.1,(rputF (E,A,S,R,K,N) (p,r,L)).1.2.2.2.2.2,(rputF (E,A,S,R,K,N) (p,r,L)).2,())=g_rput_vc E A S R K N p r L:=by kernel_rfl
theorem g_rput_ok (E:List Int) (A:List Acc.AcD) (S:List Ln) (R:List Rts.Rt) (K:List Lck.Lk) (N:List En) (p r:Int) (L:List Ln) (h:L.length<=1000000/\K.length<=1000000/\N.length<=1000000):g_rput_vc E A S R K N p r L:=by
 obtain ⟨h1,h2,h3⟩:=h;have hel:=Ent.entsF_len L;unfold g_rput_vc;simp only [decide_eq_true_eq,decide_eq_false_iff_not,Bool.not_eq_true',Bool.not_eq_false',Bool.not_true,Bool.not_false];repeat' (first|with_reducible apply And.intro|intro _)
 all_goals try (first|trivial|rfl|omega)
 all_goals (unfold rputF;dsimp only)
 all_goals first
  |(rw [put_lock (by assumption)];rfl)
  |(rw [put_full (by assumption) (by assumption)];rfl)
  |(rw [put_ok (by assumption) (by assumption)];rfl)
set_option maxRecDepth 20000
theorem rput_pure (E:List Int) (A:List Acc.AcD) (S:List Ln) (R:List Rts.Rt) (K:List Lck.Lk) (N:List En) (p r:Int) (L:List Ln) (h:L.length<=1000000/\K.length<=1000000/\N.length<=1000000):Pure Tryz.prog 39 [.agg [.list .part I E, .list .part AcT A, .list .part LnT S, .list .part RTy R, .list .part Vl K, .list .part EnT N], .agg [.int .i64 p, .int .i64 r, .list .part LnT L]] (.tuple [.agg [.list .part I ((rputF (E,A,S,R,K,N) (p,r,L)).1.1), .list .part AcT ((rputF (E,A,S,R,K,N) (p,r,L)).1.2.1), .list .part LnT ((rputF (E,A,S,R,K,N) (p,r,L)).1.2.2.1), .list .part RTy ((rputF (E,A,S,R,K,N) (p,r,L)).1.2.2.2.1), .list .part Vl ((rputF (E,A,S,R,K,N) (p,r,L)).1.2.2.2.2.1), .list .part EnT ((rputF (E,A,S,R,K,N) (p,r,L)).1.2.2.2.2.2)], .int .i64 (rputF (E,A,S,R,K,N) (p,r,L)).2]):=
 by have k:=Pure.of_condG (r:=(.tuple [.agg [.list .part I ((rputF (E,A,S,R,K,N) (p,r,L)).1.1), .list .part AcT ((rputF (E,A,S,R,K,N) (p,r,L)).1.2.1), .list .part LnT ((rputF (E,A,S,R,K,N) (p,r,L)).1.2.2.1), .list .part RTy ((rputF (E,A,S,R,K,N) (p,r,L)).1.2.2.2.1), .list .part Vl ((rputF (E,A,S,R,K,N) (p,r,L)).1.2.2.2.2.1), .list .part EnT ((rputF (E,A,S,R,K,N) (p,r,L)).1.2.2.2.2.2)], .int .i64 (rputF (E,A,S,R,K,N) (p,r,L)).2])) (g_rput_eq E A S R K N p r L) (g_rput_ok E A S R K N p r L h) rfl (specs_ok rfl [Ent.sp_refEnts,Lck.sp_rany] [] rfl rfl) mixed Tryz.func39;exact k
noncomputable def q_rput (E:List Int) (A:List Acc.AcD) (S:List Ln) (R:List Rts.Rt) (K:List Lck.Lk) (N:List En) (p r:Int) (L:List Ln):Prop×V:=(L.length<=1000000/\K.length<=1000000/\N.length<=1000000,(.tuple [.agg [.list .part I ((rputF (E,A,S,R,K,N) (p,r,L)).1.1), .list .part AcT ((rputF (E,A,S,R,K,N) (p,r,L)).1.2.1), .list .part LnT ((rputF (E,A,S,R,K,N) (p,r,L)).1.2.2.1), .list .part RTy ((rputF (E,A,S,R,K,N) (p,r,L)).1.2.2.2.1), .list .part Vl ((rputF (E,A,S,R,K,N) (p,r,L)).1.2.2.2.2.1), .list .part EnT ((rputF (E,A,S,R,K,N) (p,r,L)).1.2.2.2.2.2)], .int .i64 (rputF (E,A,S,R,K,N) (p,r,L)).2]))
noncomputable def sp_rput:FSpec Tryz.prog where
 f:=39
 run:=fun
  |[.agg [v0_0,v0_1,v0_2,v0_3,v0_4,v0_5], .agg [.int .i64 p, .int .i64 r,v1_2]]=>(asP I v0_0:Option (List Int)).bind fun E=>(asP AcT v0_1:Option (List Acc.AcD)).bind fun A=>(asP LnT v0_2:Option (List Ln)).bind fun S=>(asP RTy v0_3:Option (List Rts.Rt)).bind fun R=>(asP Vl v0_4:Option (List Lck.Lk)).bind fun K=>(asP EnT v0_5:Option (List En)).bind fun N=>(asP LnT v1_2:Option (List Ln)).bind fun L=>some (q_rput E A S R K N p r L)
  |_=>none
 ok:=fun args pre r h hp=>by
  split at h
  ·rename_i v0_0 v0_1 v0_2 v0_3 v0_4 v0_5 p r v1_2;obtain ⟨E,h0_0,h⟩:=Option.bind_eq_some_iff.1 h;obtain ⟨A,h0_1,h⟩:=Option.bind_eq_some_iff.1 h;obtain ⟨S,h0_2,h⟩:=Option.bind_eq_some_iff.1 h;obtain ⟨R,h0_3,h⟩:=Option.bind_eq_some_iff.1 h;obtain ⟨K,h0_4,h⟩:=Option.bind_eq_some_iff.1 h;obtain ⟨N,h0_5,h⟩:=Option.bind_eq_some_iff.1 h;obtain ⟨L,h1_2,h⟩:=Option.bind_eq_some_iff.1 h;exact of_q h hp fun h=>(rput_pure E A S R K N p r L h).weak (.cons (Weak.agg (.cons (asP_weak h0_0) (.cons (asP_weak h0_1) (.cons (asP_weak h0_2) (.cons (asP_weak h0_3) (.cons (asP_weak h0_4) (.cons (asP_weak h0_5) .nil))))))) (.cons (Weak.agg (.cons (.refl _) (.cons (.refl _) (.cons (asP_weak h1_2) .nil)))) .nil))
  ·cases h
noncomputable def env_master (E:List Int) (A:List Acc.AcD) (S:List Ln) (R:List Rts.Rt) (K:List Lck.Lk) (N:List En) (k a b c d:Int) (s q:Bool) (n m:Int) (l:List Ln):Env where
 P:=Tryz.prog
 ty:=tys0
 specs:=specsOf [Cur.sp_radd,Acc.sp_radd,Acc.sp_rmove,Stk.sp_refAdd,Rts.sp_rset,Lck.sp_radd,Bks.sp_rused]
abbrev ann_master:Ann:={slots:=numP 0 [.list .part I, .list .part AcT, .list .part LnT, .list .part RTy, .list .part Vl, .list .part EnT, .int .i64],boxes:=[],inv:=fun _ _=>True}
def g_master_vc (E:List Int) (A:List Acc.AcD) (S:List Ln) (R:List Rts.Rt) (K:List Lck.Lk) (N:List En) (k:Int) (a:Int) (b:Int) (c:Int) (d:Int) (s:Bool) (q:Bool) (n:Int) (m:Int) (l:List Ln):Prop:=
 (decide (k=(1:Int))=true->E.length<=(1000000:Nat)/\((!decide ((Cur.addF E a).2=(0:Int)))=true->True/\([],[],[],[],[],[],(Cur.addF E a).2,())=((doF (E,A,S,R,K,N) (k,a,b,c,d,s,q,(n,m),l)).1.1,(doF (E,A,S,R,K,N) (k,a,b,c,d,s,q,(n,m),l)).1.2.1,(doF (E,A,S,R,K,N) (k,a,b,c,d,s,q,(n,m),l)).1.2.2.1,(doF (E,A,S,R,K,N) (k,a,b,c,d,s,q,(n,m),l)).1.2.2.2.1,(doF (E,A,S,R,K,N) (k,a,b,c,d,s,q,(n,m),l)).1.2.2.2.2.1,(doF (E,A,S,R,K,N) (k,a,b,c,d,s,q,(n,m),l)).1.2.2.2.2.2,(doF (E,A,S,R,K,N) (k,a,b,c,d,s,q,(n,m),l)).2,()))/\((!decide ((Cur.addF E a).2=(0:Int)))=false->((!decide ((0:Int)=(0:Int)))=true->Sm (Cur.addF E a).1 A S R K N/\(Bks.usedF N (0:Int)=true->True/\([],[],[],[],[],[],(29:Int),())=((doF (E,A,S,R,K,N) (k,a,b,c,d,s,q,(n,m),l)).1.1,(doF (E,A,S,R,K,N) (k,a,b,c,d,s,q,(n,m),l)).1.2.1,(doF (E,A,S,R,K,N) (k,a,b,c,d,s,q,(n,m),l)).1.2.2.1,(doF (E,A,S,R,K,N) (k,a,b,c,d,s,q,(n,m),l)).1.2.2.2.1,(doF (E,A,S,R,K,N) (k,a,b,c,d,s,q,(n,m),l)).1.2.2.2.2.1,(doF (E,A,S,R,K,N) (k,a,b,c,d,s,q,(n,m),l)).1.2.2.2.2.2,(doF (E,A,S,R,K,N) (k,a,b,c,d,s,q,(n,m),l)).2,()))/\(Bks.usedF N (0:Int)=false->True/\((Cur.addF E a).1,A,S,R,K,N,(0:Int),())=((doF (E,A,S,R,K,N) (k,a,b,c,d,s,q,(n,m),l)).1.1,(doF (E,A,S,R,K,N) (k,a,b,c,d,s,q,(n,m),l)).1.2.1,(doF (E,A,S,R,K,N) (k,a,b,c,d,s,q,(n,m),l)).1.2.2.1,(doF (E,A,S,R,K,N) (k,a,b,c,d,s,q,(n,m),l)).1.2.2.2.1,(doF (E,A,S,R,K,N) (k,a,b,c,d,s,q,(n,m),l)).1.2.2.2.2.1,(doF (E,A,S,R,K,N) (k,a,b,c,d,s,q,(n,m),l)).1.2.2.2.2.2,(doF (E,A,S,R,K,N) (k,a,b,c,d,s,q,(n,m),l)).2,())))/\((!decide ((0:Int)=(0:Int)))= !true->True/\((Cur.addF E a).1,A,S,R,K,N,(0:Int),())=((doF (E,A,S,R,K,N) (k,a,b,c,d,s,q,(n,m),l)).1.1,(doF (E,A,S,R,K,N) (k,a,b,c,d,s,q,(n,m),l)).1.2.1,(doF (E,A,S,R,K,N) (k,a,b,c,d,s,q,(n,m),l)).1.2.2.1,(doF (E,A,S,R,K,N) (k,a,b,c,d,s,q,(n,m),l)).1.2.2.2.1,(doF (E,A,S,R,K,N) (k,a,b,c,d,s,q,(n,m),l)).1.2.2.2.2.1,(doF (E,A,S,R,K,N) (k,a,b,c,d,s,q,(n,m),l)).1.2.2.2.2.2,(doF (E,A,S,R,K,N) (k,a,b,c,d,s,q,(n,m),l)).2,()))))/\(decide (k=(1:Int))=false->(decide (k=(2:Int))=true->A.length<=(1000000:Nat)/\((!decide ((Acc.addF A (a,b,s,q)).2=(0:Int)))=true->True/\([],[],[],[],[],[],(Acc.addF A (a,b,s,q)).2,())=((doF (E,A,S,R,K,N) (k,a,b,c,d,s,q,(n,m),l)).1.1,(doF (E,A,S,R,K,N) (k,a,b,c,d,s,q,(n,m),l)).1.2.1,(doF (E,A,S,R,K,N) (k,a,b,c,d,s,q,(n,m),l)).1.2.2.1,(doF (E,A,S,R,K,N) (k,a,b,c,d,s,q,(n,m),l)).1.2.2.2.1,(doF (E,A,S,R,K,N) (k,a,b,c,d,s,q,(n,m),l)).1.2.2.2.2.1,(doF (E,A,S,R,K,N) (k,a,b,c,d,s,q,(n,m),l)).1.2.2.2.2.2,(doF (E,A,S,R,K,N) (k,a,b,c,d,s,q,(n,m),l)).2,()))/\((!decide ((Acc.addF A (a,b,s,q)).2=(0:Int)))=false->((!decide (a=(0:Int)))=true->Sm E (Acc.addF A (a,b,s,q)).1 S R K N/\(Bks.usedF N a=true->True/\([],[],[],[],[],[],(29:Int),())=((doF (E,A,S,R,K,N) (k,a,b,c,d,s,q,(n,m),l)).1.1,(doF (E,A,S,R,K,N) (k,a,b,c,d,s,q,(n,m),l)).1.2.1,(doF (E,A,S,R,K,N) (k,a,b,c,d,s,q,(n,m),l)).1.2.2.1,(doF (E,A,S,R,K,N) (k,a,b,c,d,s,q,(n,m),l)).1.2.2.2.1,(doF (E,A,S,R,K,N) (k,a,b,c,d,s,q,(n,m),l)).1.2.2.2.2.1,(doF (E,A,S,R,K,N) (k,a,b,c,d,s,q,(n,m),l)).1.2.2.2.2.2,(doF (E,A,S,R,K,N) (k,a,b,c,d,s,q,(n,m),l)).2,()))/\(Bks.usedF N a=false->True/\(E,(Acc.addF A (a,b,s,q)).1,S,R,K,N,(0:Int),())=((doF (E,A,S,R,K,N) (k,a,b,c,d,s,q,(n,m),l)).1.1,(doF (E,A,S,R,K,N) (k,a,b,c,d,s,q,(n,m),l)).1.2.1,(doF (E,A,S,R,K,N) (k,a,b,c,d,s,q,(n,m),l)).1.2.2.1,(doF (E,A,S,R,K,N) (k,a,b,c,d,s,q,(n,m),l)).1.2.2.2.1,(doF (E,A,S,R,K,N) (k,a,b,c,d,s,q,(n,m),l)).1.2.2.2.2.1,(doF (E,A,S,R,K,N) (k,a,b,c,d,s,q,(n,m),l)).1.2.2.2.2.2,(doF (E,A,S,R,K,N) (k,a,b,c,d,s,q,(n,m),l)).2,())))/\((!decide (a=(0:Int)))= !true->True/\(E,(Acc.addF A (a,b,s,q)).1,S,R,K,N,(0:Int),())=((doF (E,A,S,R,K,N) (k,a,b,c,d,s,q,(n,m),l)).1.1,(doF (E,A,S,R,K,N) (k,a,b,c,d,s,q,(n,m),l)).1.2.1,(doF (E,A,S,R,K,N) (k,a,b,c,d,s,q,(n,m),l)).1.2.2.1,(doF (E,A,S,R,K,N) (k,a,b,c,d,s,q,(n,m),l)).1.2.2.2.1,(doF (E,A,S,R,K,N) (k,a,b,c,d,s,q,(n,m),l)).1.2.2.2.2.1,(doF (E,A,S,R,K,N) (k,a,b,c,d,s,q,(n,m),l)).1.2.2.2.2.2,(doF (E,A,S,R,K,N) (k,a,b,c,d,s,q,(n,m),l)).2,()))))/\(decide (k=(2:Int))=false->(decide (k=(3:Int))=true->A.length<=(1000000:Nat)/\((!decide ((Acc.moveF A a b).2=(0:Int)))=true->True/\([],[],[],[],[],[],(Acc.moveF A a b).2,())=((doF (E,A,S,R,K,N) (k,a,b,c,d,s,q,(n,m),l)).1.1,(doF (E,A,S,R,K,N) (k,a,b,c,d,s,q,(n,m),l)).1.2.1,(doF (E,A,S,R,K,N) (k,a,b,c,d,s,q,(n,m),l)).1.2.2.1,(doF (E,A,S,R,K,N) (k,a,b,c,d,s,q,(n,m),l)).1.2.2.2.1,(doF (E,A,S,R,K,N) (k,a,b,c,d,s,q,(n,m),l)).1.2.2.2.2.1,(doF (E,A,S,R,K,N) (k,a,b,c,d,s,q,(n,m),l)).1.2.2.2.2.2,(doF (E,A,S,R,K,N) (k,a,b,c,d,s,q,(n,m),l)).2,()))/\((!decide ((Acc.moveF A a b).2=(0:Int)))=false->((!decide (b=(0:Int)))=true->Sm E (Acc.moveF A a b).1 S R K N/\(Bks.usedF N b=true->True/\([],[],[],[],[],[],(29:Int),())=((doF (E,A,S,R,K,N) (k,a,b,c,d,s,q,(n,m),l)).1.1,(doF (E,A,S,R,K,N) (k,a,b,c,d,s,q,(n,m),l)).1.2.1,(doF (E,A,S,R,K,N) (k,a,b,c,d,s,q,(n,m),l)).1.2.2.1,(doF (E,A,S,R,K,N) (k,a,b,c,d,s,q,(n,m),l)).1.2.2.2.1,(doF (E,A,S,R,K,N) (k,a,b,c,d,s,q,(n,m),l)).1.2.2.2.2.1,(doF (E,A,S,R,K,N) (k,a,b,c,d,s,q,(n,m),l)).1.2.2.2.2.2,(doF (E,A,S,R,K,N) (k,a,b,c,d,s,q,(n,m),l)).2,()))/\(Bks.usedF N b=false->True/\(E,(Acc.moveF A a b).1,S,R,K,N,(0:Int),())=((doF (E,A,S,R,K,N) (k,a,b,c,d,s,q,(n,m),l)).1.1,(doF (E,A,S,R,K,N) (k,a,b,c,d,s,q,(n,m),l)).1.2.1,(doF (E,A,S,R,K,N) (k,a,b,c,d,s,q,(n,m),l)).1.2.2.1,(doF (E,A,S,R,K,N) (k,a,b,c,d,s,q,(n,m),l)).1.2.2.2.1,(doF (E,A,S,R,K,N) (k,a,b,c,d,s,q,(n,m),l)).1.2.2.2.2.1,(doF (E,A,S,R,K,N) (k,a,b,c,d,s,q,(n,m),l)).1.2.2.2.2.2,(doF (E,A,S,R,K,N) (k,a,b,c,d,s,q,(n,m),l)).2,())))/\((!decide (b=(0:Int)))= !true->True/\(E,(Acc.moveF A a b).1,S,R,K,N,(0:Int),())=((doF (E,A,S,R,K,N) (k,a,b,c,d,s,q,(n,m),l)).1.1,(doF (E,A,S,R,K,N) (k,a,b,c,d,s,q,(n,m),l)).1.2.1,(doF (E,A,S,R,K,N) (k,a,b,c,d,s,q,(n,m),l)).1.2.2.1,(doF (E,A,S,R,K,N) (k,a,b,c,d,s,q,(n,m),l)).1.2.2.2.1,(doF (E,A,S,R,K,N) (k,a,b,c,d,s,q,(n,m),l)).1.2.2.2.2.1,(doF (E,A,S,R,K,N) (k,a,b,c,d,s,q,(n,m),l)).1.2.2.2.2.2,(doF (E,A,S,R,K,N) (k,a,b,c,d,s,q,(n,m),l)).2,()))))/\(decide (k=(3:Int))=false->(decide (k=(4:Int))=true->S.length<=(1000000000:Nat)/\((!decide ((Stk.addF S (a,b,c,d) (↑E.length:Int)).2=(0:Int)))=true->True/\([],[],[],[],[],[],(Stk.addF S (a,b,c,d) (↑E.length:Int)).2,())=((doF (E,A,S,R,K,N) (k,a,b,c,d,s,q,(n,m),l)).1.1,(doF (E,A,S,R,K,N) (k,a,b,c,d,s,q,(n,m),l)).1.2.1,(doF (E,A,S,R,K,N) (k,a,b,c,d,s,q,(n,m),l)).1.2.2.1,(doF (E,A,S,R,K,N) (k,a,b,c,d,s,q,(n,m),l)).1.2.2.2.1,(doF (E,A,S,R,K,N) (k,a,b,c,d,s,q,(n,m),l)).1.2.2.2.2.1,(doF (E,A,S,R,K,N) (k,a,b,c,d,s,q,(n,m),l)).1.2.2.2.2.2,(doF (E,A,S,R,K,N) (k,a,b,c,d,s,q,(n,m),l)).2,()))/\((!decide ((Stk.addF S (a,b,c,d) (↑E.length:Int)).2=(0:Int)))=false->((!decide ((0:Int)=(0:Int)))=true->Sm E A (Stk.addF S (a,b,c,d) (↑E.length:Int)).1 R K N/\(Bks.usedF N (0:Int)=true->True/\([],[],[],[],[],[],(29:Int),())=((doF (E,A,S,R,K,N) (k,a,b,c,d,s,q,(n,m),l)).1.1,(doF (E,A,S,R,K,N) (k,a,b,c,d,s,q,(n,m),l)).1.2.1,(doF (E,A,S,R,K,N) (k,a,b,c,d,s,q,(n,m),l)).1.2.2.1,(doF (E,A,S,R,K,N) (k,a,b,c,d,s,q,(n,m),l)).1.2.2.2.1,(doF (E,A,S,R,K,N) (k,a,b,c,d,s,q,(n,m),l)).1.2.2.2.2.1,(doF (E,A,S,R,K,N) (k,a,b,c,d,s,q,(n,m),l)).1.2.2.2.2.2,(doF (E,A,S,R,K,N) (k,a,b,c,d,s,q,(n,m),l)).2,()))/\(Bks.usedF N (0:Int)=false->True/\(E,A,(Stk.addF S (a,b,c,d) (↑E.length:Int)).1,R,K,N,(0:Int),())=((doF (E,A,S,R,K,N) (k,a,b,c,d,s,q,(n,m),l)).1.1,(doF (E,A,S,R,K,N) (k,a,b,c,d,s,q,(n,m),l)).1.2.1,(doF (E,A,S,R,K,N) (k,a,b,c,d,s,q,(n,m),l)).1.2.2.1,(doF (E,A,S,R,K,N) (k,a,b,c,d,s,q,(n,m),l)).1.2.2.2.1,(doF (E,A,S,R,K,N) (k,a,b,c,d,s,q,(n,m),l)).1.2.2.2.2.1,(doF (E,A,S,R,K,N) (k,a,b,c,d,s,q,(n,m),l)).1.2.2.2.2.2,(doF (E,A,S,R,K,N) (k,a,b,c,d,s,q,(n,m),l)).2,())))/\((!decide ((0:Int)=(0:Int)))= !true->True/\(E,A,(Stk.addF S (a,b,c,d) (↑E.length:Int)).1,R,K,N,(0:Int),())=((doF (E,A,S,R,K,N) (k,a,b,c,d,s,q,(n,m),l)).1.1,(doF (E,A,S,R,K,N) (k,a,b,c,d,s,q,(n,m),l)).1.2.1,(doF (E,A,S,R,K,N) (k,a,b,c,d,s,q,(n,m),l)).1.2.2.1,(doF (E,A,S,R,K,N) (k,a,b,c,d,s,q,(n,m),l)).1.2.2.2.1,(doF (E,A,S,R,K,N) (k,a,b,c,d,s,q,(n,m),l)).1.2.2.2.2.1,(doF (E,A,S,R,K,N) (k,a,b,c,d,s,q,(n,m),l)).1.2.2.2.2.2,(doF (E,A,S,R,K,N) (k,a,b,c,d,s,q,(n,m),l)).2,()))))/\(decide (k=(4:Int))=false->(decide (k=(5:Int))=true->R.length<=(1000000:Nat)/\((!decide ((Rts.setF R (a,b,c,d,n,m)).2=(0:Int)))=true->True/\([],[],[],[],[],[],(Rts.setF R (a,b,c,d,n,m)).2,())=((doF (E,A,S,R,K,N) (k,a,b,c,d,s,q,(n,m),l)).1.1,(doF (E,A,S,R,K,N) (k,a,b,c,d,s,q,(n,m),l)).1.2.1,(doF (E,A,S,R,K,N) (k,a,b,c,d,s,q,(n,m),l)).1.2.2.1,(doF (E,A,S,R,K,N) (k,a,b,c,d,s,q,(n,m),l)).1.2.2.2.1,(doF (E,A,S,R,K,N) (k,a,b,c,d,s,q,(n,m),l)).1.2.2.2.2.1,(doF (E,A,S,R,K,N) (k,a,b,c,d,s,q,(n,m),l)).1.2.2.2.2.2,(doF (E,A,S,R,K,N) (k,a,b,c,d,s,q,(n,m),l)).2,()))/\((!decide ((Rts.setF R (a,b,c,d,n,m)).2=(0:Int)))=false->((!decide ((0:Int)=(0:Int)))=true->Sm E A S (Rts.setF R (a,b,c,d,n,m)).1 K N/\(Bks.usedF N (0:Int)=true->True/\([],[],[],[],[],[],(29:Int),())=((doF (E,A,S,R,K,N) (k,a,b,c,d,s,q,(n,m),l)).1.1,(doF (E,A,S,R,K,N) (k,a,b,c,d,s,q,(n,m),l)).1.2.1,(doF (E,A,S,R,K,N) (k,a,b,c,d,s,q,(n,m),l)).1.2.2.1,(doF (E,A,S,R,K,N) (k,a,b,c,d,s,q,(n,m),l)).1.2.2.2.1,(doF (E,A,S,R,K,N) (k,a,b,c,d,s,q,(n,m),l)).1.2.2.2.2.1,(doF (E,A,S,R,K,N) (k,a,b,c,d,s,q,(n,m),l)).1.2.2.2.2.2,(doF (E,A,S,R,K,N) (k,a,b,c,d,s,q,(n,m),l)).2,()))/\(Bks.usedF N (0:Int)=false->True/\(E,A,S,(Rts.setF R (a,b,c,d,n,m)).1,K,N,(0:Int),())=((doF (E,A,S,R,K,N) (k,a,b,c,d,s,q,(n,m),l)).1.1,(doF (E,A,S,R,K,N) (k,a,b,c,d,s,q,(n,m),l)).1.2.1,(doF (E,A,S,R,K,N) (k,a,b,c,d,s,q,(n,m),l)).1.2.2.1,(doF (E,A,S,R,K,N) (k,a,b,c,d,s,q,(n,m),l)).1.2.2.2.1,(doF (E,A,S,R,K,N) (k,a,b,c,d,s,q,(n,m),l)).1.2.2.2.2.1,(doF (E,A,S,R,K,N) (k,a,b,c,d,s,q,(n,m),l)).1.2.2.2.2.2,(doF (E,A,S,R,K,N) (k,a,b,c,d,s,q,(n,m),l)).2,())))/\((!decide ((0:Int)=(0:Int)))= !true->True/\(E,A,S,(Rts.setF R (a,b,c,d,n,m)).1,K,N,(0:Int),())=((doF (E,A,S,R,K,N) (k,a,b,c,d,s,q,(n,m),l)).1.1,(doF (E,A,S,R,K,N) (k,a,b,c,d,s,q,(n,m),l)).1.2.1,(doF (E,A,S,R,K,N) (k,a,b,c,d,s,q,(n,m),l)).1.2.2.1,(doF (E,A,S,R,K,N) (k,a,b,c,d,s,q,(n,m),l)).1.2.2.2.1,(doF (E,A,S,R,K,N) (k,a,b,c,d,s,q,(n,m),l)).1.2.2.2.2.1,(doF (E,A,S,R,K,N) (k,a,b,c,d,s,q,(n,m),l)).1.2.2.2.2.2,(doF (E,A,S,R,K,N) (k,a,b,c,d,s,q,(n,m),l)).2,()))))/\(decide (k=(5:Int))=false->K.length<=(1000000:Nat)/\((!decide ((Lck.addF K a b (↑E.length:Int)).2=(0:Int)))=true->True/\([],[],[],[],[],[],(Lck.addF K a b (↑E.length:Int)).2,())=((doF (E,A,S,R,K,N) (k,a,b,c,d,s,q,(n,m),l)).1.1,(doF (E,A,S,R,K,N) (k,a,b,c,d,s,q,(n,m),l)).1.2.1,(doF (E,A,S,R,K,N) (k,a,b,c,d,s,q,(n,m),l)).1.2.2.1,(doF (E,A,S,R,K,N) (k,a,b,c,d,s,q,(n,m),l)).1.2.2.2.1,(doF (E,A,S,R,K,N) (k,a,b,c,d,s,q,(n,m),l)).1.2.2.2.2.1,(doF (E,A,S,R,K,N) (k,a,b,c,d,s,q,(n,m),l)).1.2.2.2.2.2,(doF (E,A,S,R,K,N) (k,a,b,c,d,s,q,(n,m),l)).2,()))/\((!decide ((Lck.addF K a b (↑E.length:Int)).2=(0:Int)))=false->((!decide ((0:Int)=(0:Int)))=true->Sm E A S R (Lck.addF K a b (↑E.length:Int)).1 N/\(Bks.usedF N (0:Int)=true->True/\([],[],[],[],[],[],(29:Int),())=((doF (E,A,S,R,K,N) (k,a,b,c,d,s,q,(n,m),l)).1.1,(doF (E,A,S,R,K,N) (k,a,b,c,d,s,q,(n,m),l)).1.2.1,(doF (E,A,S,R,K,N) (k,a,b,c,d,s,q,(n,m),l)).1.2.2.1,(doF (E,A,S,R,K,N) (k,a,b,c,d,s,q,(n,m),l)).1.2.2.2.1,(doF (E,A,S,R,K,N) (k,a,b,c,d,s,q,(n,m),l)).1.2.2.2.2.1,(doF (E,A,S,R,K,N) (k,a,b,c,d,s,q,(n,m),l)).1.2.2.2.2.2,(doF (E,A,S,R,K,N) (k,a,b,c,d,s,q,(n,m),l)).2,()))/\(Bks.usedF N (0:Int)=false->True/\(E,A,S,R,(Lck.addF K a b (↑E.length:Int)).1,N,(0:Int),())=((doF (E,A,S,R,K,N) (k,a,b,c,d,s,q,(n,m),l)).1.1,(doF (E,A,S,R,K,N) (k,a,b,c,d,s,q,(n,m),l)).1.2.1,(doF (E,A,S,R,K,N) (k,a,b,c,d,s,q,(n,m),l)).1.2.2.1,(doF (E,A,S,R,K,N) (k,a,b,c,d,s,q,(n,m),l)).1.2.2.2.1,(doF (E,A,S,R,K,N) (k,a,b,c,d,s,q,(n,m),l)).1.2.2.2.2.1,(doF (E,A,S,R,K,N) (k,a,b,c,d,s,q,(n,m),l)).1.2.2.2.2.2,(doF (E,A,S,R,K,N) (k,a,b,c,d,s,q,(n,m),l)).2,())))/\((!decide ((0:Int)=(0:Int)))= !true->True/\(E,A,S,R,(Lck.addF K a b (↑E.length:Int)).1,N,(0:Int),())=((doF (E,A,S,R,K,N) (k,a,b,c,d,s,q,(n,m),l)).1.1,(doF (E,A,S,R,K,N) (k,a,b,c,d,s,q,(n,m),l)).1.2.1,(doF (E,A,S,R,K,N) (k,a,b,c,d,s,q,(n,m),l)).1.2.2.1,(doF (E,A,S,R,K,N) (k,a,b,c,d,s,q,(n,m),l)).1.2.2.2.1,(doF (E,A,S,R,K,N) (k,a,b,c,d,s,q,(n,m),l)).1.2.2.2.2.1,(doF (E,A,S,R,K,N) (k,a,b,c,d,s,q,(n,m),l)).1.2.2.2.2.2,(doF (E,A,S,R,K,N) (k,a,b,c,d,s,q,(n,m),l)).2,()))))))))
theorem g_master_eq (E:List Int) (A:List Acc.AcD) (S:List Ln) (R:List Rts.Rt) (K:List Lck.Lk) (N:List En) (k a b c d:Int) (s q:Bool) (n m:Int) (l:List Ln):CondG (env_master E A S R K N k a b c d s q n m l) Tryz.f37 [.agg [.list .part I E, .list .part AcT A, .list .part LnT S, .list .part RTy R, .list .part Vl K, .list .part EnT N], .agg [.int .i64 k, .int .i64 a, .int .i64 b, .int .i64 c, .int .i64 d, .bool s, .bool q, .int .i64 n, .int .i64 m, .list .part LnT l]] [some 6,none] ann_master ((doF (E,A,S,R,K,N) (k,a,b,c,d,s,q,(n,m),l)).1.1,(doF (E,A,S,R,K,N) (k,a,b,c,d,s,q,(n,m),l)).1.2.1,(doF (E,A,S,R,K,N) (k,a,b,c,d,s,q,(n,m),l)).1.2.2.1,(doF (E,A,S,R,K,N) (k,a,b,c,d,s,q,(n,m),l)).1.2.2.2.1,(doF (E,A,S,R,K,N) (k,a,b,c,d,s,q,(n,m),l)).1.2.2.2.2.1,(doF (E,A,S,R,K,N) (k,a,b,c,d,s,q,(n,m),l)).1.2.2.2.2.2,(doF (E,A,S,R,K,N) (k,a,b,c,d,s,q,(n,m),l)).2,())=g_master_vc E A S R K N k a b c d s q n m l:=by kernel_rfl
theorem acc_add_len {A:List Acc.AcD} {x:Acc.AcD} (h:(Acc.addF A x).2=0):(Acc.addF A x).1.length<=61:=by
 unfold Acc.addF at h⊢;split
 ·simp
 ·split
  ·simp only [List.length_append,List.length_singleton];omega
  ·simp
theorem acc_move_len {A:List Acc.AcD} {a p:Int}:(Acc.moveF A a p).1.length<=A.length:=by
 unfold Acc.moveF;split
 ·simp
 ·split
  ·simp
  ·split
   ·simp
   ·simp
theorem do_bad {B:Bk} {c:Cmd.CmD} {e:Int} {B':Bk} (k:doF B c=fin e B') (h: ¬e=0):doF B c=(bk0,e):=k.trans (fin_bad h)
theorem do_ok {B:Bk} {c:Cmd.CmD} {e:Int} {B':Bk} (k:doF B c=fin e B') (h:e=0):doF B c=(B',0):=k.trans (fin_ok h)
theorem gr_bad2 {A L:List Acc.AcD} {N:List En} {a e:Int} (h: ¬e=0): ¬(grF A L N a e).2=0:=by rw [gr_bad h];exact h
theorem gr_used2 {A L:List Acc.AcD} {N:List En} {a e:Int} (h:e=0) (h1: ¬a=0) (h2:Bks.usedF N a=true): ¬(grF A L N a e).2=0:=by
 rw [gr_used h h1 h2];show¬(29:Int)=0;decide
theorem gr_no {N:List En} {a:Int} (h:a=0∨Bks.usedF N a=false): ¬(¬a=0/\Bks.usedF N a=true):=by
 rintro ⟨h1,h2⟩;rcases h with h|h
 ·exact h1 h
 ·rw [h] at h2;cases h2
theorem gr_ok2 {A L:List Acc.AcD} {N:List En} {a e:Int} (h:e=0) (h1:a=0∨Bks.usedF N a=false):(grF A L N a e).2=0:=by rw [gr_ok h (gr_no h1)]
theorem g_master_ok (E : List Int) (A : List Acc.AcD) (S : List Ln) (R : List Rts.Rt) (K : List Lck.Lk) (N : List En) (k a b c d : Int) (s q : Bool) (n m : Int) (l : List Ln) (h : Sm E A S R K N /\ 1 <= k /\ k <= 6) : g_master_vc E A S R K N k a b c d s q n m l := by
  obtain ⟨⟨l1, l2, l3, l4, l5, l6, hi⟩, hk1, hk6⟩ := h
  unfold g_master_vc
  simp only [decide_eq_true_eq, decide_eq_false_iff_not, Bool.not_eq_true', Bool.not_eq_false', Bool.not_true, Bool.not_false]
  repeat' (first | with_reducible apply And.intro | intro _)
  all_goals try (first | trivial | rfl | omega | assumption)
  all_goals try (exact ⟨l1, Nat.le_trans (acc_add_len (A := A) (x := (a, b, s, q)) (by assumption)) (by decide), l3, l4, l5, l6, hi⟩)
  all_goals try (exact ⟨l1, Nat.le_trans acc_move_len l2, l3, l4, l5, l6, hi⟩)
  all_goals first
    | (have hk := ‹k = 1›; subst hk)
    | (have hk := ‹k = 2›; subst hk)
    | (have hk := ‹k = 3›; subst hk)
    | (have hk := ‹k = 4›; subst hk)
    | (have hk := ‹k = 5›; subst hk)
    | (have hk : k = 6 := by omega
       subst hk)
  all_goals first
    | (rw [do_bad rfl (by assumption)]; rfl)
    | (rw [do_ok rfl (by assumption)])
    | (rw [do_bad rfl (gr_bad2 (by assumption)), gr_bad (by assumption)]; rfl)
    | (rw [do_bad rfl (gr_used2 (by assumption) (by assumption) (by assumption)), gr_used (by assumption) (by assumption) (by assumption)]; rfl)
    | (rw [do_ok rfl (gr_ok2 (by assumption) (.inl (by assumption))), gr_ok (by assumption) (gr_no (.inl (by assumption)))])
    | (rw [do_ok rfl (gr_ok2 (by assumption) (.inr (by assumption))), gr_ok (by assumption) (gr_no (.inr (by assumption)))])
theorem master_pure (E:List Int) (A:List Acc.AcD) (S:List Ln) (R:List Rts.Rt) (K:List Lck.Lk) (N:List En) (k a b c d:Int) (s q:Bool) (n m:Int) (l:List Ln) (h:Sm E A S R K N/\1<=k/\k<=6):Pure Tryz.prog 37 [.agg [.list .part I E, .list .part AcT A, .list .part LnT S, .list .part RTy R, .list .part Vl K, .list .part EnT N], .agg [.int .i64 k, .int .i64 a, .int .i64 b, .int .i64 c, .int .i64 d, .bool s, .bool q, .int .i64 n, .int .i64 m, .list .part LnT l]] (.tuple [.agg [.list .part I ((doF (E,A,S,R,K,N) (k,a,b,c,d,s,q,(n,m),l)).1.1), .list .part AcT ((doF (E,A,S,R,K,N) (k,a,b,c,d,s,q,(n,m),l)).1.2.1), .list .part LnT ((doF (E,A,S,R,K,N) (k,a,b,c,d,s,q,(n,m),l)).1.2.2.1), .list .part RTy ((doF (E,A,S,R,K,N) (k,a,b,c,d,s,q,(n,m),l)).1.2.2.2.1), .list .part Vl ((doF (E,A,S,R,K,N) (k,a,b,c,d,s,q,(n,m),l)).1.2.2.2.2.1), .list .part EnT ((doF (E,A,S,R,K,N) (k,a,b,c,d,s,q,(n,m),l)).1.2.2.2.2.2)], .int .i64 (doF (E,A,S,R,K,N) (k,a,b,c,d,s,q,(n,m),l)).2]):=
 by have k:=Pure.of_condG (r:=(.tuple [.agg [.list .part I ((doF (E,A,S,R,K,N) (k,a,b,c,d,s,q,(n,m),l)).1.1), .list .part AcT ((doF (E,A,S,R,K,N) (k,a,b,c,d,s,q,(n,m),l)).1.2.1), .list .part LnT ((doF (E,A,S,R,K,N) (k,a,b,c,d,s,q,(n,m),l)).1.2.2.1), .list .part RTy ((doF (E,A,S,R,K,N) (k,a,b,c,d,s,q,(n,m),l)).1.2.2.2.1), .list .part Vl ((doF (E,A,S,R,K,N) (k,a,b,c,d,s,q,(n,m),l)).1.2.2.2.2.1), .list .part EnT ((doF (E,A,S,R,K,N) (k,a,b,c,d,s,q,(n,m),l)).1.2.2.2.2.2)], .int .i64 (doF (E,A,S,R,K,N) (k,a,b,c,d,s,q,(n,m),l)).2])) (g_master_eq E A S R K N k a b c d s q n m l) (g_master_ok E A S R K N k a b c d s q n m l h) rfl (specs_ok rfl [Cur.sp_radd,Acc.sp_radd,Acc.sp_rmove,Stk.sp_refAdd,Rts.sp_rset,Lck.sp_radd,Bks.sp_rused] [] rfl rfl) mixed Tryz.func37;exact k
noncomputable def q_master (E:List Int) (A:List Acc.AcD) (S:List Ln) (R:List Rts.Rt) (K:List Lck.Lk) (N:List En) (k a b c d:Int) (s q:Bool) (n m:Int) (l:List Ln):Prop×V:=(Sm E A S R K N/\1<=k/\k<=6,(.tuple [.agg [.list .part I ((doF (E,A,S,R,K,N) (k,a,b,c,d,s,q,(n,m),l)).1.1), .list .part AcT ((doF (E,A,S,R,K,N) (k,a,b,c,d,s,q,(n,m),l)).1.2.1), .list .part LnT ((doF (E,A,S,R,K,N) (k,a,b,c,d,s,q,(n,m),l)).1.2.2.1), .list .part RTy ((doF (E,A,S,R,K,N) (k,a,b,c,d,s,q,(n,m),l)).1.2.2.2.1), .list .part Vl ((doF (E,A,S,R,K,N) (k,a,b,c,d,s,q,(n,m),l)).1.2.2.2.2.1), .list .part EnT ((doF (E,A,S,R,K,N) (k,a,b,c,d,s,q,(n,m),l)).1.2.2.2.2.2)], .int .i64 (doF (E,A,S,R,K,N) (k,a,b,c,d,s,q,(n,m),l)).2]))
noncomputable def sp_master:FSpec Tryz.prog where
 f:=37
 run:=fun
  |[.agg [v0_0,v0_1,v0_2,v0_3,v0_4,v0_5], .agg [.int .i64 k, .int .i64 a, .int .i64 b, .int .i64 c, .int .i64 d,v1_5,v1_6, .int .i64 n, .int .i64 m,v1_9]]=>(asP I v0_0:Option (List Int)).bind fun E=>(asP AcT v0_1:Option (List Acc.AcD)).bind fun A=>(asP LnT v0_2:Option (List Ln)).bind fun S=>(asP RTy v0_3:Option (List Rts.Rt)).bind fun R=>(asP Vl v0_4:Option (List Lck.Lk)).bind fun K=>(asP EnT v0_5:Option (List En)).bind fun N=>(boolOf v1_5).bind fun s=>(boolOf v1_6).bind fun q=>(asP LnT v1_9:Option (List Ln)).bind fun l=>some (q_master E A S R K N k a b c d s q n m l)
  |_=>none
 ok:=fun args pre r h hp=>by
  split at h
  ·rename_i v0_0 v0_1 v0_2 v0_3 v0_4 v0_5 k a b c d v1_5 v1_6 n m v1_9;obtain ⟨E,h0_0,h⟩:=Option.bind_eq_some_iff.1 h;obtain ⟨A,h0_1,h⟩:=Option.bind_eq_some_iff.1 h;obtain ⟨S,h0_2,h⟩:=Option.bind_eq_some_iff.1 h;obtain ⟨R,h0_3,h⟩:=Option.bind_eq_some_iff.1 h;obtain ⟨K,h0_4,h⟩:=Option.bind_eq_some_iff.1 h;obtain ⟨N,h0_5,h⟩:=Option.bind_eq_some_iff.1 h;obtain ⟨s,h1_5,h⟩:=Option.bind_eq_some_iff.1 h;obtain ⟨q,h1_6,h⟩:=Option.bind_eq_some_iff.1 h;obtain ⟨l,h1_9,h⟩:=Option.bind_eq_some_iff.1 h;exact of_q h hp fun h=>(master_pure E A S R K N k a b c d s q n m l h).weak (.cons (Weak.agg (.cons (asP_weak h0_0) (.cons (asP_weak h0_1) (.cons (asP_weak h0_2) (.cons (asP_weak h0_3) (.cons (asP_weak h0_4) (.cons (asP_weak h0_5) .nil))))))) (.cons (Weak.agg (.cons (.refl _) (.cons (.refl _) (.cons (.refl _) (.cons (.refl _) (.cons (.refl _) (.cons (boolOf_weak h1_5) (.cons (boolOf_weak h1_6) (.cons (.refl _) (.cons (.refl _) (.cons (asP_weak h1_9) .nil))))))))))) .nil))
  ·cases h
theorem placed_leaf (A:List Acc.AcD) (L:List Ln):L.any (Bks.innP (Acc.thoseF (Acc.leafF A) A.length))=L.any (nleaf A):=by
 congr 1;funext x;exact Bks.inn_leaf A x
theorem entry_bad {E:List Int} {A:List Acc.AcD} {N:List En} {a:Int} {l:List Ln} {K:List Lck.Lk} (h: ¬Bks.entryF E.length A.length (Acc.thoseF (Acc.leafF A) A.length) N (a,0,l)=0):
 postF E A K N a l=(N,Bks.entryF E.length A.length (Acc.thoseF (Acc.leafF A) A.length) N (a,0,l)):=by
 by_cases c:(Ent.checkF a l E.length A.length).2=0
 ·have e:Bks.entryF E.length A.length (Acc.thoseF (Acc.leafF A) A.length) N (a,0,l)=(if Bks.placedF (Acc.thoseF (Acc.leafF A) A.length) l=0 then Bks.turnedF N 0 l else Bks.placedF (Acc.thoseF (Acc.leafF A) A.length) l):=if_pos c;have ht:Bks.turnedF N 0 l=0:=if_pos rfl;rw [e,ht] at h⊢;unfold Bks.placedF at h⊢;rw [placed_leaf] at h⊢;cases h1:l.any ownP with
  |true=>rw [po_own c h1];simp
  |false=>
   cases h2:l.any (nleaf A) with
   |true=>rw [po_leaf c h1 h2];simp
   |false=>rw [h1,h2] at h;simp at h
 ·have e:Bks.entryF E.length A.length (Acc.thoseF (Acc.leafF A) A.length) N (a,0,l)=(Ent.checkF a l E.length A.length).2:=if_neg c;rw [e,po_bad c]
theorem entry_ok {E:List Int} {A:List Acc.AcD} {N:List En} {a:Int} {l:List Ln} {K:List Lck.Lk} (h:Bks.entryF E.length A.length (Acc.thoseF (Acc.leafF A) A.length) N (a,0,l)=0):
 postF E A K N a l=putF K N (a,0,l):=by
 by_cases c:(Ent.checkF a l E.length A.length).2=0
 ·have e:Bks.entryF E.length A.length (Acc.thoseF (Acc.leafF A) A.length) N (a,0,l)=(if Bks.placedF (Acc.thoseF (Acc.leafF A) A.length) l=0 then Bks.turnedF N 0 l else Bks.placedF (Acc.thoseF (Acc.leafF A) A.length) l):=if_pos c;have ht:Bks.turnedF N 0 l=0:=if_pos rfl;rw [e,ht] at h;unfold Bks.placedF at h;rw [placed_leaf] at h;cases h1:l.any ownP with
  |true=>rw [h1] at h;simp at h
  |false=>
   cases h2:l.any (nleaf A) with
   |true=>rw [h1,h2] at h;simp at h
   |false=>rw [po_put c h1 h2]
 ·have e:Bks.entryF E.length A.length (Acc.thoseF (Acc.leafF A) A.length) N (a,0,l)=(Ent.checkF a l E.length A.length).2:=if_neg c;rw [e] at h;exact absurd h c
theorem ap_eq {B:Bk} {c:Cmd.CmD} (h:Cmd.checkF c=0):apF B c=doF B c:=if_pos h
theorem may_zero {N:List En} {n:Int} {y:En} (h:mayF N n=0) (hy:N[(n-1).toNat]? =some y):(Ent.oppF y.1 y.2.1 y.2.2).2=0:=by
 have hin:=may_in h;have h1: ¬(n<1∨(N.length:Int)<n):=by omega
 by_cases k:y.2.1≠0∨Bks.revF N n≠0
 ·rw [may_twice h1 hy k] at h;cases h
 ·rw [may_opp h1 hy k] at h;exact h
noncomputable def env_rapply (E:List Int) (A:List Acc.AcD) (S:List Ln) (R:List Rts.Rt) (K:List Lck.Lk) (N:List En) (k a b c d:Int) (s q:Bool) (n m:Int) (l:List Ln):Env where
 P:=Tryz.prog
 ty:=tys0
 specs:=specsOf [Cmd.sp_rcheck,sp_master,Bks.sp_entry,sp_rput,sp_rmay,Ent.sp_refOpp]
abbrev ann_rapply:Ann:={slots:=numP 0 [.list .part I, .list .part AcT, .list .part LnT, .list .part RTy, .list .part Vl, .list .part EnT, .int .i64],boxes:=[],inv:=fun _ _=>True}
def g_rapply_vc (E:List Int) (A:List Acc.AcD) (S:List Ln) (R:List Rts.Rt) (K:List Lck.Lk) (N:List En) (k:Int) (a:Int) (b:Int) (c:Int) (d:Int) (s:Bool) (q:Bool) (n:Int) (m:Int) (l:List Ln):Prop:=
 True/\((!decide (Cmd.checkF (k,a,b,c,d,s,q,(n,m),l)=(0:Int)))=true->True/\([],[],[],[],[],[],Cmd.checkF (k,a,b,c,d,s,q,(n,m),l),())=((apF (E,A,S,R,K,N) (k,a,b,c,d,s,q,(n,m),l)).1.1,(apF (E,A,S,R,K,N) (k,a,b,c,d,s,q,(n,m),l)).1.2.1,(apF (E,A,S,R,K,N) (k,a,b,c,d,s,q,(n,m),l)).1.2.2.1,(apF (E,A,S,R,K,N) (k,a,b,c,d,s,q,(n,m),l)).1.2.2.2.1,(apF (E,A,S,R,K,N) (k,a,b,c,d,s,q,(n,m),l)).1.2.2.2.2.1,(apF (E,A,S,R,K,N) (k,a,b,c,d,s,q,(n,m),l)).1.2.2.2.2.2,(apF (E,A,S,R,K,N) (k,a,b,c,d,s,q,(n,m),l)).2,()))/\((!decide (Cmd.checkF (k,a,b,c,d,s,q,(n,m),l)=(0:Int)))=false->(decide (k<=(6:Int))=true->(Sm E A S R K N/\(1:Int)<=k/\k<=(6:Int))/\True/\((doF (E,A,S,R,K,N) (k,a,b,c,d,s,q,(n,m),l)).1.1,(doF (E,A,S,R,K,N) (k,a,b,c,d,s,q,(n,m),l)).1.2.1,(doF (E,A,S,R,K,N) (k,a,b,c,d,s,q,(n,m),l)).1.2.2.1,(doF (E,A,S,R,K,N) (k,a,b,c,d,s,q,(n,m),l)).1.2.2.2.1,(doF (E,A,S,R,K,N) (k,a,b,c,d,s,q,(n,m),l)).1.2.2.2.2.1,(doF (E,A,S,R,K,N) (k,a,b,c,d,s,q,(n,m),l)).1.2.2.2.2.2,(doF (E,A,S,R,K,N) (k,a,b,c,d,s,q,(n,m),l)).2,())=((apF (E,A,S,R,K,N) (k,a,b,c,d,s,q,(n,m),l)).1.1,(apF (E,A,S,R,K,N) (k,a,b,c,d,s,q,(n,m),l)).1.2.1,(apF (E,A,S,R,K,N) (k,a,b,c,d,s,q,(n,m),l)).1.2.2.1,(apF (E,A,S,R,K,N) (k,a,b,c,d,s,q,(n,m),l)).1.2.2.2.1,(apF (E,A,S,R,K,N) (k,a,b,c,d,s,q,(n,m),l)).1.2.2.2.2.1,(apF (E,A,S,R,K,N) (k,a,b,c,d,s,q,(n,m),l)).1.2.2.2.2.2,(apF (E,A,S,R,K,N) (k,a,b,c,d,s,q,(n,m),l)).2,()))/\(decide (k<=(6:Int))=false->(decide (k=(7:Int))=true->(Sm E A S R K N/\N.length<=(1000000:Nat)/\InE N/\Ent.InL l/\l.length<=(1000:Nat))/\((!decide (Bks.entryF (↑E.length:Int) (↑A.length:Int) (Acc.thoseF (Acc.leafF A) A.length) N (a,(0:Int),l)=(0:Int)))=true->True/\([],[],[],[],[],[],Bks.entryF (↑E.length:Int) (↑A.length:Int) (Acc.thoseF (Acc.leafF A) A.length) N (a,(0:Int),l),())=((apF (E,A,S,R,K,N) (k,a,b,c,d,s,q,(n,m),l)).1.1,(apF (E,A,S,R,K,N) (k,a,b,c,d,s,q,(n,m),l)).1.2.1,(apF (E,A,S,R,K,N) (k,a,b,c,d,s,q,(n,m),l)).1.2.2.1,(apF (E,A,S,R,K,N) (k,a,b,c,d,s,q,(n,m),l)).1.2.2.2.1,(apF (E,A,S,R,K,N) (k,a,b,c,d,s,q,(n,m),l)).1.2.2.2.2.1,(apF (E,A,S,R,K,N) (k,a,b,c,d,s,q,(n,m),l)).1.2.2.2.2.2,(apF (E,A,S,R,K,N) (k,a,b,c,d,s,q,(n,m),l)).2,()))/\((!decide (Bks.entryF (↑E.length:Int) (↑A.length:Int) (Acc.thoseF (Acc.leafF A) A.length) N (a,(0:Int),l)=(0:Int)))=false->(l.length<=(1000000:Nat)/\K.length<=(1000000:Nat)/\N.length<=(1000000:Nat))/\True/\((rputF (E,A,S,R,K,N) (a,(0:Int),l)).1.1,(rputF (E,A,S,R,K,N) (a,(0:Int),l)).1.2.1,(rputF (E,A,S,R,K,N) (a,(0:Int),l)).1.2.2.1,(rputF (E,A,S,R,K,N) (a,(0:Int),l)).1.2.2.2.1,(rputF (E,A,S,R,K,N) (a,(0:Int),l)).1.2.2.2.2.1,(rputF (E,A,S,R,K,N) (a,(0:Int),l)).1.2.2.2.2.2,(rputF (E,A,S,R,K,N) (a,(0:Int),l)).2,())=((apF (E,A,S,R,K,N) (k,a,b,c,d,s,q,(n,m),l)).1.1,(apF (E,A,S,R,K,N) (k,a,b,c,d,s,q,(n,m),l)).1.2.1,(apF (E,A,S,R,K,N) (k,a,b,c,d,s,q,(n,m),l)).1.2.2.1,(apF (E,A,S,R,K,N) (k,a,b,c,d,s,q,(n,m),l)).1.2.2.2.1,(apF (E,A,S,R,K,N) (k,a,b,c,d,s,q,(n,m),l)).1.2.2.2.2.1,(apF (E,A,S,R,K,N) (k,a,b,c,d,s,q,(n,m),l)).1.2.2.2.2.2,(apF (E,A,S,R,K,N) (k,a,b,c,d,s,q,(n,m),l)).2,())))/\(decide (k=(7:Int))=false->(decide (b<(0:Int))=false->(decide ((23:Int)<b)=true->True/\([],[],[],[],[],[],(22:Int),())=((apF (E,A,S,R,K,N) (k,a,b,c,d,s,q,(n,m),l)).1.1,(apF (E,A,S,R,K,N) (k,a,b,c,d,s,q,(n,m),l)).1.2.1,(apF (E,A,S,R,K,N) (k,a,b,c,d,s,q,(n,m),l)).1.2.2.1,(apF (E,A,S,R,K,N) (k,a,b,c,d,s,q,(n,m),l)).1.2.2.2.1,(apF (E,A,S,R,K,N) (k,a,b,c,d,s,q,(n,m),l)).1.2.2.2.2.1,(apF (E,A,S,R,K,N) (k,a,b,c,d,s,q,(n,m),l)).1.2.2.2.2.2,(apF (E,A,S,R,K,N) (k,a,b,c,d,s,q,(n,m),l)).2,()))/\(decide ((23:Int)<b)=false->(N.length<=(1000000:Nat)/\InE N)/\((!decide (mayF N a=(0:Int)))=true->True/\([],[],[],[],[],[],mayF N a,())=((apF (E,A,S,R,K,N) (k,a,b,c,d,s,q,(n,m),l)).1.1,(apF (E,A,S,R,K,N) (k,a,b,c,d,s,q,(n,m),l)).1.2.1,(apF (E,A,S,R,K,N) (k,a,b,c,d,s,q,(n,m),l)).1.2.2.1,(apF (E,A,S,R,K,N) (k,a,b,c,d,s,q,(n,m),l)).1.2.2.2.1,(apF (E,A,S,R,K,N) (k,a,b,c,d,s,q,(n,m),l)).1.2.2.2.2.1,(apF (E,A,S,R,K,N) (k,a,b,c,d,s,q,(n,m),l)).1.2.2.2.2.2,(apF (E,A,S,R,K,N) (k,a,b,c,d,s,q,(n,m),l)).2,()))/\((!decide (mayF N a=(0:Int)))=false->(-9223372036854775808<=a-(1:Int)/\a-(1:Int)<=9223372036854775807)/\(0<=a-(1:Int)/\a-(1:Int)<(↑N.length:Int))/\∀(x:Int×Int×List (Int×Int×Int×Int)),N[(a-(1:Int)).toNat]? =some x->(Ent.InL x.2.2/\x.2.2.length<=(1000:Nat))/\((Ent.oppF x.1 x.2.1 x.2.2).1.2.2.length<=(1000000:Nat)/\K.length<=(1000000:Nat)/\N.length<=(1000000:Nat))/\True/\((rputF (E,A,S,R,K,N) (b,a,(Ent.oppF x.1 x.2.1 x.2.2).1.2.2)).1.1,(rputF (E,A,S,R,K,N) (b,a,(Ent.oppF x.1 x.2.1 x.2.2).1.2.2)).1.2.1,(rputF (E,A,S,R,K,N) (b,a,(Ent.oppF x.1 x.2.1 x.2.2).1.2.2)).1.2.2.1,(rputF (E,A,S,R,K,N) (b,a,(Ent.oppF x.1 x.2.1 x.2.2).1.2.2)).1.2.2.2.1,(rputF (E,A,S,R,K,N) (b,a,(Ent.oppF x.1 x.2.1 x.2.2).1.2.2)).1.2.2.2.2.1,(rputF (E,A,S,R,K,N) (b,a,(Ent.oppF x.1 x.2.1 x.2.2).1.2.2)).1.2.2.2.2.2,(rputF (E,A,S,R,K,N) (b,a,(Ent.oppF x.1 x.2.1 x.2.2).1.2.2)).2,())=((apF (E,A,S,R,K,N) (k,a,b,c,d,s,q,(n,m),l)).1.1,(apF (E,A,S,R,K,N) (k,a,b,c,d,s,q,(n,m),l)).1.2.1,(apF (E,A,S,R,K,N) (k,a,b,c,d,s,q,(n,m),l)).1.2.2.1,(apF (E,A,S,R,K,N) (k,a,b,c,d,s,q,(n,m),l)).1.2.2.2.1,(apF (E,A,S,R,K,N) (k,a,b,c,d,s,q,(n,m),l)).1.2.2.2.2.1,(apF (E,A,S,R,K,N) (k,a,b,c,d,s,q,(n,m),l)).1.2.2.2.2.2,(apF (E,A,S,R,K,N) (k,a,b,c,d,s,q,(n,m),l)).2,()))))/\(decide (b<(0:Int))= !false->True/\([],[],[],[],[],[],(22:Int),())=((apF (E,A,S,R,K,N) (k,a,b,c,d,s,q,(n,m),l)).1.1,(apF (E,A,S,R,K,N) (k,a,b,c,d,s,q,(n,m),l)).1.2.1,(apF (E,A,S,R,K,N) (k,a,b,c,d,s,q,(n,m),l)).1.2.2.1,(apF (E,A,S,R,K,N) (k,a,b,c,d,s,q,(n,m),l)).1.2.2.2.1,(apF (E,A,S,R,K,N) (k,a,b,c,d,s,q,(n,m),l)).1.2.2.2.2.1,(apF (E,A,S,R,K,N) (k,a,b,c,d,s,q,(n,m),l)).1.2.2.2.2.2,(apF (E,A,S,R,K,N) (k,a,b,c,d,s,q,(n,m),l)).2,())))))
theorem g_rapply_eq (E:List Int) (A:List Acc.AcD) (S:List Ln) (R:List Rts.Rt) (K:List Lck.Lk) (N:List En) (k a b c d:Int) (s q:Bool) (n m:Int) (l:List Ln):CondG (env_rapply E A S R K N k a b c d s q n m l) Tryz.f11 [.agg [.list .part I E, .list .part AcT A, .list .part LnT S, .list .part RTy R, .list .part Vl K, .list .part EnT N], .agg [.int .i64 k, .int .i64 a, .int .i64 b, .int .i64 c, .int .i64 d, .bool s, .bool q, .int .i64 n, .int .i64 m, .list .part LnT l]] [some 6,none] ann_rapply ((apF (E,A,S,R,K,N) (k,a,b,c,d,s,q,(n,m),l)).1.1,(apF (E,A,S,R,K,N) (k,a,b,c,d,s,q,(n,m),l)).1.2.1,(apF (E,A,S,R,K,N) (k,a,b,c,d,s,q,(n,m),l)).1.2.2.1,(apF (E,A,S,R,K,N) (k,a,b,c,d,s,q,(n,m),l)).1.2.2.2.1,(apF (E,A,S,R,K,N) (k,a,b,c,d,s,q,(n,m),l)).1.2.2.2.2.1,(apF (E,A,S,R,K,N) (k,a,b,c,d,s,q,(n,m),l)).1.2.2.2.2.2,(apF (E,A,S,R,K,N) (k,a,b,c,d,s,q,(n,m),l)).2,())=g_rapply_vc E A S R K N k a b c d s q n m l:=by kernel_rfl
theorem g_rapply_ok (E : List Int) (A : List Acc.AcD) (S : List Ln) (R : List Rts.Rt) (K : List Lck.Lk) (N : List En) (k a b c d : Int) (s q : Bool) (n m : Int) (l : List Ln) (h : Sm E A S R K N /\ Ent.InL l) : g_rapply_vc E A S R K N k a b c d s q n m l := by
  have hS := h.1
  have hL := h.2
  obtain ⟨l1, l2, l3, l4, l5, l6, hi⟩ := h.1
  unfold g_rapply_vc
  simp only [decide_eq_true_eq, decide_eq_false_iff_not, Bool.not_eq_true', Bool.not_eq_false', Bool.not_true, Bool.not_false]
  repeat' (first
    | with_reducible apply And.intro
    | (intro (hc : Cmd.checkF (k, a, b, c, d, s, q, (n, m), l) = 0); have hll := chk_lines hc; have hkk := chk_kind hc; simp only [Cmd.linesF] at hll hkk)
    | (intro (hm : mayF N a = 0); have hmi := may_in hm)
    | (intro (x1 : Int × Int × List (Int × Int × Int × Int)) (hx1 : N[(a - 1).toNat]? = some x1); have e := Option.some.inj (hx.symm.trans hx1); subst e)
    | (intro (x : Int × Int × List (Int × Int × Int × Int)) (hx : N[(a - 1).toNat]? = some x); have hix := ine_at hi hx)
    | intro _)
  all_goals try (first | trivial | rfl | assumption | omega | exact hix.1 _ (by assumption) | exact hL _ (by assumption))
  all_goals try (first
    | (rename_i y hy z hz; exact (hi y hy).1 z hz)
    | (rename_i y hy; exact (hi y hy).2)
    | (exact Nat.le_trans (opp_len x) (Nat.le_trans hix.2 (by decide)))
    | (rw [ap_bad (by assumption)]; rfl)
    | (have hk6 := ‹k <= 6›; rw [ap_eq hc]))
  all_goals first
    | (have hk := ‹k = 7›; subst hk)
    | (have hk : k = 8 := by omega
       subst hk)
  all_goals first
    | (have he := ‹¬ Bks.entryF _ _ _ _ _ = 0›; rw [ap_do hc rfl, entry_bad he, fin_bad he]; rfl)
    | (have he := ‹Bks.entryF _ _ _ _ _ = 0›; rw [ap_do hc rfl, entry_ok he]; rfl)
    | (rw [ap_do hc rfl, rv_per (.inl (by assumption)), fin_bad (show ¬ (22 : Int) = 0 by decide)]; rfl)
    | (have he := ‹23 < b›; rw [ap_do hc rfl, rv_per (.inr he), fin_bad (show ¬ (22 : Int) = 0 by decide)]; rfl)
    | (have he := ‹¬ mayF N a = 0›; rw [ap_do hc rfl, rv_may (by omega) he, fin_bad he]; rfl)
    | (rw [ap_do hc rfl, rv_ok (by omega) hm hx (may_zero hm hx)]; rfl)
theorem rapply_pure (E:List Int) (A:List Acc.AcD) (S:List Ln) (R:List Rts.Rt) (K:List Lck.Lk) (N:List En) (k a b c d:Int) (s q:Bool) (n m:Int) (l:List Ln) (h:Sm E A S R K N/\Ent.InL l):Pure Tryz.prog 11 [.agg [.list .part I E, .list .part AcT A, .list .part LnT S, .list .part RTy R, .list .part Vl K, .list .part EnT N], .agg [.int .i64 k, .int .i64 a, .int .i64 b, .int .i64 c, .int .i64 d, .bool s, .bool q, .int .i64 n, .int .i64 m, .list .part LnT l]] (.tuple [.agg [.list .part I ((apF (E,A,S,R,K,N) (k,a,b,c,d,s,q,(n,m),l)).1.1), .list .part AcT ((apF (E,A,S,R,K,N) (k,a,b,c,d,s,q,(n,m),l)).1.2.1), .list .part LnT ((apF (E,A,S,R,K,N) (k,a,b,c,d,s,q,(n,m),l)).1.2.2.1), .list .part RTy ((apF (E,A,S,R,K,N) (k,a,b,c,d,s,q,(n,m),l)).1.2.2.2.1), .list .part Vl ((apF (E,A,S,R,K,N) (k,a,b,c,d,s,q,(n,m),l)).1.2.2.2.2.1), .list .part EnT ((apF (E,A,S,R,K,N) (k,a,b,c,d,s,q,(n,m),l)).1.2.2.2.2.2)], .int .i64 (apF (E,A,S,R,K,N) (k,a,b,c,d,s,q,(n,m),l)).2]):=
 by have k:=Pure.of_condG (r:=(.tuple [.agg [.list .part I ((apF (E,A,S,R,K,N) (k,a,b,c,d,s,q,(n,m),l)).1.1), .list .part AcT ((apF (E,A,S,R,K,N) (k,a,b,c,d,s,q,(n,m),l)).1.2.1), .list .part LnT ((apF (E,A,S,R,K,N) (k,a,b,c,d,s,q,(n,m),l)).1.2.2.1), .list .part RTy ((apF (E,A,S,R,K,N) (k,a,b,c,d,s,q,(n,m),l)).1.2.2.2.1), .list .part Vl ((apF (E,A,S,R,K,N) (k,a,b,c,d,s,q,(n,m),l)).1.2.2.2.2.1), .list .part EnT ((apF (E,A,S,R,K,N) (k,a,b,c,d,s,q,(n,m),l)).1.2.2.2.2.2)], .int .i64 (apF (E,A,S,R,K,N) (k,a,b,c,d,s,q,(n,m),l)).2])) (g_rapply_eq E A S R K N k a b c d s q n m l) (g_rapply_ok E A S R K N k a b c d s q n m l h) rfl (specs_ok rfl [Cmd.sp_rcheck,sp_master,Bks.sp_entry,sp_rput,sp_rmay,Ent.sp_refOpp] [] rfl rfl) mixed Tryz.func11;exact k
noncomputable def q_rapply (E:List Int) (A:List Acc.AcD) (S:List Ln) (R:List Rts.Rt) (K:List Lck.Lk) (N:List En) (k a b c d:Int) (s q:Bool) (n m:Int) (l:List Ln):Prop×V:=(Sm E A S R K N/\Ent.InL l,(.tuple [.agg [.list .part I ((apF (E,A,S,R,K,N) (k,a,b,c,d,s,q,(n,m),l)).1.1), .list .part AcT ((apF (E,A,S,R,K,N) (k,a,b,c,d,s,q,(n,m),l)).1.2.1), .list .part LnT ((apF (E,A,S,R,K,N) (k,a,b,c,d,s,q,(n,m),l)).1.2.2.1), .list .part RTy ((apF (E,A,S,R,K,N) (k,a,b,c,d,s,q,(n,m),l)).1.2.2.2.1), .list .part Vl ((apF (E,A,S,R,K,N) (k,a,b,c,d,s,q,(n,m),l)).1.2.2.2.2.1), .list .part EnT ((apF (E,A,S,R,K,N) (k,a,b,c,d,s,q,(n,m),l)).1.2.2.2.2.2)], .int .i64 (apF (E,A,S,R,K,N) (k,a,b,c,d,s,q,(n,m),l)).2]))
noncomputable def sp_rapply:FSpec Tryz.prog where
 f:=11
 run:=fun
  |[.agg [v0_0,v0_1,v0_2,v0_3,v0_4,v0_5], .agg [.int .i64 k, .int .i64 a, .int .i64 b, .int .i64 c, .int .i64 d,v1_5,v1_6, .int .i64 n, .int .i64 m,v1_9]]=>(asP I v0_0:Option (List Int)).bind fun E=>(asP AcT v0_1:Option (List Acc.AcD)).bind fun A=>(asP LnT v0_2:Option (List Ln)).bind fun S=>(asP RTy v0_3:Option (List Rts.Rt)).bind fun R=>(asP Vl v0_4:Option (List Lck.Lk)).bind fun K=>(asP EnT v0_5:Option (List En)).bind fun N=>(boolOf v1_5).bind fun s=>(boolOf v1_6).bind fun q=>(asP LnT v1_9:Option (List Ln)).bind fun l=>some (q_rapply E A S R K N k a b c d s q n m l)
  |_=>none
 ok:=fun args pre r h hp=>by
  split at h
  ·rename_i v0_0 v0_1 v0_2 v0_3 v0_4 v0_5 k a b c d v1_5 v1_6 n m v1_9;obtain ⟨E,h0_0,h⟩:=Option.bind_eq_some_iff.1 h;obtain ⟨A,h0_1,h⟩:=Option.bind_eq_some_iff.1 h;obtain ⟨S,h0_2,h⟩:=Option.bind_eq_some_iff.1 h;obtain ⟨R,h0_3,h⟩:=Option.bind_eq_some_iff.1 h;obtain ⟨K,h0_4,h⟩:=Option.bind_eq_some_iff.1 h;obtain ⟨N,h0_5,h⟩:=Option.bind_eq_some_iff.1 h;obtain ⟨s,h1_5,h⟩:=Option.bind_eq_some_iff.1 h;obtain ⟨q,h1_6,h⟩:=Option.bind_eq_some_iff.1 h;obtain ⟨l,h1_9,h⟩:=Option.bind_eq_some_iff.1 h;exact of_q h hp fun h=>(rapply_pure E A S R K N k a b c d s q n m l h).weak (.cons (Weak.agg (.cons (asP_weak h0_0) (.cons (asP_weak h0_1) (.cons (asP_weak h0_2) (.cons (asP_weak h0_3) (.cons (asP_weak h0_4) (.cons (asP_weak h0_5) .nil))))))) (.cons (Weak.agg (.cons (.refl _) (.cons (.refl _) (.cons (.refl _) (.cons (.refl _) (.cons (.refl _) (.cons (boolOf_weak h1_5) (.cons (boolOf_weak h1_6) (.cons (.refl _) (.cons (.refl _) (.cons (asP_weak h1_9) .nil))))))))))) .nil))
  ·cases h
end Go.Proofs.YtabicbgeoiilmaaGreat.Dsk
end
section
namespace Go.Proofs.YtabicbgeoiilmaaGreat.Dsk
open Go.Vm
open Bks (En InE Sm ine_at ownP)
def Szn (n:Nat) (B:Bk):Prop:=B.1.length<=n/\B.2.1.length<=n/\B.2.2.1.length<=n/\B.2.2.2.1.length<=n/\B.2.2.2.2.1.length<=n/\B.2.2.2.2.2.length<=n/\InE B.2.2.2.2.2
theorem szn_0 (n:Nat):Szn n bk0:=⟨Nat.zero_le _,Nat.zero_le _,Nat.zero_le _,Nat.zero_le _,Nat.zero_le _,Nat.zero_le _,fun _ h=>by cases h⟩
theorem fin_sz {n:Nat} {e:Int} {B:Bk} (h:Szn n B):Szn n (fin e B).1:=by
 unfold fin;split
 ·exact h
 ·exact szn_0 n
theorem cur_len (l:List Int) (c:Int):(Cur.addF l c).1.length<=l.length+1:=by
 unfold Cur.addF;split
 ·simp
 ·split<;>simp
theorem acc_len (l:List Acc.AcD) (x:Acc.AcD):(Acc.addF l x).1.length<=l.length+1:=by
 unfold Acc.addF;split
 ·simp
 ·split<;>simp
theorem gr_len (A L:List Acc.AcD) (N:List En) (a e:Int) (n:Nat) (h1:A.length<=n) (h2:L.length<=n):(grF A L N a e).1.length<=n:=by
 unfold grF;split
 ·exact h1
 ·split
  ·exact h1
  ·exact h2
theorem stk_len (l:List Ln) (x:Ln) (n:Int):(Stk.addF l x n).1.length<=l.length+1:=by
 unfold Stk.addF;split
 ·simp
 ·split<;>simp
theorem rts_len (l:List Rts.Rt) (x:Rts.Rt):(Rts.setF l x).1.length<=l.length+1:=by
 unfold Rts.setF;split
 ·split
  ·simp
  ·split<;>simp
 ·simp
theorem lck_len (l:List Lck.Lk) (a b n:Int):(Lck.addF l a b n).1.length<=l.length+1:=by
 unfold Lck.addF;split
 ·simp
 ·split<;>simp
theorem put_sz {K:List Lck.Lk} {N:List En} {x:En} (hi:InE N) (hx:Ent.InL x.2.2/\x.2.2.length<=1000):(putF K N x).1.length<=N.length+1/\InE (putF K N x).1:=by
 unfold putF;split
 ·exact ⟨Nat.le_succ _,hi⟩
 ·split
  ·exact ⟨Nat.le_succ _,hi⟩
  ·refine ⟨by simp,fun y hy=> ?_⟩;rcases List.mem_append.1 hy with hy|hy
   ·exact hi y hy
   ·rw [List.mem_singleton.1 hy];exact hx
theorem post_sz {E:List Int} {A:List Acc.AcD} {K:List Lck.Lk} {N:List En} {p:Int} {L:List Ln} (hi:InE N) (hx:Ent.InL L/\L.length<=1000):(postF E A K N p L).1.length<=N.length+1/\InE (postF E A K N p L).1:=by
 unfold postF;split
 ·exact ⟨Nat.le_succ _,hi⟩
 ·split
  ·exact ⟨Nat.le_succ _,hi⟩
  ·split
   ·exact ⟨Nat.le_succ _,hi⟩
   ·exact put_sz hi hx
theorem neg_in {L:List Ln} (h:Ent.InL L) (k:Ent.hasLeast L=false):Ent.InL (L.map Ent.negLn):=by
 intro x hx;obtain ⟨y,hy,rfl⟩:=List.mem_map.1 hx;have h1:=h y hy;have h2:y.2.2.2≠ -9223372036854775808:=by
  intro e;unfold Ent.hasLeast at k;rw [List.any_eq_false] at k;exact k y hy (by simpa using e)
 obtain ⟨a1,a2⟩:=h1;refine ⟨?_, ?_⟩<;>(simp only [Ent.negLn];omega)
theorem opp_in {y:En} (h:Ent.InL y.2.2/\y.2.2.length<=1000):Ent.InL (Ent.oppF y.1 y.2.1 y.2.2).1.2.2/\(Ent.oppF y.1 y.2.1 y.2.2).1.2.2.length<=1000:=by
 refine ⟨?_,Nat.le_trans (opp_len y) h.2⟩;unfold Ent.oppF;split
 ·intro x hx;cases hx
 ·rename_i k;exact neg_in h.1 (by simpa using k)
theorem rev_sz {K:List Lck.Lk} {N:List En} {a b:Int} (hi:InE N):(revF K N a b).1.length<=N.length+1/\InE (revF K N a b).1:=by
 unfold revF;split
 ·exact ⟨Nat.le_succ _,hi⟩
 ·split
  ·exact ⟨Nat.le_succ _,hi⟩
  ·split
   ·exact ⟨Nat.le_succ _,hi⟩
   ·rename_i y hy;unfold rvY;split
    ·exact ⟨Nat.le_succ _,hi⟩
    ·exact put_sz hi (opp_in (ine_at hi hy))
theorem ap_sz {n:Nat} {B:Bk} {c:Cmd.CmD} (h:Szn n B) (hl:Ent.InL (Cmd.linesF c)):Szn (n+1) (apF B c).1:=by
 obtain ⟨E,A,S,R,K,N⟩:=B;obtain ⟨k,a,b,c,d,s,q,⟨m1,m2⟩,l⟩:=c;obtain ⟨h1,h2,h3,h4,h5,h6,hi⟩:=h;dsimp only at h1 h2 h3 h4 h5 h6 hi;by_cases hc:Cmd.checkF (k,a,b,c,d,s,q,(m1,m2),l)=0
 ·rw [ap_eq hc];have hll:=chk_lines hc;simp only [Cmd.linesF] at hll hl;unfold doF;dsimp only;split
  ·exact fin_sz ⟨Nat.le_trans (cur_len _ _) (by omega),by dsimp only;omega,by dsimp only;omega,by dsimp only;omega,by dsimp only;omega,by dsimp only;omega,hi⟩
  split
  ·exact fin_sz ⟨by dsimp only;omega,gr_len _ _ _ _ _ _ (by omega) (Nat.le_trans (acc_len _ _) (by omega)),by dsimp only;omega,by dsimp only;omega,by dsimp only;omega,by dsimp only;omega,hi⟩
  split
  ·exact fin_sz ⟨by dsimp only;omega,gr_len _ _ _ _ _ _ (by omega) (Nat.le_trans acc_move_len (by omega)),by dsimp only;omega,by dsimp only;omega,by dsimp only;omega,by dsimp only;omega,hi⟩
  split
  ·exact fin_sz ⟨by dsimp only;omega,by dsimp only;omega,Nat.le_trans (stk_len _ _ _) (by omega),by dsimp only;omega,by dsimp only;omega,by dsimp only;omega,hi⟩
  split
  ·exact fin_sz ⟨by dsimp only;omega,by dsimp only;omega,by dsimp only;omega,Nat.le_trans (rts_len _ _) (by omega),by dsimp only;omega,by dsimp only;omega,hi⟩
  split
  ·exact fin_sz ⟨by dsimp only;omega,by dsimp only;omega,by dsimp only;omega,by dsimp only;omega,Nat.le_trans (lck_len _ _ _ _) (by omega),by dsimp only;omega,hi⟩
  split
  ·have hp:=post_sz (E:=E) (A:=A) (K:=K) (p:=a) hi ⟨hl,Nat.le_trans hll (by decide)⟩;exact fin_sz ⟨by dsimp only;omega,by dsimp only;omega,by dsimp only;omega,by dsimp only;omega,by dsimp only;omega,Nat.le_trans hp.1 (by omega),hp.2⟩
  ·have hp:=rev_sz (K:=K) (a:=a) (b:=b) hi;exact fin_sz ⟨by dsimp only;omega,by dsimp only;omega,by dsimp only;omega,by dsimp only;omega,by dsimp only;omega,Nat.le_trans hp.1 (by omega),hp.2⟩
 ·rw [ap_bad hc];exact szn_0 _
theorem sm_of {n:Nat} {E:List Int} {A:List Acc.AcD} {S:List Ln} {R:List Rts.Rt} {K:List Lck.Lk} {N:List En} (h:Szn n (E,A,S,R,K,N)) (hn:n<=1000000):Sm E A S R K N:=by
 obtain ⟨h1,h2,h3,h4,h5,h6,hi⟩:=h;dsimp only at h1 h2 h3 h4 h5 h6 hi;exact ⟨by omega,by omega,by omega,by omega,by omega,by omega,hi⟩
def repGo:Bk->List Cmd.CmD->Int->Bk×Int×Int
 |B,[],i=>(B,i,0)
 |B,c::r,i=>if (apF B c).2=0 then repGo (apF B c).1 r (i+1) else (B,i,(apF B c).2)
def repF (B:Bk) (l:List Cmd.CmD):Bk×Int×Int:=repGo B l 0
theorem rep_stop {B:Bk} {l:List Cmd.CmD} {i:Int} {c:Cmd.CmD} (hc:l[i.toNat]? =some c) (h: ¬(apF B c).2=0):repGo B (l.drop i.toNat) i=(B,i,(apF B c).2):=by
 obtain ⟨h1,h2⟩:=List.getElem?_eq_some_iff.1 hc;rw [List.drop_eq_getElem_cons h1,h2,repGo,if_neg h]
theorem rep_next {B:Bk} {l:List Cmd.CmD} {i:Int} {c:Cmd.CmD} (h0:0<=i) (hc:l[i.toNat]? =some c) (h:(apF B c).2=0):repGo B (l.drop i.toNat) i=repGo (apF B c).1 (l.drop (i+1).toNat) (i+1):=by
 obtain ⟨h1,h2⟩:=List.getElem?_eq_some_iff.1 hc;rw [List.drop_eq_getElem_cons h1,h2,repGo,if_pos h,show (i+1).toNat=i.toNat+1 by omega]
theorem rep_end {B:Bk} {l:List Cmd.CmD} {i:Int} (h: ¬i<(l.length:Int)) (h1:i<=l.length):repGo B (l.drop i.toNat) i=(B,(l.length:Int),0):=by
 rw [List.drop_of_length_le (by omega),repGo,show i=(l.length:Int) by omega]
end Go.Proofs.YtabicbgeoiilmaaGreat.Dsk
end
section
namespace Go.Proofs.YtabicbgeoiilmaaGreat.Dsk
open Go.Vm
open Bks (En InE Sm ine_at ownP)
abbrev CmT:Ty:= .pair I (.pair I (.pair I (.pair I (.pair I (.pair .bool (.pair .bool (.pair Vl (.slice LnT))))))))
noncomputable def tys1:TypeId->Option Ty:=fun|42=>some CmT|i=>tys0 i
def InC (l:List Cmd.CmD):Prop:= ∀c∈l,Ent.InL (Cmd.linesF c)
theorem inc_at {l:List Cmd.CmD} {i:Nat} {c:Cmd.CmD} (h:InC l) (hc:l[i]? =some c):Ent.InL (Cmd.linesF c):=h c (List.mem_of_getElem? hc)
theorem szn_step {i:Int} {n:Nat} {l:List Cmd.CmD} {B:Bk} {c:Cmd.CmD} (h:InC l) (hc:l[i.toNat]? =some c) (h0:0<=i) (hz:Szn (n+i.toNat) B):Szn (n+(i+1).toNat) (apF B c).1:=by
 rw [show n+(i+1).toNat=n+i.toNat+1 by omega];exact ap_sz hz (inc_at h hc)
noncomputable def env_replay (E:List Int) (A:List Acc.AcD) (S:List Ln) (R:List Rts.Rt) (K:List Lck.Lk) (N:List En) (l:List Cmd.CmD):Env where
 P:=Tryz.prog
 ty:=tys1
 specs:=specsOf [Bks.sp_copy,sp_apply]
 heads:=fun|3=>some {slots:=[(15, .int .i64)],boxes:=[(4,[.list .part I, .list .part AcT, .list .part LnT, .list .part RTy, .list .part Vl, .list .part EnT])],keep:=[],drop:=[2],inv:=fun _ (x:Int×List Int×List Acc.AcD×List Ln×List Rts.Rt×List Lck.Lk×List En×Unit)=>0<=x.1/\x.1<=l.length/\Szn (500000+x.1.toNat) (x.2.1,x.2.2.1,x.2.2.2.1,x.2.2.2.2.1,x.2.2.2.2.2.1,x.2.2.2.2.2.2.1)/\repGo (x.2.1,x.2.2.1,x.2.2.2.1,x.2.2.2.2.1,x.2.2.2.2.2.1,x.2.2.2.2.2.2.1) (l.drop x.1.toNat) x.1=repF (E,A,S,R,K,N) l,measure:=fun _ (x:Int×List Int×List Acc.AcD×List Ln×List Rts.Rt×List Lck.Lk×List En×Unit)=>(l.length-x.1).toNat}|_=>none
abbrev ann_replay:Ann:={slots:=numP 0 [.list .part I, .list .part AcT, .list .part LnT, .list .part RTy, .list .part Vl, .list .part EnT, .int .i64, .int .i64],boxes:=[],inv:=fun _ _=>True}
def g_replay_vc (E:List Int) (A:List Acc.AcD) (S:List Ln) (R:List Rts.Rt) (K:List Lck.Lk) (N:List En) (l:List Cmd.CmD):Prop:=
 Sm E A S R K N/\(True/\0<=(0:Int)/\0<=(↑l.length:Int)/\Szn ((500000:Nat)+Int.toNat (0:Int)) (E,A,S,R,K,N)/\repGo (E,A,S,R,K,N) (List.drop (Int.toNat (0:Int)) l) (0:Int)=repF (E,A,S,R,K,N) l)/\∀(x:Int×List Int×List (Int×Int×Bool×Bool)×List (Int×Int×Int×Int)×List (Int×Int×Int×Int×Int×Int)×List (Int×Int)×List (Int×Int×List (Int×Int×Int×Int))×Unit),0<=x.1/\x.1<=(↑l.length:Int)/\Szn ((500000:Nat)+x.1.toNat) (x.2.1,x.2.2.1,x.2.2.2.1,x.2.2.2.2.1,x.2.2.2.2.2.1,x.2.2.2.2.2.2.1)/\repGo (x.2.1,x.2.2.1,x.2.2.2.1,x.2.2.2.2.1,x.2.2.2.2.2.1,x.2.2.2.2.2.2.1) (List.drop x.1.toNat l) x.1=repF (E,A,S,R,K,N) l->(decide (x.1<(↑l.length:Int))=true->(0<=x.1/\x.1<(↑l.length:Int))/\∀(x_1:Int×Int×Int×Int×Int×Bool×Bool×(Int×Int)×List (Int×Int×Int×Int)),l[x.1.toNat]? =some x_1->(Sm x.2.1 x.2.2.1 x.2.2.2.1 x.2.2.2.2.1 x.2.2.2.2.2.1 x.2.2.2.2.2.2.1/\Ent.InL x_1.2.2.2.2.2.2.2.2)/\((!decide ((apF (x.2.1,x.2.2.1,x.2.2.2.1,x.2.2.2.2.1,x.2.2.2.2.2.1,x.2.2.2.2.2.2.1) x_1).2=(0:Int)))=true->True/\(x.2.1,x.2.2.1,x.2.2.2.1,x.2.2.2.2.1,x.2.2.2.2.2.1,x.2.2.2.2.2.2.1,x.1,(apF (x.2.1,x.2.2.1,x.2.2.2.1,x.2.2.2.2.1,x.2.2.2.2.2.1,x.2.2.2.2.2.2.1) x_1).2,())=((repF (E,A,S,R,K,N) l).1.1,(repF (E,A,S,R,K,N) l).1.2.1,(repF (E,A,S,R,K,N) l).1.2.2.1,(repF (E,A,S,R,K,N) l).1.2.2.2.1,(repF (E,A,S,R,K,N) l).1.2.2.2.2.1,(repF (E,A,S,R,K,N) l).1.2.2.2.2.2,(repF (E,A,S,R,K,N) l).2.1,(repF (E,A,S,R,K,N) l).2.2,()))/\((!decide ((apF (x.2.1,x.2.2.1,x.2.2.2.1,x.2.2.2.2.1,x.2.2.2.2.2.1,x.2.2.2.2.2.2.1) x_1).2=(0:Int)))=false->(-9223372036854775808<=x.1+1/\x.1+1<=9223372036854775807)/\True/\(0<=x.1+1/\x.1+1<=(↑l.length:Int)/\Szn ((500000:Nat)+(x.1+1).toNat) (apF (x.2.1,x.2.2.1,x.2.2.2.1,x.2.2.2.2.1,x.2.2.2.2.2.1,x.2.2.2.2.2.2.1) x_1).1/\repGo (apF (x.2.1,x.2.2.1,x.2.2.2.1,x.2.2.2.2.1,x.2.2.2.2.2.1,x.2.2.2.2.2.2.1) x_1).1 (List.drop (x.1+1).toNat l) (x.1+1)=repF (E,A,S,R,K,N) l)/\((↑l.length:Int)-(x.1+1)).toNat<((↑l.length:Int)-x.1).toNat))/\(decide (x.1<(↑l.length:Int))=false->True/\(x.2.1,x.2.2.1,x.2.2.2.1,x.2.2.2.2.1,x.2.2.2.2.2.1,x.2.2.2.2.2.2.1,(↑l.length:Int),(0:Int),())=((repF (E,A,S,R,K,N) l).1.1,(repF (E,A,S,R,K,N) l).1.2.1,(repF (E,A,S,R,K,N) l).1.2.2.1,(repF (E,A,S,R,K,N) l).1.2.2.2.1,(repF (E,A,S,R,K,N) l).1.2.2.2.2.1,(repF (E,A,S,R,K,N) l).1.2.2.2.2.2,(repF (E,A,S,R,K,N) l).2.1,(repF (E,A,S,R,K,N) l).2.2,()))
theorem g_replay_eq (E:List Int) (A:List Acc.AcD) (S:List Ln) (R:List Rts.Rt) (K:List Lck.Lk) (N:List En) (l:List Cmd.CmD):CondG (env_replay E A S R K N l) Tryz.f13 [.agg [.list .tmp I E, .list .tmp AcT A, .list .tmp LnT S, .list .tmp RTy R, .list .tmp Vl K, .list .tmp EnT N], .list .tmp CmT l] [some 6,none,none] ann_replay ((repF (E,A,S,R,K,N) l).1.1,(repF (E,A,S,R,K,N) l).1.2.1,(repF (E,A,S,R,K,N) l).1.2.2.1,(repF (E,A,S,R,K,N) l).1.2.2.2.1,(repF (E,A,S,R,K,N) l).1.2.2.2.2.1,(repF (E,A,S,R,K,N) l).1.2.2.2.2.2,(repF (E,A,S,R,K,N) l).2.1,(repF (E,A,S,R,K,N) l).2.2,())=g_replay_vc E A S R K N l:=by kernel_rfl
theorem g_replay_ok (E:List Int) (A:List Acc.AcD) (S:List Ln) (R:List Rts.Rt) (K:List Lck.Lk) (N:List En) (l:List Cmd.CmD) (h:Szn 500000 (E,A,S,R,K,N)/\l.length<=500000/\InC l):g_replay_vc E A S R K N l:=by
 obtain ⟨hz0,hl,hC⟩:=h;unfold g_replay_vc;simp only [decide_eq_true_eq,decide_eq_false_iff_not,Bool.not_eq_true',Bool.not_eq_false',Bool.not_true,Bool.not_false];refine ⟨sm_of hz0 (by decide),⟨trivial,Int.le_refl 0,by omega,hz0,rfl⟩, ?_⟩;rintro ⟨i,E1,A1,S1,R1,K1,N1,⟨⟩⟩ ⟨h0,h1,hz,hr⟩;dsimp only at h0 h1 hz hr⊢;refine ⟨fun hi=>⟨⟨h0,hi⟩,fun c hc=>⟨⟨sm_of hz (by omega),inc_at hC hc⟩,fun he=>⟨trivial, ?_⟩,fun he=>⟨⟨by omega,by omega⟩,trivial,⟨by omega,by omega,szn_step hC hc h0 hz,(rep_next h0 hc he).symm.trans hr⟩,by omega⟩⟩⟩,fun hi=>⟨trivial, ?_⟩⟩
 ·have e:=(rep_stop hc he).symm.trans hr;rw [<-e]
 ·have e:=(rep_end hi h1).symm.trans hr;rw [<-e]
set_option maxRecDepth 20000
theorem replay_pure (E:List Int) (A:List Acc.AcD) (S:List Ln) (R:List Rts.Rt) (K:List Lck.Lk) (N:List En) (l:List Cmd.CmD) (h:Szn 500000 (E,A,S,R,K,N)/\l.length<=500000/\InC l):Pure Tryz.prog 13 [.agg [.list .tmp I E, .list .tmp AcT A, .list .tmp LnT S, .list .tmp RTy R, .list .tmp Vl K, .list .tmp EnT N], .list .tmp CmT l] (.tuple [.agg [.list .part I ((repF (E,A,S,R,K,N) l).1.1), .list .part AcT ((repF (E,A,S,R,K,N) l).1.2.1), .list .part LnT ((repF (E,A,S,R,K,N) l).1.2.2.1), .list .part RTy ((repF (E,A,S,R,K,N) l).1.2.2.2.1), .list .part Vl ((repF (E,A,S,R,K,N) l).1.2.2.2.2.1), .list .part EnT ((repF (E,A,S,R,K,N) l).1.2.2.2.2.2)], .int .i64 (repF (E,A,S,R,K,N) l).2.1, .int .i64 (repF (E,A,S,R,K,N) l).2.2]):=
 by have k:=Pure.of_condG (r:=(.tuple [.agg [.list .part I ((repF (E,A,S,R,K,N) l).1.1), .list .part AcT ((repF (E,A,S,R,K,N) l).1.2.1), .list .part LnT ((repF (E,A,S,R,K,N) l).1.2.2.1), .list .part RTy ((repF (E,A,S,R,K,N) l).1.2.2.2.1), .list .part Vl ((repF (E,A,S,R,K,N) l).1.2.2.2.2.1), .list .part EnT ((repF (E,A,S,R,K,N) l).1.2.2.2.2.2)], .int .i64 (repF (E,A,S,R,K,N) l).2.1, .int .i64 (repF (E,A,S,R,K,N) l).2.2])) (g_replay_eq E A S R K N l) (g_replay_ok E A S R K N l h) rfl (specs_ok rfl [Bks.sp_copy,sp_apply] [] rfl rfl) mixed Tryz.func13;exact k
noncomputable def q_replay (E:List Int) (A:List Acc.AcD) (S:List Ln) (R:List Rts.Rt) (K:List Lck.Lk) (N:List En) (l:List Cmd.CmD):Prop×V:=(Szn 500000 (E,A,S,R,K,N)/\l.length<=500000/\InC l,(.tuple [.agg [.list .part I ((repF (E,A,S,R,K,N) l).1.1), .list .part AcT ((repF (E,A,S,R,K,N) l).1.2.1), .list .part LnT ((repF (E,A,S,R,K,N) l).1.2.2.1), .list .part RTy ((repF (E,A,S,R,K,N) l).1.2.2.2.1), .list .part Vl ((repF (E,A,S,R,K,N) l).1.2.2.2.2.1), .list .part EnT ((repF (E,A,S,R,K,N) l).1.2.2.2.2.2)], .int .i64 (repF (E,A,S,R,K,N) l).2.1, .int .i64 (repF (E,A,S,R,K,N) l).2.2]))
noncomputable def sp_replay:FSpec Tryz.prog where
 f:=13
 run:=fun
  |[.agg [v0_0,v0_1,v0_2,v0_3,v0_4,v0_5],v1]=>(asL I v0_0:Option (List Int)).bind fun E=>(asL AcT v0_1:Option (List Acc.AcD)).bind fun A=>(asL LnT v0_2:Option (List Ln)).bind fun S=>(asL RTy v0_3:Option (List Rts.Rt)).bind fun R=>(asL Vl v0_4:Option (List Lck.Lk)).bind fun K=>(asL EnT v0_5:Option (List En)).bind fun N=>(asL CmT v1:Option (List Cmd.CmD)).bind fun l=>some (q_replay E A S R K N l)
  |_=>none
 ok:=fun args pre r h hp=>by
  split at h
  ·rename_i v0_0 v0_1 v0_2 v0_3 v0_4 v0_5 v1;obtain ⟨E,h0_0,h⟩:=Option.bind_eq_some_iff.1 h;obtain ⟨A,h0_1,h⟩:=Option.bind_eq_some_iff.1 h;obtain ⟨S,h0_2,h⟩:=Option.bind_eq_some_iff.1 h;obtain ⟨R,h0_3,h⟩:=Option.bind_eq_some_iff.1 h;obtain ⟨K,h0_4,h⟩:=Option.bind_eq_some_iff.1 h;obtain ⟨N,h0_5,h⟩:=Option.bind_eq_some_iff.1 h;obtain ⟨l,h1,h⟩:=Option.bind_eq_some_iff.1 h;exact of_q h hp fun h=>(replay_pure E A S R K N l h).weak (.cons (Weak.agg (.cons (asL_weak h0_0) (.cons (asL_weak h0_1) (.cons (asL_weak h0_2) (.cons (asL_weak h0_3) (.cons (asL_weak h0_4) (.cons (asL_weak h0_5) .nil))))))) (.cons (asL_weak h1) .nil))
  ·cases h
noncomputable def env_rreplay (E:List Int) (A:List Acc.AcD) (S:List Ln) (R:List Rts.Rt) (K:List Lck.Lk) (N:List En) (l:List Cmd.CmD):Env where
 P:=Tryz.prog
 ty:=tys1
 specs:=specsOf [sp_rapply]
 heads:=fun|2=>some {slots:=[(7, .int .i64)],boxes:=[(2,[.list .part I, .list .part AcT, .list .part LnT, .list .part RTy, .list .part Vl, .list .part EnT])],keep:=[4],inv:=fun _ (x:Int×List Int×List Acc.AcD×List Ln×List Rts.Rt×List Lck.Lk×List En×Unit)=>0<=x.1/\x.1<=l.length/\Szn (500000+x.1.toNat) (x.2.1,x.2.2.1,x.2.2.2.1,x.2.2.2.2.1,x.2.2.2.2.2.1,x.2.2.2.2.2.2.1)/\repGo (x.2.1,x.2.2.1,x.2.2.2.1,x.2.2.2.2.1,x.2.2.2.2.2.1,x.2.2.2.2.2.2.1) (l.drop x.1.toNat) x.1=repF (E,A,S,R,K,N) l,measure:=fun _ (x:Int×List Int×List Acc.AcD×List Ln×List Rts.Rt×List Lck.Lk×List En×Unit)=>(l.length-x.1).toNat}|_=>none
abbrev ann_rreplay:Ann:={slots:=numP 0 [.list .part I, .list .part AcT, .list .part LnT, .list .part RTy, .list .part Vl, .list .part EnT, .int .i64, .int .i64],boxes:=[],inv:=fun _ _=>True}
def g_rreplay_vc (E:List Int) (A:List Acc.AcD) (S:List Ln) (R:List Rts.Rt) (K:List Lck.Lk) (N:List En) (l:List Cmd.CmD):Prop:=
 ((some (Obj.box [V.nils,V.nils,V.nils,V.nils,V.nils,V.nils])=some (Obj.box [V.nils,V.nils,V.nils,V.nils,V.nils,V.nils])/\True)/\0<=(0:Int)/\0<=(↑l.length:Int)/\Szn ((500000:Nat)+Int.toNat (0:Int)) (E,A,S,R,K,N)/\repGo (E,A,S,R,K,N) (List.drop (Int.toNat (0:Int)) l) (0:Int)=repF (E,A,S,R,K,N) l)/\∀(x:Int×List Int×List (Int×Int×Bool×Bool)×List (Int×Int×Int×Int)×List (Int×Int×Int×Int×Int×Int)×List (Int×Int)×List (Int×Int×List (Int×Int×Int×Int))×Unit),0<=x.1/\x.1<=(↑l.length:Int)/\Szn ((500000:Nat)+x.1.toNat) (x.2.1,x.2.2.1,x.2.2.2.1,x.2.2.2.2.1,x.2.2.2.2.2.1,x.2.2.2.2.2.2.1)/\repGo (x.2.1,x.2.2.1,x.2.2.2.1,x.2.2.2.2.1,x.2.2.2.2.2.1,x.2.2.2.2.2.2.1) (List.drop x.1.toNat l) x.1=repF (E,A,S,R,K,N) l->(decide (x.1<(↑l.length:Int))=true->(0<=x.1/\x.1<(↑l.length:Int))/\∀(x_1:Int×Int×Int×Int×Int×Bool×Bool×(Int×Int)×List (Int×Int×Int×Int)),l[x.1.toNat]? =some x_1->(Sm x.2.1 x.2.2.1 x.2.2.2.1 x.2.2.2.2.1 x.2.2.2.2.2.1 x.2.2.2.2.2.2.1/\Ent.InL x_1.2.2.2.2.2.2.2.2)/\((!decide ((apF (x.2.1,x.2.2.1,x.2.2.2.1,x.2.2.2.2.1,x.2.2.2.2.2.1,x.2.2.2.2.2.2.1) x_1).2=(0:Int)))=true->True/\(x.2.1,x.2.2.1,x.2.2.2.1,x.2.2.2.2.1,x.2.2.2.2.2.1,x.2.2.2.2.2.2.1,x.1,(apF (x.2.1,x.2.2.1,x.2.2.2.1,x.2.2.2.2.1,x.2.2.2.2.2.1,x.2.2.2.2.2.2.1) x_1).2,())=((repF (E,A,S,R,K,N) l).1.1,(repF (E,A,S,R,K,N) l).1.2.1,(repF (E,A,S,R,K,N) l).1.2.2.1,(repF (E,A,S,R,K,N) l).1.2.2.2.1,(repF (E,A,S,R,K,N) l).1.2.2.2.2.1,(repF (E,A,S,R,K,N) l).1.2.2.2.2.2,(repF (E,A,S,R,K,N) l).2.1,(repF (E,A,S,R,K,N) l).2.2,()))/\((!decide ((apF (x.2.1,x.2.2.1,x.2.2.2.1,x.2.2.2.2.1,x.2.2.2.2.2.1,x.2.2.2.2.2.2.1) x_1).2=(0:Int)))=false->(-9223372036854775808<=x.1+1/\x.1+1<=9223372036854775807)/\(some (Obj.box [V.nils,V.nils,V.nils,V.nils,V.nils,V.nils])=some (Obj.box [V.nils,V.nils,V.nils,V.nils,V.nils,V.nils])/\True)/\(0<=x.1+1/\x.1+1<=(↑l.length:Int)/\Szn ((500000:Nat)+(x.1+1).toNat) (apF (x.2.1,x.2.2.1,x.2.2.2.1,x.2.2.2.2.1,x.2.2.2.2.2.1,x.2.2.2.2.2.2.1) x_1).1/\repGo (apF (x.2.1,x.2.2.1,x.2.2.2.1,x.2.2.2.2.1,x.2.2.2.2.2.1,x.2.2.2.2.2.2.1) x_1).1 (List.drop (x.1+1).toNat l) (x.1+1)=repF (E,A,S,R,K,N) l)/\((↑l.length:Int)-(x.1+1)).toNat<((↑l.length:Int)-x.1).toNat))/\(decide (x.1<(↑l.length:Int))=false->True/\(x.2.1,x.2.2.1,x.2.2.2.1,x.2.2.2.2.1,x.2.2.2.2.2.1,x.2.2.2.2.2.2.1,(↑l.length:Int),(0:Int),())=((repF (E,A,S,R,K,N) l).1.1,(repF (E,A,S,R,K,N) l).1.2.1,(repF (E,A,S,R,K,N) l).1.2.2.1,(repF (E,A,S,R,K,N) l).1.2.2.2.1,(repF (E,A,S,R,K,N) l).1.2.2.2.2.1,(repF (E,A,S,R,K,N) l).1.2.2.2.2.2,(repF (E,A,S,R,K,N) l).2.1,(repF (E,A,S,R,K,N) l).2.2,()))
theorem g_rreplay_eq (E:List Int) (A:List Acc.AcD) (S:List Ln) (R:List Rts.Rt) (K:List Lck.Lk) (N:List En) (l:List Cmd.CmD):CondG (env_rreplay E A S R K N l) Tryz.f14 [.agg [.list .part I E, .list .part AcT A, .list .part LnT S, .list .part RTy R, .list .part Vl K, .list .part EnT N], .list .part CmT l] [some 6,none,none] ann_rreplay ((repF (E,A,S,R,K,N) l).1.1,(repF (E,A,S,R,K,N) l).1.2.1,(repF (E,A,S,R,K,N) l).1.2.2.1,(repF (E,A,S,R,K,N) l).1.2.2.2.1,(repF (E,A,S,R,K,N) l).1.2.2.2.2.1,(repF (E,A,S,R,K,N) l).1.2.2.2.2.2,(repF (E,A,S,R,K,N) l).2.1,(repF (E,A,S,R,K,N) l).2.2,())=g_rreplay_vc E A S R K N l:=by kernel_rfl
theorem g_rreplay_ok (E:List Int) (A:List Acc.AcD) (S:List Ln) (R:List Rts.Rt) (K:List Lck.Lk) (N:List En) (l:List Cmd.CmD) (h:Szn 500000 (E,A,S,R,K,N)/\l.length<=500000/\InC l):g_rreplay_vc E A S R K N l:=by
 obtain ⟨hz0,hl,hC⟩:=h;unfold g_rreplay_vc;simp only [decide_eq_true_eq,decide_eq_false_iff_not,Bool.not_eq_true',Bool.not_eq_false',Bool.not_true,Bool.not_false];refine ⟨⟨⟨trivial,trivial⟩,Int.le_refl 0,by omega,hz0,rfl⟩, ?_⟩;rintro ⟨i,E1,A1,S1,R1,K1,N1,⟨⟩⟩ ⟨h0,h1,hz,hr⟩;dsimp only at h0 h1 hz hr⊢;refine ⟨fun hi=>⟨⟨h0,hi⟩,fun c hc=>⟨⟨sm_of hz (by omega),inc_at hC hc⟩,fun he=>⟨trivial, ?_⟩,fun he=>⟨⟨by omega,by omega⟩,⟨trivial,trivial⟩,⟨by omega,by omega,szn_step hC hc h0 hz,(rep_next h0 hc he).symm.trans hr⟩,by omega⟩⟩⟩,fun hi=>⟨trivial, ?_⟩⟩
 ·have e:=(rep_stop hc he).symm.trans hr;rw [<-e]
 ·have e:=(rep_end hi h1).symm.trans hr;rw [<-e]
theorem rreplay_pure (E:List Int) (A:List Acc.AcD) (S:List Ln) (R:List Rts.Rt) (K:List Lck.Lk) (N:List En) (l:List Cmd.CmD) (h:Szn 500000 (E,A,S,R,K,N)/\l.length<=500000/\InC l):Pure Tryz.prog 14 [.agg [.list .part I E, .list .part AcT A, .list .part LnT S, .list .part RTy R, .list .part Vl K, .list .part EnT N], .list .part CmT l] (.tuple [.agg [.list .part I ((repF (E,A,S,R,K,N) l).1.1), .list .part AcT ((repF (E,A,S,R,K,N) l).1.2.1), .list .part LnT ((repF (E,A,S,R,K,N) l).1.2.2.1), .list .part RTy ((repF (E,A,S,R,K,N) l).1.2.2.2.1), .list .part Vl ((repF (E,A,S,R,K,N) l).1.2.2.2.2.1), .list .part EnT ((repF (E,A,S,R,K,N) l).1.2.2.2.2.2)], .int .i64 (repF (E,A,S,R,K,N) l).2.1, .int .i64 (repF (E,A,S,R,K,N) l).2.2]):=
 by have k:=Pure.of_condG (r:=(.tuple [.agg [.list .part I ((repF (E,A,S,R,K,N) l).1.1), .list .part AcT ((repF (E,A,S,R,K,N) l).1.2.1), .list .part LnT ((repF (E,A,S,R,K,N) l).1.2.2.1), .list .part RTy ((repF (E,A,S,R,K,N) l).1.2.2.2.1), .list .part Vl ((repF (E,A,S,R,K,N) l).1.2.2.2.2.1), .list .part EnT ((repF (E,A,S,R,K,N) l).1.2.2.2.2.2)], .int .i64 (repF (E,A,S,R,K,N) l).2.1, .int .i64 (repF (E,A,S,R,K,N) l).2.2])) (g_rreplay_eq E A S R K N l) (g_rreplay_ok E A S R K N l h) rfl (specs_ok rfl [sp_rapply] [] rfl rfl) mixed Tryz.func14;exact k
noncomputable def q_rreplay (E:List Int) (A:List Acc.AcD) (S:List Ln) (R:List Rts.Rt) (K:List Lck.Lk) (N:List En) (l:List Cmd.CmD):Prop×V:=(Szn 500000 (E,A,S,R,K,N)/\l.length<=500000/\InC l,(.tuple [.agg [.list .part I ((repF (E,A,S,R,K,N) l).1.1), .list .part AcT ((repF (E,A,S,R,K,N) l).1.2.1), .list .part LnT ((repF (E,A,S,R,K,N) l).1.2.2.1), .list .part RTy ((repF (E,A,S,R,K,N) l).1.2.2.2.1), .list .part Vl ((repF (E,A,S,R,K,N) l).1.2.2.2.2.1), .list .part EnT ((repF (E,A,S,R,K,N) l).1.2.2.2.2.2)], .int .i64 (repF (E,A,S,R,K,N) l).2.1, .int .i64 (repF (E,A,S,R,K,N) l).2.2]))
noncomputable def sp_rreplay:FSpec Tryz.prog where
 f:=14
 run:=fun
  |[.agg [v0_0,v0_1,v0_2,v0_3,v0_4,v0_5],v1]=>(asP I v0_0:Option (List Int)).bind fun E=>(asP AcT v0_1:Option (List Acc.AcD)).bind fun A=>(asP LnT v0_2:Option (List Ln)).bind fun S=>(asP RTy v0_3:Option (List Rts.Rt)).bind fun R=>(asP Vl v0_4:Option (List Lck.Lk)).bind fun K=>(asP EnT v0_5:Option (List En)).bind fun N=>(asP CmT v1:Option (List Cmd.CmD)).bind fun l=>some (q_rreplay E A S R K N l)
  |_=>none
 ok:=fun args pre r h hp=>by
  split at h
  ·rename_i v0_0 v0_1 v0_2 v0_3 v0_4 v0_5 v1;obtain ⟨E,h0_0,h⟩:=Option.bind_eq_some_iff.1 h;obtain ⟨A,h0_1,h⟩:=Option.bind_eq_some_iff.1 h;obtain ⟨S,h0_2,h⟩:=Option.bind_eq_some_iff.1 h;obtain ⟨R,h0_3,h⟩:=Option.bind_eq_some_iff.1 h;obtain ⟨K,h0_4,h⟩:=Option.bind_eq_some_iff.1 h;obtain ⟨N,h0_5,h⟩:=Option.bind_eq_some_iff.1 h;obtain ⟨l,h1,h⟩:=Option.bind_eq_some_iff.1 h;exact of_q h hp fun h=>(rreplay_pure E A S R K N l h).weak (.cons (Weak.agg (.cons (asP_weak h0_0) (.cons (asP_weak h0_1) (.cons (asP_weak h0_2) (.cons (asP_weak h0_3) (.cons (asP_weak h0_4) (.cons (asP_weak h0_5) .nil))))))) (.cons (asP_weak h1) .nil))
  ·cases h
end Go.Proofs.YtabicbgeoiilmaaGreat.Dsk
end
section
namespace Go.Proofs.YtabicbgeoiilmaaGreat.Bks
open Go.Vm
def Ok (E:List Int) (A:List Acc.AcD) (S:List Ln) (R:List Rts.Rt) (K:List Lck.Lk) (N:List En):Prop:=N.length<=9223372036854775807/\∀x∈N,Ent.InL x.2.2
theorem sm_few (E:List Int) (A:List Acc.AcD) (S:List Ln) (R:List Rts.Rt) (K:List Lck.Lk) (N:List En) (h:Ok E A S R K N) (hf:fewF E A S R K N=true):Sm E A S R K N:=by
 unfold fewF few24 at hf;simp only [Bool.and_eq_true,decide_eq_true_eq,Bool.not_eq_true'] at hf;obtain ⟨h1,h2,h3,h4,h5,h6,h7⟩:=hf;refine ⟨by omega,by omega,by omega,by omega,by omega,by omega,fun x hx=>⟨h.2 x hx, ?_⟩⟩;have:=List.any_eq_false.1 h7 x hx;simp only [decide_eq_true_eq] at this;omega
end Go.Proofs.YtabicbgeoiilmaaGreat.Bks
end
