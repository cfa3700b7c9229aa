/-
  Apply, Replay.
-/
import Derived.Test.YtabicbgeoiilmaaGreatDoorDsk5
set_option linter.unusedVariables false
namespace Go.Proofs.YtabicbgeoiilmaaGreatDoor.Dsk
open Go.Vm
open Bks (En InE Sm)
noncomputable def env_ap0 (E:List Int) (A:List Acc.AcD) (S:List Ln) (R:List Rts.Rt) (K:List Lck.Lk) (N:List En) (k a b c d:Int) (s q:Bool) (n m:Int) (l:List Ln):Env where
 P:=Tryz.prog
 ty:=tys0
 specs:=specsOf [Cm.sp_check]
abbrev ann_ap0:Ann:={slots:=numP 0 [.list .part I, .list .part AcT, .list .part LnT, .list .part RTy, .list .part Vl, .list .part EnT, .int .i64],boxes:=[],inv:=fun _ _=>True}
def g_ap0_vc (E:List Int) (A:List Acc.AcD) (S:List Ln) (R:List Rts.Rt) (K:List Lck.Lk) (N:List En) (k:Int) (a:Int) (b:Int) (c:Int) (d:Int) (s:Bool) (q:Bool) (n:Int) (m:Int) (l:List Ln):Prop:=
 True/\((!decide (Cm.checkF (k,a,b,c,d,s,q,(n,m),l)=(0:Int)))=true->True/\([],[],[],[],[],[],Cm.checkF (k,a,b,c,d,s,q,(n,m),l),())=((apF (E,A,S,R,K,N) (k,a,b,c,d,s,q,(n,m),l)).1.1,(apF (E,A,S,R,K,N) (k,a,b,c,d,s,q,(n,m),l)).1.2.1,(apF (E,A,S,R,K,N) (k,a,b,c,d,s,q,(n,m),l)).1.2.2.1,(apF (E,A,S,R,K,N) (k,a,b,c,d,s,q,(n,m),l)).1.2.2.2.1,(apF (E,A,S,R,K,N) (k,a,b,c,d,s,q,(n,m),l)).1.2.2.2.2.1,(apF (E,A,S,R,K,N) (k,a,b,c,d,s,q,(n,m),l)).1.2.2.2.2.2,(apF (E,A,S,R,K,N) (k,a,b,c,d,s,q,(n,m),l)).2,()))/\((!decide (Cm.checkF (k,a,b,c,d,s,q,(n,m),l)=(0:Int)))=false->False)
theorem g_ap0_eq (E:List Int) (A:List Acc.AcD) (S:List Ln) (R:List Rts.Rt) (K:List Lck.Lk) (N:List En) (k a b c d:Int) (s q:Bool) (n m:Int) (l:List Ln):CondG (env_ap0 E A S R K N k a b c d s q n m l) Tryz.f43 [.agg [.list .tmp I E, .list .tmp AcT A, .list .tmp LnT S, .list .tmp RTy R, .list .tmp Vl K, .list .tmp EnT N], .agg [.int .i64 k, .int .i64 a, .int .i64 b, .int .i64 c, .int .i64 d, .bool s, .bool q, .int .i64 n, .int .i64 m, .list .tmp LnT l]] [some 6,none] ann_ap0 ((apF (E,A,S,R,K,N) (k,a,b,c,d,s,q,(n,m),l)).1.1,(apF (E,A,S,R,K,N) (k,a,b,c,d,s,q,(n,m),l)).1.2.1,(apF (E,A,S,R,K,N) (k,a,b,c,d,s,q,(n,m),l)).1.2.2.1,(apF (E,A,S,R,K,N) (k,a,b,c,d,s,q,(n,m),l)).1.2.2.2.1,(apF (E,A,S,R,K,N) (k,a,b,c,d,s,q,(n,m),l)).1.2.2.2.2.1,(apF (E,A,S,R,K,N) (k,a,b,c,d,s,q,(n,m),l)).1.2.2.2.2.2,(apF (E,A,S,R,K,N) (k,a,b,c,d,s,q,(n,m),l)).2,())=g_ap0_vc E A S R K N k a b c d s q n m l:=by kernel_rfl
theorem g_ap0_ok (E:List Int) (A:List Acc.AcD) (S:List Ln) (R:List Rts.Rt) (K:List Lck.Lk) (N:List En) (k a b c d:Int) (s q:Bool) (n m:Int) (l:List Ln) (h: ¬Cm.checkF (k,a,b,c,d,s,q,(n,m),l)=0):g_ap0_vc E A S R K N k a b c d s q n m l:=by
 unfold g_ap0_vc;simp only [decide_eq_true_eq,decide_eq_false_iff_not,Bool.not_eq_true',Bool.not_eq_false',Bool.not_true,Bool.not_false];refine ⟨trivial,fun _=>⟨trivial, ?_⟩,fun hc=>absurd hc h⟩;rw [ap_bad h];rfl
set_option maxRecDepth 20000
theorem ap0_pure (E:List Int) (A:List Acc.AcD) (S:List Ln) (R:List Rts.Rt) (K:List Lck.Lk) (N:List En) (k a b c d:Int) (s q:Bool) (n m:Int) (l:List Ln) (h: ¬Cm.checkF (k,a,b,c,d,s,q,(n,m),l)=0):Pure Tryz.prog 43 [.agg [.list .tmp I E, .list .tmp AcT A, .list .tmp LnT S, .list .tmp RTy R, .list .tmp Vl K, .list .tmp EnT N], .agg [.int .i64 k, .int .i64 a, .int .i64 b, .int .i64 c, .int .i64 d, .bool s, .bool q, .int .i64 n, .int .i64 m, .list .tmp LnT l]] (.tuple [.agg [.list .part I ((apF (E,A,S,R,K,N) (k,a,b,c,d,s,q,(n,m),l)).1.1), .list .part AcT ((apF (E,A,S,R,K,N) (k,a,b,c,d,s,q,(n,m),l)).1.2.1), .list .part LnT ((apF (E,A,S,R,K,N) (k,a,b,c,d,s,q,(n,m),l)).1.2.2.1), .list .part RTy ((apF (E,A,S,R,K,N) (k,a,b,c,d,s,q,(n,m),l)).1.2.2.2.1), .list .part Vl ((apF (E,A,S,R,K,N) (k,a,b,c,d,s,q,(n,m),l)).1.2.2.2.2.1), .list .part EnT ((apF (E,A,S,R,K,N) (k,a,b,c,d,s,q,(n,m),l)).1.2.2.2.2.2)], .int .i64 (apF (E,A,S,R,K,N) (k,a,b,c,d,s,q,(n,m),l)).2]):=
 by have k:=Pure.of_condG (r:=(.tuple [.agg [.list .part I ((apF (E,A,S,R,K,N) (k,a,b,c,d,s,q,(n,m),l)).1.1), .list .part AcT ((apF (E,A,S,R,K,N) (k,a,b,c,d,s,q,(n,m),l)).1.2.1), .list .part LnT ((apF (E,A,S,R,K,N) (k,a,b,c,d,s,q,(n,m),l)).1.2.2.1), .list .part RTy ((apF (E,A,S,R,K,N) (k,a,b,c,d,s,q,(n,m),l)).1.2.2.2.1), .list .part Vl ((apF (E,A,S,R,K,N) (k,a,b,c,d,s,q,(n,m),l)).1.2.2.2.2.1), .list .part EnT ((apF (E,A,S,R,K,N) (k,a,b,c,d,s,q,(n,m),l)).1.2.2.2.2.2)], .int .i64 (apF (E,A,S,R,K,N) (k,a,b,c,d,s,q,(n,m),l)).2])) (g_ap0_eq E A S R K N k a b c d s q n m l) (g_ap0_ok E A S R K N k a b c d s q n m l h) rfl (specs_ok rfl [Cm.sp_check] [] rfl rfl) mixed Tryz.func43;exact k
theorem chk_kind {c:Cm.CmD} (h:Cm.checkF c=0):1<=c.1/\c.1<=8:=by
 unfold Cm.checkF at h;split at h
 ·cases h
 ·omega
theorem ap_pure (E:List Int) (A:List Acc.AcD) (S:List Ln) (R:List Rts.Rt) (K:List Lck.Lk) (N:List En) (k a b c d:Int) (s q:Bool) (n m:Int) (l:List Ln) (h:Sm E A S R K N/\Ent.InL l):Pure Tryz.prog 43 [.agg [.list .tmp I E, .list .tmp AcT A, .list .tmp LnT S, .list .tmp RTy R, .list .tmp Vl K, .list .tmp EnT N], .agg [.int .i64 k, .int .i64 a, .int .i64 b, .int .i64 c, .int .i64 d, .bool s, .bool q, .int .i64 n, .int .i64 m, .list .tmp LnT l]] (.tuple [.agg [.list .part I ((apF (E,A,S,R,K,N) (k,a,b,c,d,s,q,(n,m),l)).1.1), .list .part AcT ((apF (E,A,S,R,K,N) (k,a,b,c,d,s,q,(n,m),l)).1.2.1), .list .part LnT ((apF (E,A,S,R,K,N) (k,a,b,c,d,s,q,(n,m),l)).1.2.2.1), .list .part RTy ((apF (E,A,S,R,K,N) (k,a,b,c,d,s,q,(n,m),l)).1.2.2.2.1), .list .part Vl ((apF (E,A,S,R,K,N) (k,a,b,c,d,s,q,(n,m),l)).1.2.2.2.2.1), .list .part EnT ((apF (E,A,S,R,K,N) (k,a,b,c,d,s,q,(n,m),l)).1.2.2.2.2.2)], .int .i64 (apF (E,A,S,R,K,N) (k,a,b,c,d,s,q,(n,m),l)).2]):=by
 by_cases hc:Cm.checkF (k,a,b,c,d,s,q,(n,m),l)=0
 ·have hk:=chk_kind hc;have hk:k=1∨k=2∨k=3∨k=4∨k=5∨k=6∨k=7∨k=8:=by simp only at hk;omega
  rcases hk with rfl|rfl|rfl|rfl|rfl|rfl|rfl|rfl
  ·exact ap1_pure E A S R K N a b c d s q n m l h
  ·exact ap2_pure E A S R K N a b c d s q n m l h
  ·exact ap3_pure E A S R K N a b c d s q n m l h
  ·exact ap4_pure E A S R K N a b c d s q n m l h
  ·exact ap5_pure E A S R K N a b c d s q n m l h
  ·exact ap6_pure E A S R K N a b c d s q n m l h
  ·exact ap7_pure E A S R K N a b c d s q n m l h
  ·exact ap8_pure E A S R K N a b c d s q n m l h
 ·exact ap0_pure E A S R K N k a b c d s q n m l hc
noncomputable def sp_apply:FSpec Tryz.prog where
 f:=43
 run:=fun
  |[.agg [v0,v1,v2,v3,v4,v5], .agg [.int .i64 k, .int .i64 a, .int .i64 b, .int .i64 c, .int .i64 d,v6,v7, .int .i64 n, .int .i64 m,v8]]=>(asL I v0:Option (List Int)).bind fun E=>(asL AcT v1:Option (List Acc.AcD)).bind fun A=>(asL LnT v2:Option (List Ln)).bind fun S=>(asL RTy v3:Option (List Rts.Rt)).bind fun R=>(asL Vl v4:Option (List Lck.Lk)).bind fun K=>(asL EnT v5:Option (List En)).bind fun N=>(boolOf v6).bind fun s=>(boolOf v7).bind fun q=>(asL LnT v8:Option (List Ln)).bind fun l=>some (Sm E A S R K N/\Ent.InL l, .tuple [.agg [.list .part I ((apF (E,A,S,R,K,N) (k,a,b,c,d,s,q,(n,m),l)).1.1), .list .part AcT ((apF (E,A,S,R,K,N) (k,a,b,c,d,s,q,(n,m),l)).1.2.1), .list .part LnT ((apF (E,A,S,R,K,N) (k,a,b,c,d,s,q,(n,m),l)).1.2.2.1), .list .part RTy ((apF (E,A,S,R,K,N) (k,a,b,c,d,s,q,(n,m),l)).1.2.2.2.1), .list .part Vl ((apF (E,A,S,R,K,N) (k,a,b,c,d,s,q,(n,m),l)).1.2.2.2.2.1), .list .part EnT ((apF (E,A,S,R,K,N) (k,a,b,c,d,s,q,(n,m),l)).1.2.2.2.2.2)], .int .i64 (apF (E,A,S,R,K,N) (k,a,b,c,d,s,q,(n,m),l)).2])
  |_=>none
 ok:=fun args pre r h hp=>by
  split at h
  ·rename_i v0 v1 v2 v3 v4 v5 k a b c d v6 v7 n m v8;obtain ⟨E,h0,h⟩:=Option.bind_eq_some_iff.1 h;obtain ⟨A,h1,h⟩:=Option.bind_eq_some_iff.1 h;obtain ⟨S,h2,h⟩:=Option.bind_eq_some_iff.1 h;obtain ⟨R,h3,h⟩:=Option.bind_eq_some_iff.1 h;obtain ⟨K,h4,h⟩:=Option.bind_eq_some_iff.1 h;obtain ⟨N,h5,h⟩:=Option.bind_eq_some_iff.1 h;obtain ⟨s,h6,h⟩:=Option.bind_eq_some_iff.1 h;obtain ⟨q,h7,h⟩:=Option.bind_eq_some_iff.1 h;obtain ⟨l,h8,h⟩:=Option.bind_eq_some_iff.1 h;exact of_q h hp fun h=>(ap_pure E A S R K N k a b c d s q n m l h).weak (.cons (.agg (.cons (asL_weak h0) (.cons (asL_weak h1) (.cons (asL_weak h2) (.cons (asL_weak h3) (.cons (asL_weak h4) (.cons (asL_weak h5) .nil))))))) (.cons (.agg (.cons (.refl _) (.cons (.refl _) (.cons (.refl _) (.cons (.refl _) (.cons (.refl _) (.cons (boolOf_weak h6) (.cons (boolOf_weak h7) (.cons (.refl _) (.cons (.refl _) (.cons (asL_weak h8) .nil))))))))))) .nil))
  ·cases h
end Go.Proofs.YtabicbgeoiilmaaGreatDoor.Dsk
