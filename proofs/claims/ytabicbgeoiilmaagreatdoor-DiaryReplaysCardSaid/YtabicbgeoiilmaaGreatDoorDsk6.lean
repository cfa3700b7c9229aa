import Derived.Test.YtabicbgeoiilmaaGreatDoorDsk5
noncomputable section
set_option linter.unusedVariables false
namespace Go.Proofs.YtabicbgeoiilmaaGreatDoor.Dsk
open Go.Vm
open Bks (En InE Sm)
def MZ (E:List Int) (A:List Acc.AcD) (S:List Ln) (R:List Rts.Rt) (K:List Lck.Lk) (N:List En) (k a b c d:Int) (s q:Bool) (n m:Int) (l:List Ln):Env where
 P:=Tryz.prog
 ty:=aJ
 specs:=ai [Cm.bA]
abbrev M0:Ann:={slots:=bB 0 [.list .part I, .list .part AcT, .list .part LnT, .list .part RTy, .list .part Vl, .list .part EnT, .int .i64],boxes:=[],inv:=fun _ _=>True}
def p9 (E:List Int) (A:List Acc.AcD) (S:List Ln) (R:List Rts.Rt) (K:List Lck.Lk) (N:List En) (k:Int) (a:Int) (b:Int) (c:Int) (d:Int) (s:Bool) (q:Bool) (n:Int) (m:Int) (l:List Ln):Prop:=
 True/\((!decide (Cm.ah (k,a,b,c,d,s,q,(n,m),l)=(0:Int)))=true->True/\([],[],[],[],[],[],Cm.ah (k,a,b,c,d,s,q,(n,m),l),())=((apF (E,A,S,R,K,N) (k,a,b,c,d,s,q,(n,m),l)).1.1,(apF (E,A,S,R,K,N) (k,a,b,c,d,s,q,(n,m),l)).1.2.1,(apF (E,A,S,R,K,N) (k,a,b,c,d,s,q,(n,m),l)).1.2.2.1,(apF (E,A,S,R,K,N) (k,a,b,c,d,s,q,(n,m),l)).1.2.2.2.1,(apF (E,A,S,R,K,N) (k,a,b,c,d,s,q,(n,m),l)).1.2.2.2.2.1,(apF (E,A,S,R,K,N) (k,a,b,c,d,s,q,(n,m),l)).1.2.2.2.2.2,(apF (E,A,S,R,K,N) (k,a,b,c,d,s,q,(n,m),l)).2,()))/\((!decide (Cm.ah (k,a,b,c,d,s,q,(n,m),l)=(0:Int)))=false->False)
theorem I6 (E:List Int) (A:List Acc.AcD) (S:List Ln) (R:List Rts.Rt) (K:List Lck.Lk) (N:List En) (k a b c d:Int) (s q:Bool) (n m:Int) (l:List Ln):jY (MZ E A S R K N k a b c d s q n m l) Tryz.f43 [.agg [.list .tmp I E, .list .tmp AcT A, .list .tmp LnT S, .list .tmp RTy R, .list .tmp Vl K, .list .tmp EnT N], .agg [.int .i64 k, .int .i64 a, .int .i64 b, .int .i64 c, .int .i64 d, .bool s, .bool q, .int .i64 n, .int .i64 m, .list .tmp LnT l]] [some 6,none] M0 ((apF (E,A,S,R,K,N) (k,a,b,c,d,s,q,(n,m),l)).1.1,(apF (E,A,S,R,K,N) (k,a,b,c,d,s,q,(n,m),l)).1.2.1,(apF (E,A,S,R,K,N) (k,a,b,c,d,s,q,(n,m),l)).1.2.2.1,(apF (E,A,S,R,K,N) (k,a,b,c,d,s,q,(n,m),l)).1.2.2.2.1,(apF (E,A,S,R,K,N) (k,a,b,c,d,s,q,(n,m),l)).1.2.2.2.2.1,(apF (E,A,S,R,K,N) (k,a,b,c,d,s,q,(n,m),l)).1.2.2.2.2.2,(apF (E,A,S,R,K,N) (k,a,b,c,d,s,q,(n,m),l)).2,())=p9 E A S R K N k a b c d s q n m l:=by kernel_rfl
theorem I7 (E:List Int) (A:List Acc.AcD) (S:List Ln) (R:List Rts.Rt) (K:List Lck.Lk) (N:List En) (k a b c d:Int) (s q:Bool) (n m:Int) (l:List Ln) (h: ¬Cm.ah (k,a,b,c,d,s,q,(n,m),l)=0):p9 E A S R K N k a b c d s q n m l:=by
 unfold p9;simp only [Q7,Q6,Rb,Rd,Rl,Rg];refine ⟨trivial,fun _=>⟨trivial, ?_⟩,fun hc=>absurd hc h⟩;rw [fG h];rfl
set_option maxRecDepth 20000
theorem I8 (E:List Int) (A:List Acc.AcD) (S:List Ln) (R:List Rts.Rt) (K:List Lck.Lk) (N:List En) (k a b c d:Int) (s q:Bool) (n m:Int) (l:List Ln) (h: ¬Cm.ah (k,a,b,c,d,s,q,(n,m),l)=0):Pure Tryz.prog 43 [.agg [.list .tmp I E, .list .tmp AcT A, .list .tmp LnT S, .list .tmp RTy R, .list .tmp Vl K, .list .tmp EnT N], .agg [.int .i64 k, .int .i64 a, .int .i64 b, .int .i64 c, .int .i64 d, .bool s, .bool q, .int .i64 n, .int .i64 m, .list .tmp LnT l]] (.tuple [.agg [.list .part I ((apF (E,A,S,R,K,N) (k,a,b,c,d,s,q,(n,m),l)).1.1), .list .part AcT ((apF (E,A,S,R,K,N) (k,a,b,c,d,s,q,(n,m),l)).1.2.1), .list .part LnT ((apF (E,A,S,R,K,N) (k,a,b,c,d,s,q,(n,m),l)).1.2.2.1), .list .part RTy ((apF (E,A,S,R,K,N) (k,a,b,c,d,s,q,(n,m),l)).1.2.2.2.1), .list .part Vl ((apF (E,A,S,R,K,N) (k,a,b,c,d,s,q,(n,m),l)).1.2.2.2.2.1), .list .part EnT ((apF (E,A,S,R,K,N) (k,a,b,c,d,s,q,(n,m),l)).1.2.2.2.2.2)], .int .i64 (apF (E,A,S,R,K,N) (k,a,b,c,d,s,q,(n,m),l)).2]):=
 by have k:=Pure.of_condG (r:=(.tuple [.agg [.list .part I ((apF (E,A,S,R,K,N) (k,a,b,c,d,s,q,(n,m),l)).1.1), .list .part AcT ((apF (E,A,S,R,K,N) (k,a,b,c,d,s,q,(n,m),l)).1.2.1), .list .part LnT ((apF (E,A,S,R,K,N) (k,a,b,c,d,s,q,(n,m),l)).1.2.2.1), .list .part RTy ((apF (E,A,S,R,K,N) (k,a,b,c,d,s,q,(n,m),l)).1.2.2.2.1), .list .part Vl ((apF (E,A,S,R,K,N) (k,a,b,c,d,s,q,(n,m),l)).1.2.2.2.2.1), .list .part EnT ((apF (E,A,S,R,K,N) (k,a,b,c,d,s,q,(n,m),l)).1.2.2.2.2.2)], .int .i64 (apF (E,A,S,R,K,N) (k,a,b,c,d,s,q,(n,m),l)).2])) (I6 E A S R K N k a b c d s q n m l) (I7 E A S R K N k a b c d s q n m l h) rfl (ab rfl [Cm.bA] [] rfl rfl) mixed Tryz.func43;exact k
theorem xh {c:Cm.CmD} (h:Cm.ah c=0):1<=c.1/\c.1<=8:=by
 unfold Cm.ah at h;split at h
 ·cases h
 ·omega
theorem M1 (E:List Int) (A:List Acc.AcD) (S:List Ln) (R:List Rts.Rt) (K:List Lck.Lk) (N:List En) (k a b c d:Int) (s q:Bool) (n m:Int) (l:List Ln) (h:Sm E A S R K N/\Ent.InL l):Pure Tryz.prog 43 [.agg [.list .tmp I E, .list .tmp AcT A, .list .tmp LnT S, .list .tmp RTy R, .list .tmp Vl K, .list .tmp EnT N], .agg [.int .i64 k, .int .i64 a, .int .i64 b, .int .i64 c, .int .i64 d, .bool s, .bool q, .int .i64 n, .int .i64 m, .list .tmp LnT l]] (.tuple [.agg [.list .part I ((apF (E,A,S,R,K,N) (k,a,b,c,d,s,q,(n,m),l)).1.1), .list .part AcT ((apF (E,A,S,R,K,N) (k,a,b,c,d,s,q,(n,m),l)).1.2.1), .list .part LnT ((apF (E,A,S,R,K,N) (k,a,b,c,d,s,q,(n,m),l)).1.2.2.1), .list .part RTy ((apF (E,A,S,R,K,N) (k,a,b,c,d,s,q,(n,m),l)).1.2.2.2.1), .list .part Vl ((apF (E,A,S,R,K,N) (k,a,b,c,d,s,q,(n,m),l)).1.2.2.2.2.1), .list .part EnT ((apF (E,A,S,R,K,N) (k,a,b,c,d,s,q,(n,m),l)).1.2.2.2.2.2)], .int .i64 (apF (E,A,S,R,K,N) (k,a,b,c,d,s,q,(n,m),l)).2]):=by
 by_cases hc:Cm.ah (k,a,b,c,d,s,q,(n,m),l)=0
 ·have hk:=xh hc;have hk:k=1∨k=2∨k=3∨k=4∨k=5∨k=6∨k=7∨k=8:=by simp only at hk;omega
  rcases hk with rfl|rfl|rfl|rfl|rfl|rfl|rfl|rfl
  ·exact II E A S R K N a b c d s q n m l h
  ·exact IL E A S R K N a b c d s q n m l h
  ·exact IP E A S R K N a b c d s q n m l h
  ·exact IT E A S R K N a b c d s q n m l h
  ·exact IW E A S R K N a b c d s q n m l h
  ·exact IZ E A S R K N a b c d s q n m l h
  ·exact I2 E A S R K N a b c d s q n m l h
  ·exact I5 E A S R K N a b c d s q n m l h
 ·exact I8 E A S R K N k a b c d s q n m l hc
def I9:FSpec Tryz.prog where
 f:=43
 run:=fun
  |[.agg [v0,v1,v2,v3,v4,v5], .agg [.int .i64 k, .int .i64 a, .int .i64 b, .int .i64 c, .int .i64 d,v6,v7, .int .i64 n, .int .i64 m,v8]]=>(asL I v0:Option (List Int)).bind fun E=>(asL AcT v1:Option (List Acc.AcD)).bind fun A=>(asL LnT v2:Option (List Ln)).bind fun S=>(asL RTy v3:Option (List Rts.Rt)).bind fun R=>(asL Vl v4:Option (List Lck.Lk)).bind fun K=>(asL EnT v5:Option (List En)).bind fun N=>(bC v6).bind fun s=>(bC v7).bind fun q=>(asL LnT v8:Option (List Ln)).bind fun l=>some (Sm E A S R K N/\Ent.InL l, .tuple [.agg [.list .part I ((apF (E,A,S,R,K,N) (k,a,b,c,d,s,q,(n,m),l)).1.1), .list .part AcT ((apF (E,A,S,R,K,N) (k,a,b,c,d,s,q,(n,m),l)).1.2.1), .list .part LnT ((apF (E,A,S,R,K,N) (k,a,b,c,d,s,q,(n,m),l)).1.2.2.1), .list .part RTy ((apF (E,A,S,R,K,N) (k,a,b,c,d,s,q,(n,m),l)).1.2.2.2.1), .list .part Vl ((apF (E,A,S,R,K,N) (k,a,b,c,d,s,q,(n,m),l)).1.2.2.2.2.1), .list .part EnT ((apF (E,A,S,R,K,N) (k,a,b,c,d,s,q,(n,m),l)).1.2.2.2.2.2)], .int .i64 (apF (E,A,S,R,K,N) (k,a,b,c,d,s,q,(n,m),l)).2])
  |_=>none
 ok:=fun args pre r h hp=>by
  split at h
  ·rename_i v0 v1 v2 v3 v4 v5 k a b c d v6 v7 n m v8;obtain ⟨E,h0,h⟩:=Ra.1 h;obtain ⟨A,h1,h⟩:=Ra.1 h;obtain ⟨S,h2,h⟩:=Ra.1 h;obtain ⟨R,h3,h⟩:=Ra.1 h;obtain ⟨K,h4,h⟩:=Ra.1 h;obtain ⟨N,h5,h⟩:=Ra.1 h;obtain ⟨s,h6,h⟩:=Ra.1 h;obtain ⟨q,h7,h⟩:=Ra.1 h;obtain ⟨l,h8,h⟩:=Ra.1 h;exact zU h hp fun h=>(M1 E A S R K N k a b c d s q n m l h).weak (.cons (.agg (.cons (aT h0) (.cons (aT h1) (.cons (aT h2) (.cons (aT h3) (.cons (aT h4) (.cons (aT h5) .nil))))))) (.cons (.agg (.cons (.refl _) (.cons (.refl _) (.cons (.refl _) (.cons (.refl _) (.cons (.refl _) (.cons (a_ h6) (.cons (a_ h7) (.cons (.refl _) (.cons (.refl _) (.cons (aT h8) .nil))))))))))) .nil))
  ·cases h
end Go.Proofs.YtabicbgeoiilmaaGreatDoor.Dsk
