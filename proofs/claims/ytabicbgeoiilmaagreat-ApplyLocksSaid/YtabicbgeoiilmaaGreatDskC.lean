/-
  ApplyLocks.
-/
import Derived.Test.YtabicbgeoiilmaaGreatPrt
import Derived.Test.YtabicbgeoiilmaaGreatUse1
set_option linter.unusedVariables false
section
namespace Go.Proofs.YtabicbgeoiilmaaGreat.Dsk
open Go.Vm
open Bks (En InE Sm ine_at ownP)
abbrev stC:List Cmd.CmD:=[(1,1,0,0,0,false,false,(0,0),[]),(1,2,0,0,0,false,false,(0,0),[]),(2,0,1,0,0,false,false,(0,0),[]),(2,0,2,0,0,true,false,(0,0),[]),(7,1,0,0,0,false,false,(0,0),[(1,4,0,5),(1,5,0, -5)])]
noncomputable def env_start:Env where
 P:=Tryz.prog
 ty:=tys1
abbrev ann_start:Ann:={slots:=numP 0 [.list .full CmT],boxes:=[],inv:=fun _ _=>True}
def g_start_vc:Prop:=
 True/\([((1:Int),(1:Int),(0:Int),(0:Int),(0:Int),false,false,((0:Int),(0:Int)),[]),((1:Int),(2:Int),(0:Int),(0:Int),(0:Int),false,false,((0:Int),(0:Int)),[]),((2:Int),(0:Int),(1:Int),(0:Int),(0:Int),false,false,((0:Int),(0:Int)),[]),((2:Int),(0:Int),(2:Int),(0:Int),(0:Int),true,false,((0:Int),(0:Int)),[]),((7:Int),(1:Int),(0:Int),(0:Int),(0:Int),false,false,((0:Int),(0:Int)),[((1:Int),(4:Int),(0:Int),(5:Int)),((1:Int),(5:Int),(0:Int),(-5:Int))])],())=(stC,())
theorem g_start_eq:CondG (env_start) Tryz.f26 [] [none] ann_start (stC,())=g_start_vc:=by kernel_rfl
theorem g_start_ok:g_start_vc:=by
 unfold g_start_vc;exact ⟨trivial,rfl⟩
set_option maxRecDepth 20000
theorem start_pure:Pure Tryz.prog 26 [] (.list .full CmT stC):=
 by have k:=Pure.of_condG (r:=(.list .full CmT stC)) (g_start_eq) (g_start_ok) rfl (specs_ok rfl [] [] rfl rfl) mixed Tryz.func26;exact k
noncomputable def q_start:Prop×V:=(True,(.list .full CmT stC))
noncomputable def sp_start:FSpec Tryz.prog where
 f:=26
 run:=fun
  |[]=>some (q_start)
  |_=>none
 ok:=fun args pre r h hp=>by
  split at h
  ·skip;exact of_q h hp fun h=>(start_pure).weak .nil
  ·cases h
noncomputable def env_awake:Env where
 P:=Tryz.prog
 ty:=tys1
 specs:=specsOf [Bks.sp_rnew,sp_start,sp_replay,sp_apply]
def g_awake_vc:Prop:=
 True/\True/\(Szn (500000:Nat) ([],Acc.ownL,[],[],[],[])/\stC.length<=(500000:Nat)/\InC stC)/\(Sm (repF ([],Acc.ownL,[],[],[],[]) stC).1.1 (repF ([],Acc.ownL,[],[],[],[]) stC).1.2.1 (repF ([],Acc.ownL,[],[],[],[]) stC).1.2.2.1 (repF ([],Acc.ownL,[],[],[],[]) stC).1.2.2.2.1 (repF ([],Acc.ownL,[],[],[],[]) stC).1.2.2.2.2.1 (repF ([],Acc.ownL,[],[],[],[]) stC).1.2.2.2.2.2/\Ent.InL [])/\(Sm (apF (repF ([],Acc.ownL,[],[],[],[]) stC).1 ((8:Int),(1:Int),(2:Int),(0:Int),(0:Int),false,false,((0:Int),(0:Int)),[])).1.1 (apF (repF ([],Acc.ownL,[],[],[],[]) stC).1 ((8:Int),(1:Int),(2:Int),(0:Int),(0:Int),false,false,((0:Int),(0:Int)),[])).1.2.1 (apF (repF ([],Acc.ownL,[],[],[],[]) stC).1 ((8:Int),(1:Int),(2:Int),(0:Int),(0:Int),false,false,((0:Int),(0:Int)),[])).1.2.2.1 (apF (repF ([],Acc.ownL,[],[],[],[]) stC).1 ((8:Int),(1:Int),(2:Int),(0:Int),(0:Int),false,false,((0:Int),(0:Int)),[])).1.2.2.2.1 (apF (repF ([],Acc.ownL,[],[],[],[]) stC).1 ((8:Int),(1:Int),(2:Int),(0:Int),(0:Int),false,false,((0:Int),(0:Int)),[])).1.2.2.2.2.1 (apF (repF ([],Acc.ownL,[],[],[],[]) stC).1 ((8:Int),(1:Int),(2:Int),(0:Int),(0:Int),false,false,((0:Int),(0:Int)),[])).1.2.2.2.2.2/\Ent.InL [])/\(Sm (repF ([],Acc.ownL,[],[],[],[]) stC).1.1 (repF ([],Acc.ownL,[],[],[],[]) stC).1.2.1 (repF ([],Acc.ownL,[],[],[],[]) stC).1.2.2.1 (repF ([],Acc.ownL,[],[],[],[]) stC).1.2.2.2.1 (repF ([],Acc.ownL,[],[],[],[]) stC).1.2.2.2.2.1 (repF ([],Acc.ownL,[],[],[],[]) stC).1.2.2.2.2.2/\Ent.InL [])/\(Sm (repF ([],Acc.ownL,[],[],[],[]) stC).1.1 (repF ([],Acc.ownL,[],[],[],[]) stC).1.2.1 (repF ([],Acc.ownL,[],[],[],[]) stC).1.2.2.1 (repF ([],Acc.ownL,[],[],[],[]) stC).1.2.2.2.1 (repF ([],Acc.ownL,[],[],[],[]) stC).1.2.2.2.2.1 (repF ([],Acc.ownL,[],[],[],[]) stC).1.2.2.2.2.2/\Ent.InL [])/\True/\(0<=(4:Int)/\(4:Int)<(↑stC.length:Int))/\∀(x:Int×Int×Int×Int×Int×Bool×Bool×(Int×Int)×List (Int×Int×Int×Int)),stC[Int.toNat (4:Int)]? =some x->(Sm (apF (repF ([],Acc.ownL,[],[],[],[]) stC).1 ((6:Int),(1:Int),(3:Int),(0:Int),(0:Int),false,false,((0:Int),(0:Int)),[])).1.1 (apF (repF ([],Acc.ownL,[],[],[],[]) stC).1 ((6:Int),(1:Int),(3:Int),(0:Int),(0:Int),false,false,((0:Int),(0:Int)),[])).1.2.1 (apF (repF ([],Acc.ownL,[],[],[],[]) stC).1 ((6:Int),(1:Int),(3:Int),(0:Int),(0:Int),false,false,((0:Int),(0:Int)),[])).1.2.2.1 (apF (repF ([],Acc.ownL,[],[],[],[]) stC).1 ((6:Int),(1:Int),(3:Int),(0:Int),(0:Int),false,false,((0:Int),(0:Int)),[])).1.2.2.2.1 (apF (repF ([],Acc.ownL,[],[],[],[]) stC).1 ((6:Int),(1:Int),(3:Int),(0:Int),(0:Int),false,false,((0:Int),(0:Int)),[])).1.2.2.2.2.1 (apF (repF ([],Acc.ownL,[],[],[],[]) stC).1 ((6:Int),(1:Int),(3:Int),(0:Int),(0:Int),false,false,((0:Int),(0:Int)),[])).1.2.2.2.2.2/\Ent.InL x.2.2.2.2.2.2.2.2)/\(Szn (500000:Nat) (repF ([],Acc.ownL,[],[],[],[]) stC).1/\(1:Nat)<=(500000:Nat)/\InC [((1:Int),(9:Int),(0:Int),(0:Int),(0:Int),false,false,((0:Int),(0:Int)),[])])/\(decide ((repF ([],Acc.ownL,[],[],[],[]) stC).2.1=(5:Int))=true->(decide ((repF ([],Acc.ownL,[],[],[],[]) stC).2.2=(0:Int))=true->(decide ((↑(repF ([],Acc.ownL,[],[],[],[]) stC).1.1.length:Int)=(2:Int))=true->(decide ((↑(repF ([],Acc.ownL,[],[],[],[]) stC).1.2.1.length:Int)=(5:Int))=true->(decide ((↑(repF ([],Acc.ownL,[],[],[],[]) stC).1.2.2.2.2.2.length:Int)=(1:Int))=true->(decide ((apF (repF ([],Acc.ownL,[],[],[],[]) stC).1 ((8:Int),(1:Int),(2:Int),(0:Int),(0:Int),false,false,((0:Int),(0:Int)),[])).2=(0:Int))=true->(decide ((↑(apF (repF ([],Acc.ownL,[],[],[],[]) stC).1 ((8:Int),(1:Int),(2:Int),(0:Int),(0:Int),false,false,((0:Int),(0:Int)),[])).1.2.2.2.2.2.length:Int)=(2:Int))=true->(0<=(1:Int)/\(1:Int)<(↑(apF (repF ([],Acc.ownL,[],[],[],[]) stC).1 ((8:Int),(1:Int),(2:Int),(0:Int),(0:Int),false,false,((0:Int),(0:Int)),[])).1.2.2.2.2.2.length:Int))/\∀(x_1:Int×Int×List (Int×Int×Int×Int)),(apF (repF ([],Acc.ownL,[],[],[],[]) stC).1 ((8:Int),(1:Int),(2:Int),(0:Int),(0:Int),false,false,((0:Int),(0:Int)),[])).1.2.2.2.2.2[Int.toNat (1:Int)]? =some x_1->(decide (x_1.2.1=(1:Int))=true->(decide ((apF (apF (repF ([],Acc.ownL,[],[],[],[]) stC).1 ((8:Int),(1:Int),(2:Int),(0:Int),(0:Int),false,false,((0:Int),(0:Int)),[])).1 ((8:Int),(1:Int),(2:Int),(0:Int),(0:Int),false,false,((0:Int),(0:Int)),[])).2=(35:Int))=true->(decide ((apF (repF ([],Acc.ownL,[],[],[],[]) stC).1 ((2:Int),(4:Int),(1:Int),(0:Int),(0:Int),false,false,((0:Int),(0:Int)),[])).2=(29:Int))=true->(decide ((apF (repF ([],Acc.ownL,[],[],[],[]) stC).1 ((6:Int),(1:Int),(3:Int),(0:Int),(0:Int),false,false,((0:Int),(0:Int)),[])).2=(0:Int))=true->(decide ((apF (apF (repF ([],Acc.ownL,[],[],[],[]) stC).1 ((6:Int),(1:Int),(3:Int),(0:Int),(0:Int),false,false,((0:Int),(0:Int)),[])).1 x).2=(33:Int))=true->(decide ((repF (repF ([],Acc.ownL,[],[],[],[]) stC).1 [((1:Int),(9:Int),(0:Int),(0:Int),(0:Int),false,false,((0:Int),(0:Int)),[])]).2.1=(0:Int))=true->(decide ((repF (repF ([],Acc.ownL,[],[],[],[]) stC).1 [((1:Int),(9:Int),(0:Int),(0:Int),(0:Int),false,false,((0:Int),(0:Int)),[])]).2.2=(23:Int)),())=(true,()))/\(decide ((repF (repF ([],Acc.ownL,[],[],[],[]) stC).1 [((1:Int),(9:Int),(0:Int),(0:Int),(0:Int),false,false,((0:Int),(0:Int)),[])]).2.1=(0:Int))= !true->(false,())=(true,())))/\(decide ((apF (apF (repF ([],Acc.ownL,[],[],[],[]) stC).1 ((6:Int),(1:Int),(3:Int),(0:Int),(0:Int),false,false,((0:Int),(0:Int)),[])).1 x).2=(33:Int))= !true->(false,())=(true,())))/\(decide ((apF (repF ([],Acc.ownL,[],[],[],[]) stC).1 ((6:Int),(1:Int),(3:Int),(0:Int),(0:Int),false,false,((0:Int),(0:Int)),[])).2=(0:Int))= !true->(false,())=(true,())))/\(decide ((apF (repF ([],Acc.ownL,[],[],[],[]) stC).1 ((2:Int),(4:Int),(1:Int),(0:Int),(0:Int),false,false,((0:Int),(0:Int)),[])).2=(29:Int))= !true->(false,())=(true,())))/\(decide ((apF (apF (repF ([],Acc.ownL,[],[],[],[]) stC).1 ((8:Int),(1:Int),(2:Int),(0:Int),(0:Int),false,false,((0:Int),(0:Int)),[])).1 ((8:Int),(1:Int),(2:Int),(0:Int),(0:Int),false,false,((0:Int),(0:Int)),[])).2=(35:Int))= !true->(false,())=(true,())))/\(decide (x_1.2.1=(1:Int))= !true->(false,())=(true,())))/\(decide ((↑(apF (repF ([],Acc.ownL,[],[],[],[]) stC).1 ((8:Int),(1:Int),(2:Int),(0:Int),(0:Int),false,false,((0:Int),(0:Int)),[])).1.2.2.2.2.2.length:Int)=(2:Int))= !true->(false,())=(true,())))/\(decide ((apF (repF ([],Acc.ownL,[],[],[],[]) stC).1 ((8:Int),(1:Int),(2:Int),(0:Int),(0:Int),false,false,((0:Int),(0:Int)),[])).2=(0:Int))= !true->(false,())=(true,())))/\(decide ((↑(repF ([],Acc.ownL,[],[],[],[]) stC).1.2.2.2.2.2.length:Int)=(1:Int))= !true->(false,())=(true,())))/\(decide ((↑(repF ([],Acc.ownL,[],[],[],[]) stC).1.2.1.length:Int)=(5:Int))= !true->(false,())=(true,())))/\(decide ((↑(repF ([],Acc.ownL,[],[],[],[]) stC).1.1.length:Int)=(2:Int))= !true->(false,())=(true,())))/\(decide ((repF ([],Acc.ownL,[],[],[],[]) stC).2.2=(0:Int))= !true->(false,())=(true,())))/\(decide ((repF ([],Acc.ownL,[],[],[],[]) stC).2.1=(5:Int))= !true->(false,())=(true,()))
theorem g_awake_eq:Cond (env_awake) Tryz.f8 [] [.bool] (true,())=g_awake_vc:=by kernel_rfl
def inlB (L:List Ln):Bool:=L.all fun z=>decide (-9223372036854775808<=z.2.2.2/\z.2.2.2<=9223372036854775807)
theorem inl_dec {L:List Ln} (h:inlB L=true):Ent.InL L:=fun z hz=>by
 have k:=List.all_eq_true.1 h z hz;exact of_decide_eq_true (p:= -9223372036854775808<=z.2.2.2/\z.2.2.2<=9223372036854775807) k
theorem ine_dec {N:List En} (h:(N.all fun x=>inlB x.2.2&&decide (x.2.2.length<=1000))=true):InE N:=fun x hx=>by
 have k:=List.all_eq_true.1 h x hx;rw [Bool.and_eq_true] at k;exact ⟨inl_dec k.1,of_decide_eq_true k.2⟩
theorem inc_dec {l:List Cmd.CmD} (h:(l.all fun c=>inlB (Cmd.linesF c))=true):InC l:=fun c hc=>inl_dec (List.all_eq_true.1 h c hc)
def stB:Bk:=([1,2],[(0,1,true,false),(0,1,false,false),(0,1,false,false),(0,1,false,false),(0,2,true,false)],[],[],[],[(1,0,[(1,4,0,5),(1,5,0, -5)])])
def stV:Bk:=([1,2],[(0,1,true,false),(0,1,false,false),(0,1,false,false),(0,1,false,false),(0,2,true,false)],[],[],[],[(1,0,[(1,4,0,5),(1,5,0, -5)]),(2,1,[(1,4,0, -5),(1,5,0,5)])])
def stL:Bk:=([1,2],[(0,1,true,false),(0,1,false,false),(0,1,false,false),(0,1,false,false),(0,2,true,false)],[],[],[(1,3)],[(1,0,[(1,4,0,5),(1,5,0, -5)])])
theorem r0:repF ([],Acc.ownL,[],[],[],[]) stC=(stB,5,0):=by kernel_rfl
theorem r1:apF stB (8,1,2,0,0,false,false,(0,0),[])=(stV,0):=by kernel_rfl
theorem r2:apF stV (8,1,2,0,0,false,false,(0,0),[])=(bk0,35):=by kernel_rfl
theorem r3:apF stB (2,4,1,0,0,false,false,(0,0),[])=(bk0,29):=by kernel_rfl
theorem r4:apF stB (6,1,3,0,0,false,false,(0,0),[])=(stL,0):=by kernel_rfl
theorem r5:apF stL (7,1,0,0,0,false,false,(0,0),[(1,4,0,5),(1,5,0, -5)])=(bk0,33):=by kernel_rfl
theorem r6:repF stB [(1,9,0,0,0,false,false,(0,0),[])]=(stB,0,23):=by kernel_rfl
theorem bk_eta (B:Bk):(B.1,B.2.1,B.2.2.1,B.2.2.2.1,B.2.2.2.2.1,B.2.2.2.2.2)=B:=rfl
theorem szB:Szn 1000 stB:=⟨by decide,by decide,by decide,by decide,by decide,by decide,ine_dec (by decide)⟩
theorem szV:Szn 1000 stV:=⟨by decide,by decide,by decide,by decide,by decide,by decide,ine_dec (by decide)⟩
theorem szL:Szn 1000 stL:=⟨by decide,by decide,by decide,by decide,by decide,by decide,ine_dec (by decide)⟩
theorem g_awake_ok:g_awake_vc:=by
 unfold g_awake_vc;simp only [r0];simp only [bk_eta,r1,r4,r6];refine ⟨trivial,trivial,⟨⟨by decide,by decide,by decide,by decide,by decide,by decide,fun x h=>by cases h⟩,by decide,inc_dec (by decide)⟩,⟨sm_of szB (by decide),inl_dec rfl⟩,⟨sm_of szV (by decide),inl_dec rfl⟩,⟨sm_of szB (by decide),inl_dec rfl⟩,⟨sm_of szB (by decide),inl_dec rfl⟩,trivial,by decide,fun x hx=> ?_⟩;have e:x=(7,1,0,0,0,false,false,(0,0),[(1,4,0,5),(1,5,0, -5)]):=(Option.some.inj hx).symm;subst e;dsimp only;simp only [r2,r3,r5];refine ⟨⟨sm_of szL (by decide),inl_dec rfl⟩,⟨⟨by decide,by decide,by decide,by decide,by decide,by decide,szB.2.2.2.2.2.2⟩,by decide,inc_dec (by decide)⟩, ?_⟩;dsimp only [stB,stV];simp
theorem awake_pure:Pure Tryz.prog 8 [] (.bool true):=
 by have k:=Pure.of_cond (g_awake_eq) (g_awake_ok) (specs_ok rfl [Bks.sp_rnew,sp_start,sp_replay,sp_apply] [] rfl rfl) mixed Tryz.func8;exact k
noncomputable def q_awake:Prop×V:=(True,(.bool true))
noncomputable def sp_awake:FSpec Tryz.prog where
 f:=8
 run:=fun
  |[]=>some (q_awake)
  |_=>none
 ok:=fun args pre r h hp=>by
  split at h
  ·skip;exact of_q h hp fun h=>(awake_pure).weak .nil
  ·cases h
end Go.Proofs.YtabicbgeoiilmaaGreat.Dsk
end
section
namespace Go.Proofs.YtabicbgeoiilmaaGreat.Dsk
open Go.Vm
open Bks (En InE Sm ine_at ownP Ok fewF sameB)
theorem szn_few {E:List Int} {A:List Acc.AcD} {S:List Ln} {R:List Rts.Rt} {K:List Lck.Lk} {N:List En} (h:Ok E A S R K N) (hf:fewF E A S R K N=true):Szn 65 (E,A,S,R,K,N):=by
 have hi:=(Bks.sm_few E A S R K N h hf).2.2.2.2.2.2;unfold fewF Bks.few24 at hf;simp only [Bool.and_eq_true,decide_eq_true_eq,Bool.not_eq_true'] at hf;obtain ⟨h1,h2,h3,h4,h5,h6,h7⟩:=hf;exact ⟨by dsimp only;omega,by dsimp only;omega,by dsimp only;omega,by dsimp only;omega,by dsimp only;omega,by dsimp only;omega,hi⟩
set_option maxRecDepth 20000
end Go.Proofs.YtabicbgeoiilmaaGreat.Dsk
end
section
namespace Go.Proofs.YtabicbgeoiilmaaGreat.Dsk
open Go.Vm
open Bks (En InE Sm ine_at ownP Ok fewF sameB)
def LkI (B:Bk) (c:Cmd.CmD) (x:List Acc.AcD×Int×Int×List Ln):Prop:=x.1=(apF B c).1.2.1/\(apF B c).1.2.2.2.2.2[B.2.2.2.2.2.length]? =some x.2
def Fine (A:List Acc.AcD) (K:List Lck.Lk) (x:En):Prop:= ∀z∈x.2.2,[z.1].any (Lck.lkP K x.1)=false/\3<z.2.1/\Acc.leafF A z.2.1=true
theorem put_fine {A:List Acc.AcD} {K:List Lck.Lk} {N:List En} {x:En} (h:(putF K N x).2=0) (ho:x.2.2.any ownP=false) (hl:x.2.2.any (nleaf A)=false):(putF K N x).1=N++[x]/\Fine A K x:=by
 by_cases c:(Ent.entsF x.2.2).any (Lck.lkP K x.1)=true
 ·rw [put_lock c] at h;have h:(33:Int)=0:=h;exact absurd h (by decide)
 ·have c:=Bool.eq_false_iff.2 c;by_cases k:2000<=(N.length:Int)
  ·rw [put_full c k] at h;have h:(3:Int)=0:=h;exact absurd h (by decide)
  ·rw [put_ok c k];refine ⟨rfl,fun z hz=>⟨?_, ?_, ?_⟩⟩
   ·have k1:=List.any_eq_false.1 c z.1 (Ent.mem_entsF.2 ⟨z,hz,rfl⟩);rw [List.any_eq_false];intro e he;rw [List.mem_singleton.1 he];exact k1
   ·have k1:=List.any_eq_false.1 ho z hz;unfold ownP at k1;rw [decide_eq_true_eq] at k1;omega
   ·have k1:=List.any_eq_false.1 hl z hz;unfold nleaf at k1;cases e:Acc.leafF A z.2.1 with
    |true=>rfl
    |false=>rw [e] at k1;exact absurd rfl k1
theorem fin_zero {e:Int} {B:Bk} (h:(fin e B).2=0):e=0:=by
 by_cases c:e=0
 ·exact c
 ·rw [fin_bad c] at h;exact h
theorem fin_inv {e:Int} {B:Bk} (h:(fin e B).2=0):fin e B=(B,0):=fin_ok (fin_zero h)
theorem ap_posts {E:List Int} {A:List Acc.AcD} {S:List Ln} {R:List Rts.Rt} {K:List Lck.Lk} {N:List En} {c:Cmd.CmD} (hch:(Bks.checkF E A S R K N).2.2=0) (h:(apF (E,A,S,R,K,N) c).2=0):(apF (E,A,S,R,K,N) c).1.2.2.2.2.2.length=N.length∨∃x,(apF (E,A,S,R,K,N) c).1.2.1=A/\(apF (E,A,S,R,K,N) c).1.2.2.2.2.2=N++[x]/\Fine A K x:=by
 obtain ⟨k,a,b,c,d,s,q,⟨m1,m2⟩,l⟩:=c;by_cases hc:Cmd.checkF (k,a,b,c,d,s,q,(m1,m2),l)=0
 ·rw [ap_eq hc] at h⊢;unfold doF at h⊢;dsimp only at h⊢;by_cases k1:k=1
  ·rw [if_pos k1] at h⊢;rw [fin_inv h];exact .inl rfl
  rw [if_neg k1] at h⊢;by_cases k1:k=2
  ·rw [if_pos k1] at h⊢;rw [fin_inv h];exact .inl rfl
  rw [if_neg k1] at h⊢;by_cases k1:k=3
  ·rw [if_pos k1] at h⊢;rw [fin_inv h];exact .inl rfl
  rw [if_neg k1] at h⊢;by_cases k1:k=4
  ·rw [if_pos k1] at h⊢;rw [fin_inv h];exact .inl rfl
  rw [if_neg k1] at h⊢;by_cases k1:k=5
  ·rw [if_pos k1] at h⊢;rw [fin_inv h];exact .inl rfl
  rw [if_neg k1] at h⊢;by_cases k1:k=6
  ·rw [if_pos k1] at h⊢;rw [fin_inv h];exact .inl rfl
  rw [if_neg k1] at h⊢;by_cases k1:k=7
  ·rw [if_pos k1] at h⊢;have he:=fin_zero h;rw [fin_inv h];refine .inr ?_;dsimp only;by_cases k2:(Ent.checkF a l E.length A.length).2=0
   ·cases o:l.any ownP with
    |true=>
     rw [po_own k2 o] at he;have he:(28:Int)=0:=he;exact absurd he (by decide)
    |false=>
     cases f:l.any (nleaf A) with
     |true=>
      rw [po_leaf k2 o f] at he;have he:(27:Int)=0:=he;exact absurd he (by decide)
     |false=>
      rw [po_put k2 o f] at he⊢;have k3:=put_fine he o f;exact ⟨(a,0,l),rfl,k3.1,k3.2⟩
   ·rw [po_bad k2] at he;exact absurd he k2
  ·rw [if_neg k1] at h⊢;have he:=fin_zero h;rw [fin_inv h];refine .inr ?_;dsimp only;by_cases p:b<0∨24<=b
   ·rw [rv_per p] at he;have he:(22:Int)=0:=he;exact absurd he (by decide)
   by_cases m:mayF N a=0
   ·have hin:=may_in m;obtain ⟨y,hy⟩: ∃y,N[(a-1).toNat]? =some y:=⟨_,List.getElem?_eq_getElem (by omega)⟩
    have ho:=may_zero m hy;rw [rv_ok p m hy ho] at he⊢;have hp:=(Bks.ent_parts (Bks.ent_ok (Bks.ok_parts hch).2.2.2.2.2 (a-1).toNat y hy)).2.1;have e:(Ent.oppF y.1 y.2.1 y.2.2).1.2.2=y.2.2.map Ent.negLn:=by
     unfold Ent.oppF at ho⊢;split
     ·rename_i k2;rw [if_pos k2] at ho;have ho:(10:Int)=0:=ho;exact absurd ho (by decide)
     ·rfl
    rw [e] at he⊢;have h1:y.2.2.any ownP=false/\y.2.2.any (nleaf A)=false:=by
     cases o:y.2.2.any ownP with
     |true=>rw [Bks.placed_28 o] at hp;exact absurd hp (by decide)
     |false=>
      refine ⟨rfl, ?_⟩;unfold Bks.placedF at hp;rw [if_neg (by rw [o];decide),placed_leaf] at hp;cases f:y.2.2.any (nleaf A) with
      |true=>rw [if_pos f] at hp;exact absurd hp (by decide)
      |false=>rfl
    have k3:=put_fine (A:=A) he ((List.any_map ..).trans h1.1) ((List.any_map ..).trans h1.2);exact ⟨(b,a,y.2.2.map Ent.negLn),rfl,k3.1,k3.2⟩
   ·rw [rv_may p m] at he;exact absurd he m
 ·rw [ap_bad hc] at h;exact absurd h hc
noncomputable def env_locks (E:List Int) (A:List Acc.AcD) (S:List Ln) (R:List Rts.Rt) (K:List Lck.Lk) (N:List En) (k a b c d:Int) (s q:Bool) (n m:Int) (l:List Ln):Env where
 P:=Tryz.prog
 ty:=tys1
 specs:=specsOf [Bks.sp_few,sp_awake,Bks.sp_check,sp_apply,Lck.sp_locked,Acc.sp_pleaf]
 heads:=fun|13=>some {slots:=[(11, .int .i64)],boxes:=[(8,[.any, .list .part AcT, .any, .any, .any, .any]),(10,[.int .i64, .int .i64, .list .part LnT])],keep:=[2],drop:=[3,5,6,7,9,12,13,14,15,16,17,18,19,20,21,22,23,24,25,26,27,28,29,30,31,32,33,34,35,36,37,38,39,40,41,42,43,44,45,46,47,48,49,50,51,52,53,54,55,56,57,58,77,60,66,69,71,73,75,80,85,87],inv:=fun _ (x:Int×Unit×List Acc.AcD×Unit×Unit×Unit×Unit×Int×Int×List Ln×Unit)=>0<=x.1/\x.1<=x.2.2.2.2.2.2.2.2.2.1.length/\LkI (E,A,S,R,K,N) (k,a,b,c,d,s,q,(n,m),l) (x.2.2.1,x.2.2.2.2.2.2.2.1,x.2.2.2.2.2.2.2.2.1,x.2.2.2.2.2.2.2.2.2.1),measure:=fun _ (x:Int×Unit×List Acc.AcD×Unit×Unit×Unit×Unit×Int×Int×List Ln×Unit)=>(x.2.2.2.2.2.2.2.2.2.1.length-x.1).toNat}|_=>none
abbrev bx_locks_1 (E:List Int) (A:List Acc.AcD) (S:List Ln) (R:List Rts.Rt) (K:List Lck.Lk) (N:List En):_root_.Go.Vm.Obj:=Obj.box [V.list LK.part I E,V.list LK.part AcT A,V.list LK.part LnT S,V.list LK.part RTy R,V.list LK.part Vl K,V.list LK.part EnT N]
def g_locks_vc (E:List Int) (A:List Acc.AcD) (S:List Ln) (R:List Rts.Rt) (K:List Lck.Lk) (N:List En) (k:Int) (a:Int) (b:Int) (c:Int) (d:Int) (s:Bool) (q:Bool) (n:Int) (m:Int) (l:List Ln):Prop:=
 N.length<=(9223372036854775807:Nat)/\((!fewF E A S R K N)=true->True/\(true,())=(true,()))/\((!fewF E A S R K N)=false->Sm E A S R K N/\((!decide ((Bks.checkF E A S R K N).2.2=(0:Int)))=true->True/\(true,())=(true,()))/\((!decide ((Bks.checkF E A S R K N).2.2=(0:Int)))=false->(Sm E A S R K N/\Ent.InL l)/\((!decide ((apF (E,A,S,R,K,N) (k,a,b,c,d,s,q,(n,m),l)).2=(0:Int)))=false->(decide ((↑(apF (E,A,S,R,K,N) (k,a,b,c,d,s,q,(n,m),l)).1.2.2.2.2.2.length:Int)=(↑N.length:Int))=true->True/\(true,())=(true,()))/\(decide ((↑(apF (E,A,S,R,K,N) (k,a,b,c,d,s,q,(n,m),l)).1.2.2.2.2.2.length:Int)=(↑N.length:Int))=false->(-9223372036854775808<=(↑N.length:Int)+1/\(↑N.length:Int)+1<=9223372036854775807)/\((!decide ((↑(apF (E,A,S,R,K,N) (k,a,b,c,d,s,q,(n,m),l)).1.2.2.2.2.2.length:Int)=(↑N.length:Int)+1))=true->(false,())=(true,()))/\((!decide ((↑(apF (E,A,S,R,K,N) (k,a,b,c,d,s,q,(n,m),l)).1.2.2.2.2.2.length:Int)=(↑N.length:Int)+1))=false->(0<=(↑N.length:Int)/\(↑N.length:Int)<(↑(apF (E,A,S,R,K,N) (k,a,b,c,d,s,q,(n,m),l)).1.2.2.2.2.2.length:Int))/\∀(x:Int×Int×List (Int×Int×Int×Int)),(apF (E,A,S,R,K,N) (k,a,b,c,d,s,q,(n,m),l)).1.2.2.2.2.2[(↑N.length:Int).toNat]? =some x->((some (bx_locks_1 E A S R K N)=some (bx_locks_1 E A S R K N)/\True)/\0<=(0:Int)/\0<=(↑x.2.2.length:Int)/\LkI (E,A,S,R,K,N) (k,a,b,c,d,s,q,(n,m),l) ((apF (E,A,S,R,K,N) (k,a,b,c,d,s,q,(n,m),l)).1.2.1,x.1,x.2.1,x.2.2))/\∀(x:Int×Unit×List (Int×Int×Bool×Bool)×Unit×Unit×Unit×Unit×Int×Int×List (Int×Int×Int×Int)×Unit),0<=x.1/\x.1<=(↑x.2.2.2.2.2.2.2.2.2.1.length:Int)/\LkI (E,A,S,R,K,N) (k,a,b,c,d,s,q,(n,m),l) (x.2.2.1,x.2.2.2.2.2.2.2.1,x.2.2.2.2.2.2.2.2.1,x.2.2.2.2.2.2.2.2.2.1)->(decide (x.1<(↑x.2.2.2.2.2.2.2.2.2.1.length:Int))=true->(0<=x.1/\x.1<(↑x.2.2.2.2.2.2.2.2.2.1.length:Int))/\∀(x_1:Int×Int×Int×Int),x.2.2.2.2.2.2.2.2.2.1[x.1.toNat]? =some x_1->((1:Nat)<=(1000000000:Nat)/\K.length<=(1000000000:Nat))/\([x_1.1].any (Lck.lkP K x.2.2.2.2.2.2.2.1)=false->(decide (x_1.2.1<=(3:Int))=false->x.2.2.1.length<=(1000000000:Nat)/\((!Acc.leafF x.2.2.1 x_1.2.1)=true->(false,())=(true,()))/\((!Acc.leafF x.2.2.1 x_1.2.1)=false->(-9223372036854775808<=x.1+1/\x.1+1<=9223372036854775807)/\(some (bx_locks_1 E A S R K N)=some (bx_locks_1 E A S R K N)/\True)/\(0<=x.1+1/\x.1+1<=(↑x.2.2.2.2.2.2.2.2.2.1.length:Int)/\LkI (E,A,S,R,K,N) (k,a,b,c,d,s,q,(n,m),l) (x.2.2.1,x.2.2.2.2.2.2.2.1,x.2.2.2.2.2.2.2.2.1,x.2.2.2.2.2.2.2.2.2.1))/\((↑x.2.2.2.2.2.2.2.2.2.1.length:Int)-(x.1+1)).toNat<((↑x.2.2.2.2.2.2.2.2.2.1.length:Int)-x.1).toNat))/\(decide (x_1.2.1<=(3:Int))= !false->(false,())=(true,())))/\([x_1.1].any (Lck.lkP K x.2.2.2.2.2.2.2.1)= !false->(false,())=(true,())))/\(decide (x.1<(↑x.2.2.2.2.2.2.2.2.2.1.length:Int))=false->True/\(true,())=(true,())))))/\((!decide ((apF (E,A,S,R,K,N) (k,a,b,c,d,s,q,(n,m),l)).2=(0:Int)))= !false->True/\(true,())=(true,()))))
theorem g_locks_eq (E:List Int) (A:List Acc.AcD) (S:List Ln) (R:List Rts.Rt) (K:List Lck.Lk) (N:List En) (k a b c d:Int) (s q:Bool) (n m:Int) (l:List Ln):Cond (env_locks E A S R K N k a b c d s q n m l) Tryz.f5 [.agg [.list .part I E, .list .part AcT A, .list .part LnT S, .list .part RTy R, .list .part Vl K, .list .part EnT N], .agg [.int .i64 k, .int .i64 a, .int .i64 b, .int .i64 c, .int .i64 d, .bool s, .bool q, .int .i64 n, .int .i64 m, .list .part LnT l]] [.bool] (true,())=g_locks_vc E A S R K N k a b c d s q n m l:=by kernel_rfl
theorem g_locks_ok (E:List Int) (A:List Acc.AcD) (S:List Ln) (R:List Rts.Rt) (K:List Lck.Lk) (N:List En) (k a b c d:Int) (s q:Bool) (n m:Int) (l:List Ln) (h:Ok E A S R K N/\Ent.InL l):g_locks_vc E A S R K N k a b c d s q n m l:=by
 obtain ⟨h,hL⟩:=h;unfold g_locks_vc;simp only [decide_eq_true_eq,decide_eq_false_iff_not,Bool.not_eq_true',Bool.not_eq_false',Bool.not_true,Bool.not_false];refine ⟨h.1,fun _=>by trivial,fun hf=> ?_⟩;have hs:=Bks.sm_few E A S R K N h hf;have hs2:=hs;obtain ⟨l1,l2,l3,l4,l5,l6,hi⟩:=hs2;refine ⟨hs,fun _=>by trivial,fun hch=>⟨⟨hs,hL⟩,fun he=>⟨fun _=>by trivial,fun hne=>⟨⟨by omega,by omega⟩,fun hb=> ?_,fun hlen=> ?_⟩⟩,fun _=>by trivial⟩⟩
 ·exfalso;rcases ap_posts hch he with hz|⟨x, -,hx, -⟩
  ·exact hne (by rw [hz])
  ·rw [hx,List.length_append,List.length_singleton] at hb;exact hb (by omega)
 ·obtain ⟨x',hA,hx',hF⟩:=(ap_posts hch he).resolve_left (fun hz=>hne (by rw [hz]));refine ⟨⟨by omega,by omega⟩,fun x hx=>⟨⟨by trivial,by omega,by omega,rfl,hx⟩, ?_⟩⟩;rintro ⟨i,⟨⟩,A1,⟨⟩,⟨⟩,⟨⟩,⟨⟩,p,r,L,⟨⟩⟩ ⟨h0,h1,hI⟩;dsimp only at h0 h1 hI⊢;have e1:A1=A:=hI.1.trans hA;have e2:x'=(p,r,L):=by
   have k:=hI.2;dsimp only at k;rw [hx',List.getElem?_concat_length] at k;exact Option.some.inj k
  subst e1;subst e2;have hz9:=ap_sz (c:=(k,a,b,c,d,s,q,(n,m),l)) (szn_few h hf) hL;have hL2:L.length<=1000:=(hz9.2.2.2.2.2.2 (p,r,L) (List.mem_of_getElem? hI.2)).2;refine ⟨fun hi=>⟨⟨h0,hi⟩,fun z hz=> ?_⟩,fun _=>by trivial⟩;obtain ⟨f1,f2,f3⟩:=hF z (List.mem_of_getElem? hz);dsimp only at f1;refine ⟨⟨by omega,by omega⟩,fun _=>⟨fun h3=>⟨by omega,fun hn=> ?_,fun _=>⟨⟨by omega,by omega⟩,by trivial,⟨by omega,by omega,hI⟩,by omega⟩⟩,fun h3=> ?_⟩,fun hk=> ?_⟩
  ·rw [f3] at hn;cases hn
  ·omega
  ·rw [f1] at hk;cases hk
set_option maxRecDepth 20000
theorem locks_pure (E:List Int) (A:List Acc.AcD) (S:List Ln) (R:List Rts.Rt) (K:List Lck.Lk) (N:List En) (k a b c d:Int) (s q:Bool) (n m:Int) (l:List Ln) (h:Ok E A S R K N/\Ent.InL l):Pure Tryz.prog 5 [.agg [.list .part I E, .list .part AcT A, .list .part LnT S, .list .part RTy R, .list .part Vl K, .list .part EnT N], .agg [.int .i64 k, .int .i64 a, .int .i64 b, .int .i64 c, .int .i64 d, .bool s, .bool q, .int .i64 n, .int .i64 m, .list .part LnT l]] (.bool true):=
 by have k:=Pure.of_cond (g_locks_eq E A S R K N k a b c d s q n m l) (g_locks_ok E A S R K N k a b c d s q n m l h) (specs_ok rfl [Bks.sp_few,sp_awake,Bks.sp_check,sp_apply,Lck.sp_locked,Acc.sp_pleaf] [] rfl rfl) mixed Tryz.func5;exact k
end Go.Proofs.YtabicbgeoiilmaaGreat.Dsk
end
