/-
  ApplyLocks.
-/
import Derived.Test.YtabicbgeoiilmaaGreatPrt
import Derived.Test.YtabicbgeoiilmaaGreatUse1
set_option linter.unusedVariables false
section
namespace Go.Proofs.YtabicbgeoiilmaaGreat.Dsk
open Go.Vm
open Bks (En InE Sm ine_at ownP)
abbrev stC:List Cmd.CmD:=[(1,1,0,0,0,false,false,(0,0),[]),(1,2,0,0,0,false,false,(0,0),[]),(2,0,1,0,0,false,false,(0,0),[]),(2,0,2,0,0,true,false,(0,0),[]),(7,1,0,0,0,false,false,(0,0),[(1,4,0,5),(1,5,0, -5)])]
noncomputable def env_start:Env where
 P:=Tryz.prog
 ty:=tys1
abbrev ann_start:Ann:={slots:=numP 0 [.list .full CmT],boxes:=[],inv:=fun _ _=>True}
def g_start_vc:Prop:=
 True/\([((1:Int),(1:Int),(0:Int),(0:Int),(0:Int),false,false,((0:Int),(0:Int)),[]),((1:Int),(2:Int),(0:Int),(0:Int),(0:Int),false,false,((0:Int),(0:Int)),[]),((2:Int),(0:Int),(1:Int),(0:Int),(0:Int),false,false,((0:Int),(0:Int)),[]),((2:Int),(0:Int),(2:Int),(0:Int),(0:Int),true,false,((0:Int),(0:Int)),[]),((7:Int),(1:Int),(0:Int),(0:Int),(0:Int),false,false,((0:Int),(0:Int)),[((1:Int),(4:Int),(0:Int),(5:Int)),((1:Int),(5:Int),(0:Int),(-5:Int))])],())=(stC,())
theorem g_start_eq:CondG (env_start) Tryz.f26 [] [none] ann_start (stC,())=g_start_vc:=by kernel_rfl
theorem g_start_ok:g_start_vc:=by
 unfold g_start_vc;exact ⟨trivial,rfl⟩
set_option maxRecDepth 20000
theorem start_pure:Pure Tryz.prog 26 [] (.list .full CmT stC):=
 by have k:=Pure.of_condG (r:=(.list .full CmT stC)) (g_start_eq) (g_start_ok) rfl (specs_ok rfl [] [] rfl rfl) mixed Tryz.func26;exact k
noncomputable def q_start:Prop×V:=(True,(.list .full CmT stC))
noncomputable def sp_start:FSpec Tryz.prog where
 f:=26
 run:=fun
  |[]=>some (q_start)
  |_=>none
 ok:=fun args pre r h hp=>by
  split at h
  ·skip;exact of_q h hp fun h=>(start_pure).weak .nil
  ·cases h
noncomputable def env_awake:Env where
 P:=Tryz.prog
 ty:=tys1
 specs:=specsOf [Bks.sp_rnew,sp_start,sp_replay,sp_apply]
def g_awake_vc:Prop:=
 True/\True/\(Szn (500000:Nat) ([],Acc.ownL,[],[],[],[])/\stC.length<=(500000:Nat)/\InC stC)/\(Sm (repF ([],Acc.ownL,[],[],[],[]) stC).1.1 (repF ([],Acc.ownL,[],[],[],[]) stC).1.2.1 (repF ([],Acc.ownL,[],[],[],[]) stC).1.2.2.1 (repF ([],Acc.ownL,[],[],[],[]) stC).1.2.2.2.1 (repF ([],Acc.ownL,[],[],[],[]) stC).1.2.2.2.2.1 (repF ([],Acc.ownL,[],[],[],[]) stC).1.2.2.2.2.2/\Ent.InL [])/\(Sm (apF (repF ([],Acc.ownL,[],[],[],[]) stC).1 ((8:Int),(1:Int),(2:Int),(0:Int),(0:Int),false,false,((0:Int),(0:Int)),[])).1.1 (apF (repF ([],Acc.ownL,[],[],[],[]) stC).1 ((8:Int),(1:Int),(2:Int),(0:Int),(0:Int),false,false,((0:Int),(0:Int)),[])).1.2.1 (apF (repF ([],Acc.ownL,[],[],[],[]) stC).1 ((8:Int),(1:Int),(2:Int),(0:Int),(0:Int),false,false,((0:Int),(0:Int)),[])).1.2.2.1 (apF (repF ([],Acc.ownL,[],[],[],[]) stC).1 ((8:Int),(1:Int),(2:Int),(0:Int),(0:Int),false,false,((0:Int),(0:Int)),[])).1.2.2.2.1 (apF (repF ([],Acc.ownL,[],[],[],[]) stC).1 ((8:Int),(1:Int),(2:Int),(0:Int),(0:Int),false,false,((0:Int),(0:Int)),[])).1.2.2.2.2.1 (apF (repF ([],Acc.ownL,[],[],[],[]) stC).1 ((8:Int),(1:Int),(2:Int),(0:Int),(0:Int),false,false,((0:Int),(0:Int)),[])).1.2.2.2.2.2/\Ent.InL [])/\(Sm (repF ([],Acc.ownL,[],[],[],[]) stC).1.1 (repF ([],Acc.ownL,[],[],[],[]) stC).1.2.1 (repF ([],Acc.ownL,[],[],[],[]) stC).1.2.2.1 (repF ([],Acc.ownL,[],[],[],[]) stC).1.2.2.2.1 (repF ([],Acc.ownL,[],[],[],[]) stC).1.2.2.2.2.1 (repF ([],Acc.ownL,[],[],[],[]) stC).1.2.2.2.2.2/\Ent.InL [])/\(Sm (repF ([],Acc.ownL,[],[],[],[]) stC).1.1 (repF ([],Acc.ownL,[],[],[],[]) stC).1.2.1 (repF ([],Acc.ownL,[],[],[],[]) stC).1.2.2.1 (repF ([],Acc.ownL,[],[],[],[]) stC).1.2.2.2.1 (repF ([],Acc.ownL,[],[],[],[]) stC).1.2.2.2.2.1 (repF ([],Acc.ownL,[],[],[],[]) stC).1.2.2.2.2.2/\Ent.InL [])/\True/\(0<=(4:Int)/\(4:Int)<(↑stC.length:Int))/\∀(x:Int×Int×Int×Int×Int×Bool×Bool×(Int×Int)×List (Int×Int×Int×Int)),stC[Int.toNat (4:Int)]? =some x->(Sm (apF (repF ([],Acc.ownL,[],[],[],[]) stC).1 ((6:Int),(1:Int),(3:Int),(0:Int),(0:Int),false,false,((0:Int),(0:Int)),[])).1.1 (apF (repF ([],Acc.ownL,[],[],[],[]) stC).1 ((6:Int),(1:Int),(3:Int),(0:Int),(0:Int),false,false,((0:Int),(0:Int)),[])).1.2.1 (apF (repF ([],Acc.ownL,[],[],[],[]) stC).1 ((6:Int),(1:Int),(3:Int),(0:Int),(0:Int),false,false,((0:Int),(0:Int)),[])).1.2.2.1 (apF (repF ([],Acc.ownL,[],[],[],[]) stC).1 ((6:Int),(1:Int),(3:Int),(0:Int),(0:Int),false,false,((0:Int),(0:Int)),[])).1.2.2.2.1 (apF (repF ([],Acc.ownL,[],[],[],[]) stC).1 ((6:Int),(1:Int),(3:Int),(0:Int),(0:Int),false,false,((0:Int),(0:Int)),[])).1.2.2.2.2.1 (apF (repF ([],Acc.ownL,[],[],[],[]) stC).1 ((6:Int),(1:Int),(3:Int),(0:Int),(0:Int),false,false,((0:Int),(0:Int)),[])).1.2.2.2.2.2/\Ent.InL x.2.2.2.2.2.2.2.2)/\(Szn (500000:Nat) (repF ([],Acc.ownL,[],[],[],[]) stC).1/\(1:Nat)<=(500000:Nat)/\InC [((1:Int),(9:Int),(0:Int),(0:Int),(0:Int),false,false,((0:Int),(0:Int)),[])])/\(decide ((repF ([],Acc.ownL,[],[],[],[]) stC).2.1=(5:Int))=true->(decide ((repF ([],Acc.ownL,[],[],[],[]) stC).2.2=(0:Int))=true->(decide ((↑(repF ([],Acc.ownL,[],[],[],[]) stC).1.1.length:Int)=(2:Int))=true->(decide ((↑(repF ([],Acc.ownL,[],[],[],[]) stC).1.2.1.length:Int)=(5:Int))=true->(decide ((↑(repF ([],Acc.ownL,[],[],[],[]) stC).1.2.2.2.2.2.length:Int)=(1:Int))=true->(decide ((apF (repF ([],Acc.ownL,[],[],[],[]) stC).1 ((8:Int),(1:Int),(2:Int),(0:Int),(0:Int),false,false,((0:Int),(0:Int)),[])).2=(0:Int))=true->(decide ((↑(apF (repF ([],Acc.ownL,[],[],[],[]) stC).1 ((8:Int),(1:Int),(2:Int),(0:Int),(0:Int),false,false,((0:Int),(0:Int)),[])).1.2.2.2.2.2.length:Int)=(2:Int))=true->(0<=(1:Int)/\(1:Int)<(↑(apF (repF ([],Acc.ownL,[],[],[],[]) stC).1 ((8:Int),(1:Int),(2:Int),(0:Int),(0:Int),false,false,((0:Int),(0:Int)),[])).1.2.2.2.2.2.length:Int))/\∀(x_1:Int×Int×List (Int×Int×Int×Int)),(apF (repF ([],Acc.ownL,[],[],[],[]) stC).1 ((8:Int),(1:Int),(2:Int),(0:Int),(0:Int),false,false,((0:Int),(0:Int)),[])).1.2.2.2.2.2[Int.toNat (1:Int)]? =some x_1->(decide (x_1.2.1=(1:Int))=true->(decide ((apF (apF (repF ([],Acc.ownL,[],[],[],[]) stC).1 ((8:Int),(1:Int),(2:Int),(0:Int),(0:Int),false,false,((0:Int),(0:Int)),[])).1 ((8:Int),(1:Int),(2:Int),(0:Int),(0:Int),false,false,((0:Int),(0:Int)),[])).2=(35:Int))=true->(decide ((apF (repF ([],Acc.ownL,[],[],[],[]) stC).1 ((2:Int),(4:Int),(1:Int),(0:Int),(0:Int),false,false,((0:Int),(0:Int)),[])).2=(29:Int))=true->(decide ((apF (repF ([],Acc.ownL,[],[],[],[]) stC).1 ((6:Int),(1:Int),(3:Int),(0:Int),(0:Int),false,false,((0:Int),(0:Int)),[])).2=(0:Int))=true->(decide ((apF (apF (repF ([],Acc.ownL,[],[],[],[]) stC).1 ((6:Int),(1:Int),(3:Int),(0:Int),(0:Int),false,false,((0:Int),(0:Int)),[])).1 x).2=(33:Int))=true->(decide ((repF (repF ([],Acc.ownL,[],[],[],[]) stC).1 [((1:Int),(9:Int),(0:Int),(0:Int),(0:Int),false,false,((0:Int),(0:Int)),[])]).2.1=(0:Int))=true->(decide ((repF (repF ([],Acc.ownL,[],[],[],[]) stC).1 [((1:Int),(9:Int),(0:Int),(0:Int),(0:Int),false,false,((0:Int),(0:Int)),[])]).2.2=(23:Int)),())=(true,()))/\(decide ((repF (repF ([],Acc.ownL,[],[],[],[]) stC).1 [((1:Int),(9:Int),(0:Int),(0:Int),(0:Int),false,false,((0:Int),(0:Int)),[])]).2.1=(0:Int))= !true->(false,())=(true,())))/\(decide ((apF (apF (repF ([],Acc.ownL,[],[],[],[]) stC).1 ((6:Int),(1:Int),(3:Int),(0:Int),(0:Int),false,false,((0:Int),(0:Int)),[])).1 x).2=(33:Int))= !true->(false,())=(true,())))/\(decide ((apF (repF ([],Acc.ownL,[],[],[],[]) stC).1 ((6:Int),(1:Int),(3:Int),(0:Int),(0:Int),false,false,((0:Int),(0:Int)),[])).2=(0:Int))= !true->(false,())=(true,())))/\(decide ((apF (repF ([],Acc.ownL,[],[],[],[]) stC).1 ((2:Int),(4:Int),(1:Int),(0:Int),(0:Int),false,false,((0:Int),(0:Int)),[])).2=(29:Int))= !true->(false,())=(true,())))/\(decide ((apF (apF (repF ([],Acc.ownL,[],[],[],[]) stC).1 ((8:Int),(1:Int),(2:Int),(0:Int),(0:Int),false,false,((0:Int),(0:Int)),[])).1 ((8:Int),(1:Int),(2:Int),(0:Int),(0:Int),false,false,((0:Int),(0:Int)),[])).2=(35:Int))= !true->(false,())=(true,())))/\(decide (x_1.2.1=(1:Int))= !true->(false,())=(true,())))/\(decide ((↑(apF (repF ([],Acc.ownL,[],[],[],[]) stC).1 ((8:Int),(1:Int),(2:Int),(0:Int),(0:Int),false,false,((0:Int),(0:Int)),[])).1.2.2.2.2.2.length:Int)=(2:Int))= !true->(false,())=(true,())))/\(decide ((apF (repF ([],Acc.ownL,[],[],[],[]) stC).1 ((8:Int),(1:Int),(2:Int),(0:Int),(0:Int),false,false,((0:Int),(0:Int)),[])).2=(0:Int))= !true->(false,())=(true,())))/\(decide ((↑(repF ([],Acc.ownL,[],[],[],[]) stC).1.2.2.2.2.2.length:Int)=(1:Int))= !true->(false,())=(true,())))/\(decide ((↑(repF ([],Acc.ownL,[],[],[],[]) stC).1.2.1.length:Int)=(5:Int))= !true->(false,())=(true,())))/\(decide ((↑(repF ([],Acc.ownL,[],[],[],[]) stC).1.1.length:Int)=(2:Int))= !true->(false,())=(true,())))/\(decide ((repF ([],Acc.ownL,[],[],[],[]) stC).2.2=(0:Int))= !true->(false,())=(true,())))/\(decide ((repF ([],Acc.ownL,[],[],[],[]) stC).2.1=(5:Int))= !true->(false,())=(true,()))
theorem g_awake_eq:Cond (env_awake) Tryz.f8 [] [.bool] (true,())=g_awake_vc:=by kernel_rfl
def inlB (L:List Ln):Bool:=L.all fun z=>decide (-9223372036854775808<=z.2.2.2/\z.2.2.2<=9223372036854775807)
theorem inl_dec {L:List Ln} (h:inlB L=true):Ent.InL L:=fun z hz=>by
 have k:=List.all_eq_true.1 h z hz;exact of_decide_eq_true (p:= -9223372036854775808<=z.2.2.2/\z.2.2.2<=9223372036854775807) k
theorem ine_dec {N:List En} (h:(N.all fun x=>inlB x.2.2&&decide (x.2.2.length<=1000))=true):InE N:=fun x hx=>by
 have k:=List.all_eq_true.1 h x hx;rw [Bool.and_eq_true] at k;exact ⟨inl_dec k.1,of_decide_eq_true k.2⟩
theorem inc_dec {l:List Cmd.CmD} (h:(l.all fun c=>inlB (Cmd.linesF c))=true):InC l:=fun c hc=>inl_dec (List.all_eq_true.1 h c hc)
def stB:Bk:=([1,2],[(0,1,true,false),(0,1,false,false),(0,1,false,false),(0,1,false,false),(0,2,true,false)],[],[],[],[(1,0,[(1,4,0,5),(1,5,0, -5)])])
def stV:Bk:=([1,2],[(0,1,true,false),(0,1,false,false),(0,1,false,false),(0,1,false,false),(0,2,true,false)],[],[],[],[(1,0,[(1,4,0,5),(1,5,0, -5)]),(2,1,[(1,4,0, -5),(1,5,0,5)])])
def stL:Bk:=([1,2],[(0,1,true,false),(0,1,false,false),(0,1,false,false),(0,1,false,false),(0,2,true,false)],[],[],[(1,3)],[(1,0,[(1,4,0,5),(1,5,0, -5)])])
theorem r0:repF ([],Acc.ownL,[],[],[],[]) stC=(stB,5,0):=by kernel_rfl
theorem r1:apF stB (8,1,2,0,0,false,false,(0,0),[])=(stV,0):=by kernel_rfl
theorem r2:apF stV (8,1,2,0,0,false,false,(0,0),[])=(bk0,35):=by kernel_rfl
theorem r3:apF stB (2,4,1,0,0,false,false,(0,0),[])=(bk0,29):=by kernel_rfl
theorem r4:apF stB (6,1,3,0,0,false,false,(0,0),[])=(stL,0):=by kernel_rfl
theorem r5:apF stL (7,1,0,0,0,false,false,(0,0),[(1,4,0,5),(1,5,0, -5)])=(bk0,33):=by kernel_rfl
theorem r6:repF stB [(1,9,0,0,0,false,false,(0,0),[])]=(stB,0,23):=by kernel_rfl
theorem bk_eta (B:Bk):(B.1,B.2.1,B.2.2.1,B.2.2.2.1,B.2.2.2.2.1,B.2.2.2.2.2)=B:=rfl
theorem szB:Szn 1000 stB:=⟨by decide,by decide,by decide,by decide,by decide,by decide,ine_dec (by decide)⟩
theorem szV:Szn 1000 stV:=⟨by decide,by decide,by decide,by decide,by decide,by decide,ine_dec (by decide)⟩
theorem szL:Szn 1000 stL:=⟨by decide,by decide,by decide,by decide,by decide,by decide,ine_dec (by decide)⟩
theorem g_awake_ok:g_awake_vc:=by
 unfold g_awake_vc;simp only [r0];simp only [bk_eta,r1,r4,r6];refine ⟨trivial,trivial,⟨⟨by decide,by decide,by decide,by decide,by decide,by decide,fun x h=>by cases h⟩,by decide,inc_dec (by decide)⟩,⟨sm_of szB (by decide),inl_dec rfl⟩,⟨sm_of szV (by decide),inl_dec rfl⟩,⟨sm_of szB (by decide),inl_dec rfl⟩,⟨sm_of szB (by decide),inl_dec rfl⟩,trivial,by decide,fun x hx=> ?_⟩;have e:x=(7,1,0,0,0,false,false,(0,0),[(1,4,0,5),(1,5,0, -5)]):=(Option.some.inj hx).symm;subst e;dsimp only;simp only [r2,r3,r5];refine ⟨⟨sm_of szL (by decide),inl_dec rfl⟩,⟨⟨by decide,by decide,by decide,by decide,by decide,by decide,szB.2.2.2.2.2.2⟩,by decide,inc_dec (by decide)⟩, ?_⟩;dsimp only [stB,stV];simp
theorem awake_pure:Pure Tryz.prog 8 [] (.bool true):=
 by have k:=Pure.of_cond (g_awake_eq) (g_awake_ok) (specs_ok rfl [Bks.sp_rnew,sp_start,sp_replay,sp_apply] [] rfl rfl) mixed Tryz.func8;exact k
noncomputable def q_awake:Prop×V:=(True,(.bool true))
noncomputable def sp_awake:FSpec Tryz.prog where
 f:=8
 run:=fun
  |[]=>some (q_awake)
  |_=>none
 ok:=fun args pre r h hp=>by
  split at h
  ·skip;exact of_q h hp fun h=>(awake_pure).weak .nil
  ·cases h
end Go.Proofs.YtabicbgeoiilmaaGreat.Dsk
end
section
namespace Go.Proofs.YtabicbgeoiilmaaGreat.Dsk
open Go.Vm
open Bks (En InE Sm ine_at ownP Ok fewF sameB)
theorem szn_few {E:List Int} {A:List Acc.AcD} {S:List Ln} {R:List Rts.Rt} {K:List Lck.Lk} {N:List En} (h:Ok E A S R K N) (hf:fewF E A S R K N=true):Szn 65 (E,A,S,R,K,N):=by
 have hi:=(Bks.sm_few E A S R K N h hf).2.2.2.2.2.2;unfold fewF Bks.few24 at hf;simp only [Bool.and_eq_true,decide_eq_true_eq,Bool.not_eq_true'] at hf;obtain ⟨h1,h2,h3,h4,h5,h6,h7⟩:=hf;exact ⟨by dsimp only;omega,by dsimp only;omega,by dsimp only;omega,by dsimp only;omega,by dsimp only;omega,by dsimp only;omega,hi⟩
set_option maxRecDepth 20000
end Go.Proofs.YtabicbgeoiilmaaGreat.Dsk
end
section
namespace Go.Proofs.YtabicbgeoiilmaaGreat.Dsk
open Go.Vm
open Bks (En InE Sm ine_at ownP Ok fewF sameB)
theorem fin_zero {e:Int} {B:Bk} (h:(fin e B).2=0):e=0:=by
 by_cases c:e=0
 ·exact c
 ·rw [fin_bad c] at h;exact h
theorem fin_inv {e:Int} {B:Bk} (h:(fin e B).2=0):fin e B=(B,0):=fin_ok (fin_zero h)
set_option maxRecDepth 20000
end Go.Proofs.YtabicbgeoiilmaaGreat.Dsk
end
