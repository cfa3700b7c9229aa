/-
  ApplyTells.
-/
import Derived.Test.YtabicbgeoiilmaaGreatPrt
import Derived.Test.YtabicbgeoiilmaaGreatUse1
set_option linter.unusedVariables false
section
namespace Go.Proofs.YtabicbgeoiilmaaGreat.Dsk
open Go.Vm
open Bks (En InE Sm ine_at ownP)
abbrev stC:List Cmd.CmD:=[(1,1,0,0,0,false,false,(0,0),[]),(1,2,0,0,0,false,false,(0,0),[]),(2,0,1,0,0,false,false,(0,0),[]),(2,0,2,0,0,true,false,(0,0),[]),(7,1,0,0,0,false,false,(0,0),[(1,4,0,5),(1,5,0, -5)])]
noncomputable def env_start:Env where
 P:=Tryz.prog
 ty:=tys1
abbrev ann_start:Ann:={slots:=numP 0 [.list .full CmT],boxes:=[],inv:=fun _ _=>True}
def g_start_vc:Prop:=
 True/\([((1:Int),(1:Int),(0:Int),(0:Int),(0:Int),false,false,((0:Int),(0:Int)),[]),((1:Int),(2:Int),(0:Int),(0:Int),(0:Int),false,false,((0:Int),(0:Int)),[]),((2:Int),(0:Int),(1:Int),(0:Int),(0:Int),false,false,((0:Int),(0:Int)),[]),((2:Int),(0:Int),(2:Int),(0:Int),(0:Int),true,false,((0:Int),(0:Int)),[]),((7:Int),(1:Int),(0:Int),(0:Int),(0:Int),false,false,((0:Int),(0:Int)),[((1:Int),(4:Int),(0:Int),(5:Int)),((1:Int),(5:Int),(0:Int),(-5:Int))])],())=(stC,())
theorem g_start_eq:CondG (env_start) Tryz.f26 [] [none] ann_start (stC,())=g_start_vc:=by kernel_rfl
theorem g_start_ok:g_start_vc:=by
 unfold g_start_vc;exact ⟨trivial,rfl⟩
set_option maxRecDepth 20000
theorem start_pure:Pure Tryz.prog 26 [] (.list .full CmT stC):=
 by have k:=Pure.of_condG (r:=(.list .full CmT stC)) (g_start_eq) (g_start_ok) rfl (specs_ok rfl [] [] rfl rfl) mixed Tryz.func26;exact k
noncomputable def q_start:Prop×V:=(True,(.list .full CmT stC))
noncomputable def sp_start:FSpec Tryz.prog where
 f:=26
 run:=fun
  |[]=>some (q_start)
  |_=>none
 ok:=fun args pre r h hp=>by
  split at h
  ·skip;exact of_q h hp fun h=>(start_pure).weak .nil
  ·cases h
noncomputable def env_awake:Env where
 P:=Tryz.prog
 ty:=tys1
 specs:=specsOf [Bks.sp_rnew,sp_start,sp_replay,sp_apply]
def g_awake_vc:Prop:=
 True/\True/\(Szn (500000:Nat) ([],Acc.ownL,[],[],[],[])/\stC.length<=(500000:Nat)/\InC stC)/\(Sm (repF ([],Acc.ownL,[],[],[],[]) stC).1.1 (repF ([],Acc.ownL,[],[],[],[]) stC).1.2.1 (repF ([],Acc.ownL,[],[],[],[]) stC).1.2.2.1 (repF ([],Acc.ownL,[],[],[],[]) stC).1.2.2.2.1 (repF ([],Acc.ownL,[],[],[],[]) stC).1.2.2.2.2.1 (repF ([],Acc.ownL,[],[],[],[]) stC).1.2.2.2.2.2/\Ent.InL [])/\(Sm (apF (repF ([],Acc.ownL,[],[],[],[]) stC).1 ((8:Int),(1:Int),(2:Int),(0:Int),(0:Int),false,false,((0:Int),(0:Int)),[])).1.1 (apF (repF ([],Acc.ownL,[],[],[],[]) stC).1 ((8:Int),(1:Int),(2:Int),(0:Int),(0:Int),false,false,((0:Int),(0:Int)),[])).1.2.1 (apF (repF ([],Acc.ownL,[],[],[],[]) stC).1 ((8:Int),(1:Int),(2:Int),(0:Int),(0:Int),false,false,((0:Int),(0:Int)),[])).1.2.2.1 (apF (repF ([],Acc.ownL,[],[],[],[]) stC).1 ((8:Int),(1:Int),(2:Int),(0:Int),(0:Int),false,false,((0:Int),(0:Int)),[])).1.2.2.2.1 (apF (repF ([],Acc.ownL,[],[],[],[]) stC).1 ((8:Int),(1:Int),(2:Int),(0:Int),(0:Int),false,false,((0:Int),(0:Int)),[])).1.2.2.2.2.1 (apF (repF ([],Acc.ownL,[],[],[],[]) stC).1 ((8:Int),(1:Int),(2:Int),(0:Int),(0:Int),false,false,((0:Int),(0:Int)),[])).1.2.2.2.2.2/\Ent.InL [])/\(Sm (repF ([],Acc.ownL,[],[],[],[]) stC).1.1 (repF ([],Acc.ownL,[],[],[],[]) stC).1.2.1 (repF ([],Acc.ownL,[],[],[],[]) stC).1.2.2.1 (repF ([],Acc.ownL,[],[],[],[]) stC).1.2.2.2.1 (repF ([],Acc.ownL,[],[],[],[]) stC).1.2.2.2.2.1 (repF ([],Acc.ownL,[],[],[],[]) stC).1.2.2.2.2.2/\Ent.InL [])/\(Sm (repF ([],Acc.ownL,[],[],[],[]) stC).1.1 (repF ([],Acc.ownL,[],[],[],[]) stC).1.2.1 (repF ([],Acc.ownL,[],[],[],[]) stC).1.2.2.1 (repF ([],Acc.ownL,[],[],[],[]) stC).1.2.2.2.1 (repF ([],Acc.ownL,[],[],[],[]) stC).1.2.2.2.2.1 (repF ([],Acc.ownL,[],[],[],[]) stC).1.2.2.2.2.2/\Ent.InL [])/\True/\(0<=(4:Int)/\(4:Int)<(↑stC.length:Int))/\∀(x:Int×Int×Int×Int×Int×Bool×Bool×(Int×Int)×List (Int×Int×Int×Int)),stC[Int.toNat (4:Int)]? =some x->(Sm (apF (repF ([],Acc.ownL,[],[],[],[]) stC).1 ((6:Int),(1:Int),(3:Int),(0:Int),(0:Int),false,false,((0:Int),(0:Int)),[])).1.1 (apF (repF ([],Acc.ownL,[],[],[],[]) stC).1 ((6:Int),(1:Int),(3:Int),(0:Int),(0:Int),false,false,((0:Int),(0:Int)),[])).1.2.1 (apF (repF ([],Acc.ownL,[],[],[],[]) stC).1 ((6:Int),(1:Int),(3:Int),(0:Int),(0:Int),false,false,((0:Int),(0:Int)),[])).1.2.2.1 (apF (repF ([],Acc.ownL,[],[],[],[]) stC).1 ((6:Int),(1:Int),(3:Int),(0:Int),(0:Int),false,false,((0:Int),(0:Int)),[])).1.2.2.2.1 (apF (repF ([],Acc.ownL,[],[],[],[]) stC).1 ((6:Int),(1:Int),(3:Int),(0:Int),(0:Int),false,false,((0:Int),(0:Int)),[])).1.2.2.2.2.1 (apF (repF ([],Acc.ownL,[],[],[],[]) stC).1 ((6:Int),(1:Int),(3:Int),(0:Int),(0:Int),false,false,((0:Int),(0:Int)),[])).1.2.2.2.2.2/\Ent.InL x.2.2.2.2.2.2.2.2)/\(Szn (500000:Nat) (repF ([],Acc.ownL,[],[],[],[]) stC).1/\(1:Nat)<=(500000:Nat)/\InC [((1:Int),(9:Int),(0:Int),(0:Int),(0:Int),false,false,((0:Int),(0:Int)),[])])/\(decide ((repF ([],Acc.ownL,[],[],[],[]) stC).2.1=(5:Int))=true->(decide ((repF ([],Acc.ownL,[],[],[],[]) stC).2.2=(0:Int))=true->(decide ((↑(repF ([],Acc.ownL,[],[],[],[]) stC).1.1.length:Int)=(2:Int))=true->(decide ((↑(repF ([],Acc.ownL,[],[],[],[]) stC).1.2.1.length:Int)=(5:Int))=true->(decide ((↑(repF ([],Acc.ownL,[],[],[],[]) stC).1.2.2.2.2.2.length:Int)=(1:Int))=true->(decide ((apF (repF ([],Acc.ownL,[],[],[],[]) stC).1 ((8:Int),(1:Int),(2:Int),(0:Int),(0:Int),false,false,((0:Int),(0:Int)),[])).2=(0:Int))=true->(decide ((↑(apF (repF ([],Acc.ownL,[],[],[],[]) stC).1 ((8:Int),(1:Int),(2:Int),(0:Int),(0:Int),false,false,((0:Int),(0:Int)),[])).1.2.2.2.2.2.length:Int)=(2:Int))=true->(0<=(1:Int)/\(1:Int)<(↑(apF (repF ([],Acc.ownL,[],[],[],[]) stC).1 ((8:Int),(1:Int),(2:Int),(0:Int),(0:Int),false,false,((0:Int),(0:Int)),[])).1.2.2.2.2.2.length:Int))/\∀(x_1:Int×Int×List (Int×Int×Int×Int)),(apF (repF ([],Acc.ownL,[],[],[],[]) stC).1 ((8:Int),(1:Int),(2:Int),(0:Int),(0:Int),false,false,((0:Int),(0:Int)),[])).1.2.2.2.2.2[Int.toNat (1:Int)]? =some x_1->(decide (x_1.2.1=(1:Int))=true->(decide ((apF (apF (repF ([],Acc.ownL,[],[],[],[]) stC).1 ((8:Int),(1:Int),(2:Int),(0:Int),(0:Int),false,false,((0:Int),(0:Int)),[])).1 ((8:Int),(1:Int),(2:Int),(0:Int),(0:Int),false,false,((0:Int),(0:Int)),[])).2=(35:Int))=true->(decide ((apF (repF ([],Acc.ownL,[],[],[],[]) stC).1 ((2:Int),(4:Int),(1:Int),(0:Int),(0:Int),false,false,((0:Int),(0:Int)),[])).2=(29:Int))=true->(decide ((apF (repF ([],Acc.ownL,[],[],[],[]) stC).1 ((6:Int),(1:Int),(3:Int),(0:Int),(0:Int),false,false,((0:Int),(0:Int)),[])).2=(0:Int))=true->(decide ((apF (apF (repF ([],Acc.ownL,[],[],[],[]) stC).1 ((6:Int),(1:Int),(3:Int),(0:Int),(0:Int),false,false,((0:Int),(0:Int)),[])).1 x).2=(33:Int))=true->(decide ((repF (repF ([],Acc.ownL,[],[],[],[]) stC).1 [((1:Int),(9:Int),(0:Int),(0:Int),(0:Int),false,false,((0:Int),(0:Int)),[])]).2.1=(0:Int))=true->(decide ((repF (repF ([],Acc.ownL,[],[],[],[]) stC).1 [((1:Int),(9:Int),(0:Int),(0:Int),(0:Int),false,false,((0:Int),(0:Int)),[])]).2.2=(23:Int)),())=(true,()))/\(decide ((repF (repF ([],Acc.ownL,[],[],[],[]) stC).1 [((1:Int),(9:Int),(0:Int),(0:Int),(0:Int),false,false,((0:Int),(0:Int)),[])]).2.1=(0:Int))= !true->(false,())=(true,())))/\(decide ((apF (apF (repF ([],Acc.ownL,[],[],[],[]) stC).1 ((6:Int),(1:Int),(3:Int),(0:Int),(0:Int),false,false,((0:Int),(0:Int)),[])).1 x).2=(33:Int))= !true->(false,())=(true,())))/\(decide ((apF (repF ([],Acc.ownL,[],[],[],[]) stC).1 ((6:Int),(1:Int),(3:Int),(0:Int),(0:Int),false,false,((0:Int),(0:Int)),[])).2=(0:Int))= !true->(false,())=(true,())))/\(decide ((apF (repF ([],Acc.ownL,[],[],[],[]) stC).1 ((2:Int),(4:Int),(1:Int),(0:Int),(0:Int),false,false,((0:Int),(0:Int)),[])).2=(29:Int))= !true->(false,())=(true,())))/\(decide ((apF (apF (repF ([],Acc.ownL,[],[],[],[]) stC).1 ((8:Int),(1:Int),(2:Int),(0:Int),(0:Int),false,false,((0:Int),(0:Int)),[])).1 ((8:Int),(1:Int),(2:Int),(0:Int),(0:Int),false,false,((0:Int),(0:Int)),[])).2=(35:Int))= !true->(false,())=(true,())))/\(decide (x_1.2.1=(1:Int))= !true->(false,())=(true,())))/\(decide ((↑(apF (repF ([],Acc.ownL,[],[],[],[]) stC).1 ((8:Int),(1:Int),(2:Int),(0:Int),(0:Int),false,false,((0:Int),(0:Int)),[])).1.2.2.2.2.2.length:Int)=(2:Int))= !true->(false,())=(true,())))/\(decide ((apF (repF ([],Acc.ownL,[],[],[],[]) stC).1 ((8:Int),(1:Int),(2:Int),(0:Int),(0:Int),false,false,((0:Int),(0:Int)),[])).2=(0:Int))= !true->(false,())=(true,())))/\(decide ((↑(repF ([],Acc.ownL,[],[],[],[]) stC).1.2.2.2.2.2.length:Int)=(1:Int))= !true->(false,())=(true,())))/\(decide ((↑(repF ([],Acc.ownL,[],[],[],[]) stC).1.2.1.length:Int)=(5:Int))= !true->(false,())=(true,())))/\(decide ((↑(repF ([],Acc.ownL,[],[],[],[]) stC).1.1.length:Int)=(2:Int))= !true->(false,())=(true,())))/\(decide ((repF ([],Acc.ownL,[],[],[],[]) stC).2.2=(0:Int))= !true->(false,())=(true,())))/\(decide ((repF ([],Acc.ownL,[],[],[],[]) stC).2.1=(5:Int))= !true->(false,())=(true,()))
theorem g_awake_eq:Cond (env_awake) Tryz.f8 [] [.bool] (true,())=g_awake_vc:=by kernel_rfl
def inlB (L:List Ln):Bool:=L.all fun z=>decide (-9223372036854775808<=z.2.2.2/\z.2.2.2<=9223372036854775807)
theorem inl_dec {L:List Ln} (h:inlB L=true):Ent.InL L:=fun z hz=>by
 have k:=List.all_eq_true.1 h z hz;exact of_decide_eq_true (p:= -9223372036854775808<=z.2.2.2/\z.2.2.2<=9223372036854775807) k
theorem ine_dec {N:List En} (h:(N.all fun x=>inlB x.2.2&&decide (x.2.2.length<=1000))=true):InE N:=fun x hx=>by
 have k:=List.all_eq_true.1 h x hx;rw [Bool.and_eq_true] at k;exact ⟨inl_dec k.1,of_decide_eq_true k.2⟩
theorem inc_dec {l:List Cmd.CmD} (h:(l.all fun c=>inlB (Cmd.linesF c))=true):InC l:=fun c hc=>inl_dec (List.all_eq_true.1 h c hc)
def stB:Bk:=([1,2],[(0,1,true,false),(0,1,false,false),(0,1,false,false),(0,1,false,false),(0,2,true,false)],[],[],[],[(1,0,[(1,4,0,5),(1,5,0, -5)])])
def stV:Bk:=([1,2],[(0,1,true,false),(0,1,false,false),(0,1,false,false),(0,1,false,false),(0,2,true,false)],[],[],[],[(1,0,[(1,4,0,5),(1,5,0, -5)]),(2,1,[(1,4,0, -5),(1,5,0,5)])])
def stL:Bk:=([1,2],[(0,1,true,false),(0,1,false,false),(0,1,false,false),(0,1,false,false),(0,2,true,false)],[],[],[(1,3)],[(1,0,[(1,4,0,5),(1,5,0, -5)])])
theorem r0:repF ([],Acc.ownL,[],[],[],[]) stC=(stB,5,0):=by kernel_rfl
theorem r1:apF stB (8,1,2,0,0,false,false,(0,0),[])=(stV,0):=by kernel_rfl
theorem r2:apF stV (8,1,2,0,0,false,false,(0,0),[])=(bk0,35):=by kernel_rfl
theorem r3:apF stB (2,4,1,0,0,false,false,(0,0),[])=(bk0,29):=by kernel_rfl
theorem r4:apF stB (6,1,3,0,0,false,false,(0,0),[])=(stL,0):=by kernel_rfl
theorem r5:apF stL (7,1,0,0,0,false,false,(0,0),[(1,4,0,5),(1,5,0, -5)])=(bk0,33):=by kernel_rfl
theorem r6:repF stB [(1,9,0,0,0,false,false,(0,0),[])]=(stB,0,23):=by kernel_rfl
theorem bk_eta (B:Bk):(B.1,B.2.1,B.2.2.1,B.2.2.2.1,B.2.2.2.2.1,B.2.2.2.2.2)=B:=rfl
theorem szB:Szn 1000 stB:=⟨by decide,by decide,by decide,by decide,by decide,by decide,ine_dec (by decide)⟩
theorem szV:Szn 1000 stV:=⟨by decide,by decide,by decide,by decide,by decide,by decide,ine_dec (by decide)⟩
theorem szL:Szn 1000 stL:=⟨by decide,by decide,by decide,by decide,by decide,by decide,ine_dec (by decide)⟩
theorem g_awake_ok:g_awake_vc:=by
 unfold g_awake_vc;simp only [r0];simp only [bk_eta,r1,r4,r6];refine ⟨trivial,trivial,⟨⟨by decide,by decide,by decide,by decide,by decide,by decide,fun x h=>by cases h⟩,by decide,inc_dec (by decide)⟩,⟨sm_of szB (by decide),inl_dec rfl⟩,⟨sm_of szV (by decide),inl_dec rfl⟩,⟨sm_of szB (by decide),inl_dec rfl⟩,⟨sm_of szB (by decide),inl_dec rfl⟩,trivial,by decide,fun x hx=> ?_⟩;have e:x=(7,1,0,0,0,false,false,(0,0),[(1,4,0,5),(1,5,0, -5)]):=(Option.some.inj hx).symm;subst e;dsimp only;simp only [r2,r3,r5];refine ⟨⟨sm_of szL (by decide),inl_dec rfl⟩,⟨⟨by decide,by decide,by decide,by decide,by decide,by decide,szB.2.2.2.2.2.2⟩,by decide,inc_dec (by decide)⟩, ?_⟩;dsimp only [stB,stV];simp
theorem awake_pure:Pure Tryz.prog 8 [] (.bool true):=
 by have k:=Pure.of_cond (g_awake_eq) (g_awake_ok) (specs_ok rfl [Bks.sp_rnew,sp_start,sp_replay,sp_apply] [] rfl rfl) mixed Tryz.func8;exact k
noncomputable def q_awake:Prop×V:=(True,(.bool true))
noncomputable def sp_awake:FSpec Tryz.prog where
 f:=8
 run:=fun
  |[]=>some (q_awake)
  |_=>none
 ok:=fun args pre r h hp=>by
  split at h
  ·skip;exact of_q h hp fun h=>(awake_pure).weak .nil
  ·cases h
end Go.Proofs.YtabicbgeoiilmaaGreat.Dsk
end
section
namespace Go.Proofs.YtabicbgeoiilmaaGreat.Dsk
open Go.Vm
open Bks (En InE Sm ine_at ownP Ok fewF sameB)
theorem same_self (E:List Int) (A:List Acc.AcD) (S:List Ln) (R:List Rts.Rt) (K:List Lck.Lk) (N:List En):sameB E A S R K N E A S R K N=true:=by
 unfold sameB;simp
theorem szn_few {E:List Int} {A:List Acc.AcD} {S:List Ln} {R:List Rts.Rt} {K:List Lck.Lk} {N:List En} (h:Ok E A S R K N) (hf:fewF E A S R K N=true):Szn 65 (E,A,S,R,K,N):=by
 have hi:=(Bks.sm_few E A S R K N h hf).2.2.2.2.2.2;unfold fewF Bks.few24 at hf;simp only [Bool.and_eq_true,decide_eq_true_eq,Bool.not_eq_true'] at hf;obtain ⟨h1,h2,h3,h4,h5,h6,h7⟩:=hf;exact ⟨by dsimp only;omega,by dsimp only;omega,by dsimp only;omega,by dsimp only;omega,by dsimp only;omega,by dsimp only;omega,hi⟩
theorem szn_le {n m:Nat} {B:Bk} (h:Szn n B) (k:n<=m):Szn m B:=⟨Nat.le_trans h.1 k,Nat.le_trans h.2.1 k,Nat.le_trans h.2.2.1 k,Nat.le_trans h.2.2.2.1 k,Nat.le_trans h.2.2.2.2.1 k,Nat.le_trans h.2.2.2.2.2.1 k,h.2.2.2.2.2.2⟩
theorem rep_sz: ∀(l:List Cmd.CmD) (n:Nat) (B:Bk) (i:Int),Szn n B->InC l->Szn (n+l.length) (repGo B l i).1
 |[],n,B,i,h,_=>h
 |c::r,n,B,i,h,hl=>by
  rw [repGo];have hc:=ap_sz h (hl c (List.mem_cons_self ..));split
  ·have:=rep_sz r (n+1) _ (i+1) hc (fun x hx=>hl x (List.mem_cons_of_mem _ hx));rw [List.length_cons,show n+(r.length+1)=n+1+r.length by omega];exact this
  ·exact szn_le h (Nat.le_add_right _ _)
theorem sm_bk {n:Nat} {B:Bk} (h:Szn n B) (hn:n<=1000000):Sm B.1 B.2.1 B.2.2.1 B.2.2.2.1 B.2.2.2.2.1 B.2.2.2.2.2:=sm_of (by exact h) hn
noncomputable def env_tell (E:List Int) (A:List Acc.AcD) (S:List Ln) (R:List Rts.Rt) (K:List Lck.Lk) (N:List En) (l:List Cmd.CmD):Env where
 P:=Tryz.prog
 ty:=tys1
 specs:=specsOf [Bks.sp_few,sp_awake,Bks.sp_rcheck,sp_apply,sp_rapply,Bks.sp_rsame,sp_replay,sp_rreplay]
 frz:=fun|49=>true|58=>true|_=>false
 heads:=fun|7=>some {slots:=[(8, .int .i64)],boxes:=[],keep:=[2],inv:=fun _ (x:Int×Unit)=>0<=x.1/\x.1<=l.length,measure:=fun _ (x:Int×Unit)=>(l.length-x.1).toNat}|_=>none
abbrev bx_tell_1 (E:List Int) (A:List Acc.AcD) (S:List Ln) (R:List Rts.Rt) (K:List Lck.Lk) (N:List En):_root_.Go.Vm.Obj:=Obj.box [V.list LK.part I E,V.list LK.part AcT A,V.list LK.part LnT S,V.list LK.part RTy R,V.list LK.part Vl K,V.list LK.part EnT N]
def g_tell_vc (E:List Int) (A:List Acc.AcD) (S:List Ln) (R:List Rts.Rt) (K:List Lck.Lk) (N:List En) (l:List Cmd.CmD):Prop:=
 N.length<=(9223372036854775807:Nat)/\((!fewF E A S R K N)=false->(decide ((12:Int)<(↑l.length:Int))=true->True/\(true,())=(true,()))/\(decide ((12:Int)<(↑l.length:Int))=false->Sm E A S R K N/\((!decide ((Bks.checkF E A S R K N).2.2=(0:Int)))=true->True/\(true,())=(true,()))/\((!decide ((Bks.checkF E A S R K N).2.2=(0:Int)))=false->((some (bx_tell_1 E A S R K N)=some (bx_tell_1 E A S R K N)/\True)/\0<=(0:Int)/\0<=(↑l.length:Int))/\∀(x:Int×Unit),0<=x.1/\x.1<=(↑l.length:Int)->(decide (x.1<(↑l.length:Int))=true->(0<=x.1/\x.1<(↑l.length:Int))/\∀(x_1:Int×Int×Int×Int×Int×Bool×Bool×(Int×Int)×List (Int×Int×Int×Int)),l[x.1.toNat]? =some x_1->(Sm E A S R K N/\Ent.InL x_1.2.2.2.2.2.2.2.2)/\(0<=x.1/\x.1<(↑l.length:Int))/\∀(x_2:Int×Int×Int×Int×Int×Bool×Bool×(Int×Int)×List (Int×Int×Int×Int)),l[x.1.toNat]? =some x_2->(Sm E A S R K N/\Ent.InL x_2.2.2.2.2.2.2.2.2)/\(Sm (apF (E,A,S,R,K,N) x_1).1.1 (apF (E,A,S,R,K,N) x_1).1.2.1 (apF (E,A,S,R,K,N) x_1).1.2.2.1 (apF (E,A,S,R,K,N) x_1).1.2.2.2.1 (apF (E,A,S,R,K,N) x_1).1.2.2.2.2.1 (apF (E,A,S,R,K,N) x_1).1.2.2.2.2.2/\Sm (apF (E,A,S,R,K,N) x_2).1.1 (apF (E,A,S,R,K,N) x_2).1.2.1 (apF (E,A,S,R,K,N) x_2).1.2.2.1 (apF (E,A,S,R,K,N) x_2).1.2.2.2.1 (apF (E,A,S,R,K,N) x_2).1.2.2.2.2.1 (apF (E,A,S,R,K,N) x_2).1.2.2.2.2.2)/\((!sameB (apF (E,A,S,R,K,N) x_1).1.1 (apF (E,A,S,R,K,N) x_1).1.2.1 (apF (E,A,S,R,K,N) x_1).1.2.2.1 (apF (E,A,S,R,K,N) x_1).1.2.2.2.1 (apF (E,A,S,R,K,N) x_1).1.2.2.2.2.1 (apF (E,A,S,R,K,N) x_1).1.2.2.2.2.2 (apF (E,A,S,R,K,N) x_2).1.1 (apF (E,A,S,R,K,N) x_2).1.2.1 (apF (E,A,S,R,K,N) x_2).1.2.2.1 (apF (E,A,S,R,K,N) x_2).1.2.2.2.1 (apF (E,A,S,R,K,N) x_2).1.2.2.2.2.1 (apF (E,A,S,R,K,N) x_2).1.2.2.2.2.2)=false->((!decide ((apF (E,A,S,R,K,N) x_1).2=(apF (E,A,S,R,K,N) x_2).2))=true->(false,())=(true,()))/\((!decide ((apF (E,A,S,R,K,N) x_1).2=(apF (E,A,S,R,K,N) x_2).2))=false->(-9223372036854775808<=x.1+1/\x.1+1<=9223372036854775807)/\(some (bx_tell_1 E A S R K N)=some (bx_tell_1 E A S R K N)/\True)/\(0<=x.1+1/\x.1+1<=(↑l.length:Int))/\((↑l.length:Int)-(x.1+1)).toNat<((↑l.length:Int)-x.1).toNat))/\((!sameB (apF (E,A,S,R,K,N) x_1).1.1 (apF (E,A,S,R,K,N) x_1).1.2.1 (apF (E,A,S,R,K,N) x_1).1.2.2.1 (apF (E,A,S,R,K,N) x_1).1.2.2.2.1 (apF (E,A,S,R,K,N) x_1).1.2.2.2.2.1 (apF (E,A,S,R,K,N) x_1).1.2.2.2.2.2 (apF (E,A,S,R,K,N) x_2).1.1 (apF (E,A,S,R,K,N) x_2).1.2.1 (apF (E,A,S,R,K,N) x_2).1.2.2.1 (apF (E,A,S,R,K,N) x_2).1.2.2.2.1 (apF (E,A,S,R,K,N) x_2).1.2.2.2.2.1 (apF (E,A,S,R,K,N) x_2).1.2.2.2.2.2)= !false->(false,())=(true,())))/\(decide (x.1<(↑l.length:Int))=false->(Szn (500000:Nat) (E,A,S,R,K,N)/\l.length<=(500000:Nat)/\InC l)/\(Szn (500000:Nat) (E,A,S,R,K,N)/\l.length<=(500000:Nat)/\InC l)/\(Sm (repF (E,A,S,R,K,N) l).1.1 (repF (E,A,S,R,K,N) l).1.2.1 (repF (E,A,S,R,K,N) l).1.2.2.1 (repF (E,A,S,R,K,N) l).1.2.2.2.1 (repF (E,A,S,R,K,N) l).1.2.2.2.2.1 (repF (E,A,S,R,K,N) l).1.2.2.2.2.2/\Sm (repF (E,A,S,R,K,N) l).1.1 (repF (E,A,S,R,K,N) l).1.2.1 (repF (E,A,S,R,K,N) l).1.2.2.1 (repF (E,A,S,R,K,N) l).1.2.2.2.1 (repF (E,A,S,R,K,N) l).1.2.2.2.2.1 (repF (E,A,S,R,K,N) l).1.2.2.2.2.2)/\(sameB (repF (E,A,S,R,K,N) l).1.1 (repF (E,A,S,R,K,N) l).1.2.1 (repF (E,A,S,R,K,N) l).1.2.2.1 (repF (E,A,S,R,K,N) l).1.2.2.2.1 (repF (E,A,S,R,K,N) l).1.2.2.2.2.1 (repF (E,A,S,R,K,N) l).1.2.2.2.2.2 (repF (E,A,S,R,K,N) l).1.1 (repF (E,A,S,R,K,N) l).1.2.1 (repF (E,A,S,R,K,N) l).1.2.2.1 (repF (E,A,S,R,K,N) l).1.2.2.2.1 (repF (E,A,S,R,K,N) l).1.2.2.2.2.1 (repF (E,A,S,R,K,N) l).1.2.2.2.2.2=true->(decide ((repF (E,A,S,R,K,N) l).2.1=(repF (E,A,S,R,K,N) l).2.1)=true->(decide ((repF (E,A,S,R,K,N) l).2.2=(repF (E,A,S,R,K,N) l).2.2)=true->True/\(true,())=(true,()))/\(decide ((repF (E,A,S,R,K,N) l).2.2=(repF (E,A,S,R,K,N) l).2.2)= !true->(false,())=(true,())))/\(decide ((repF (E,A,S,R,K,N) l).2.1=(repF (E,A,S,R,K,N) l).2.1)= !true->(false,())=(true,())))/\(sameB (repF (E,A,S,R,K,N) l).1.1 (repF (E,A,S,R,K,N) l).1.2.1 (repF (E,A,S,R,K,N) l).1.2.2.1 (repF (E,A,S,R,K,N) l).1.2.2.2.1 (repF (E,A,S,R,K,N) l).1.2.2.2.2.1 (repF (E,A,S,R,K,N) l).1.2.2.2.2.2 (repF (E,A,S,R,K,N) l).1.1 (repF (E,A,S,R,K,N) l).1.2.1 (repF (E,A,S,R,K,N) l).1.2.2.1 (repF (E,A,S,R,K,N) l).1.2.2.2.1 (repF (E,A,S,R,K,N) l).1.2.2.2.2.1 (repF (E,A,S,R,K,N) l).1.2.2.2.2.2= !true->(false,())=(true,()))))))/\((!fewF E A S R K N)= !false->True/\(true,())=(true,()))
theorem g_tell_eq (E:List Int) (A:List Acc.AcD) (S:List Ln) (R:List Rts.Rt) (K:List Lck.Lk) (N:List En) (l:List Cmd.CmD):Cond (env_tell E A S R K N l) Tryz.f3 [.agg [.list .part I E, .list .part AcT A, .list .part LnT S, .list .part RTy R, .list .part Vl K, .list .part EnT N], .list .part CmT l] [.bool] (true,())=g_tell_vc E A S R K N l:=by kernel_rfl
theorem g_tell_ok (E:List Int) (A:List Acc.AcD) (S:List Ln) (R:List Rts.Rt) (K:List Lck.Lk) (N:List En) (l:List Cmd.CmD) (h:Ok E A S R K N/\InC l/\l.length<=9223372036854775807):g_tell_vc E A S R K N l:=by
 obtain ⟨h,hC,hl⟩:=h;unfold g_tell_vc;simp only [decide_eq_true_eq,decide_eq_false_iff_not,Bool.not_eq_true',Bool.not_eq_false',Bool.not_true,Bool.not_false];refine ⟨h.1,fun hf=> ?_,fun _=>⟨trivial,trivial⟩⟩;have hs:=Bks.sm_few E A S R K N h hf;have hz:=szn_few h hf;refine ⟨fun _=>⟨trivial,trivial⟩,fun h12=>⟨hs,fun _=>⟨trivial,trivial⟩,fun _=>⟨⟨⟨trivial,trivial⟩,by omega,by omega⟩, ?_⟩⟩⟩;rintro ⟨i,⟨⟩⟩ ⟨h0,h1⟩;dsimp only at h0 h1⊢;refine ⟨fun hi=>⟨⟨h0,hi⟩,fun x hx=>⟨⟨hs,inc_at hC hx⟩,⟨h0,hi⟩,fun y hy=> ?_⟩⟩,fun hi=> ?_⟩
 ·have e:=Option.some.inj (hx.symm.trans hy);subst e;have ha:=sm_bk (ap_sz hz (inc_at hC hx)) (by decide);refine ⟨⟨hs,inc_at hC hx⟩,⟨ha,ha⟩,fun _=>⟨fun k=>absurd rfl k,fun _=>⟨⟨by omega,by omega⟩,⟨trivial,trivial⟩,⟨by omega,by omega⟩,by omega⟩⟩,fun k=> ?_⟩;rw [same_self] at k;cases k
 ·have hz5:Szn 500000 (E,A,S,R,K,N):=szn_le hz (by decide);have ha:=sm_bk (rep_sz l 500000 (E,A,S,R,K,N) 0 hz5 hC) (by omega);have ha:Sm (repF (E,A,S,R,K,N) l).1.1 (repF (E,A,S,R,K,N) l).1.2.1 (repF (E,A,S,R,K,N) l).1.2.2.1 (repF (E,A,S,R,K,N) l).1.2.2.2.1 (repF (E,A,S,R,K,N) l).1.2.2.2.2.1 (repF (E,A,S,R,K,N) l).1.2.2.2.2.2:=ha;refine ⟨⟨hz5,by omega,hC⟩,⟨hz5,by omega,hC⟩,⟨ha,ha⟩, ?_⟩;simp [same_self]
set_option maxRecDepth 20000
theorem tell_pure (E:List Int) (A:List Acc.AcD) (S:List Ln) (R:List Rts.Rt) (K:List Lck.Lk) (N:List En) (l:List Cmd.CmD) (h:Ok E A S R K N/\InC l/\l.length<=9223372036854775807):Pure Tryz.prog 3 [.agg [.list .part I E, .list .part AcT A, .list .part LnT S, .list .part RTy R, .list .part Vl K, .list .part EnT N], .list .part CmT l] (.bool true):=
 by have k:=Pure.of_cond (g_tell_eq E A S R K N l) (g_tell_ok E A S R K N l h) (specs_ok rfl [Bks.sp_few,sp_awake,Bks.sp_rcheck,sp_apply,sp_rapply,Bks.sp_rsame,sp_replay,sp_rreplay] [] rfl rfl) mixed Tryz.func3;exact k
end Go.Proofs.YtabicbgeoiilmaaGreat.Dsk
end
