/-
  Books that are new; some; a copy.
-/
import Derived.Test.YtabicbgeoiilmaaGreatDoorStk8
set_option linter.unusedVariables false
section
namespace Go.Proofs.YtabicbgeoiilmaaGreatDoor.Bks
open Go.Vm
set_option maxRecDepth 20000
def Sm (E:List Int) (A:List Acc.AcD) (S:List Ln) (R:List Rts.Rt) (K:List Lck.Lk) (N:List En):Prop:=E.length<=1000000/\A.length<=1000000/\S.length<=1000000/\R.length<=1000000/\K.length<=1000000/\N.length<=1000000/\InE N
end Go.Proofs.YtabicbgeoiilmaaGreatDoor.Bks
end
section
namespace Go.Proofs.YtabicbgeoiilmaaGreatDoor.Bks
open Go.Vm
end Go.Proofs.YtabicbgeoiilmaaGreatDoor.Bks
end
section
namespace Go.Proofs.YtabicbgeoiilmaaGreatDoor.Bks
open Go.Vm
end Go.Proofs.YtabicbgeoiilmaaGreatDoor.Bks
end
section
namespace Go.Proofs.YtabicbgeoiilmaaGreatDoor.Bks
open Go.Vm
end Go.Proofs.YtabicbgeoiilmaaGreatDoor.Bks
end
section
namespace Go.Proofs.YtabicbgeoiilmaaGreatDoor.Bks
open Go.Vm
instance decLs:DecidableEq (List Ln):=inferInstance
instance decEn:DecidableEq En:= @instDecidableEqProd Int (Int×List Ln) inferInstance (@instDecidableEqProd Int (List Ln) inferInstance decLs)
instance decEns:DecidableEq (List En):= @instDecidableEqList En decEn
set_option maxRecDepth 20000
end Go.Proofs.YtabicbgeoiilmaaGreatDoor.Bks
end
section
namespace Go.Proofs.YtabicbgeoiilmaaGreatDoor.Bks
open Go.Vm
abbrev Po:=Int×Int×Int×Ln
def lnGo (p i:Int):List Ln->Nat->List Po
 |[],_=>[]
 |x::r,k=>(((k+1:Nat):Int),i+1,p,x)::lnGo p i r (k+1)
def poGo:List En->Int->Nat->List Po
 |[],_,_=>[]
 |x::r,i,k=>lnGo x.1 i x.2.2 k++poGo r (i+1) (k+x.2.2.length)
def linesF (N:List En):List Po:=poGo N 0 0
theorem ln_next {p i k:Int} {L:List Ln} {n:Nat} {x:Ln} (h0:0<=k) (hx:L[k.toNat]? =some x):lnGo p i (L.drop k.toNat) n=(((n+1:Nat):Int),i+1,p,x)::lnGo p i (L.drop (k+1).toNat) (n+1):=by
 obtain ⟨h1,h2⟩:=List.getElem?_eq_some_iff.1 hx;rw [List.drop_eq_getElem_cons h1,h2,show (k+1).toNat=k.toNat+1 by omega];rfl
theorem po_next {N:List En} {i:Int} {n:Nat} {x:En} (h0:0<=i) (hx:N[i.toNat]? =some x):poGo (N.drop i.toNat) i n=lnGo x.1 i x.2.2 n++poGo (N.drop (i+1).toNat) (i+1) (n+x.2.2.length):=by
 obtain ⟨h1,h2⟩:=List.getElem?_eq_some_iff.1 hx;rw [List.drop_eq_getElem_cons h1,h2,show (i+1).toNat=i.toNat+1 by omega];rfl
set_option maxRecDepth 20000
def accP (a:Int) (x:Po):Bool:=decide (x.2.2.2.2.1=a)
def usedF (N:List En) (a:Int):Bool:=(linesF N).any (accP a)
end Go.Proofs.YtabicbgeoiilmaaGreatDoor.Bks
end
section
namespace Go.Proofs.YtabicbgeoiilmaaGreatDoor.Bks
open Go.Vm
abbrev nI:List Int:=[]
abbrev nL:List Ln:=[]
abbrev nR:List Rts.Rt:=[]
abbrev nK:List Lck.Lk:=[]
abbrev nE:List En:=[]
noncomputable def env_new:Env where
 P:=Tryz.prog
 ty:=tys0
 specs:=specsOf [Acc.sp_new]
abbrev ann_new:Ann:={slots:=numP 0 [.list .full I, .list .full AcT, .list .full LnT, .list .full RTy, .list .full Vl, .list .full EnT],boxes:=[],inv:=fun _ _=>True}
def g_new_vc:Prop:=
 True/\True/\([],Acc.ownL,[],[],[],[],())=(nI,Acc.ownL,nL,nR,nK,nE,())
theorem g_new_eq:CondG (env_new) Tryz.f18 [] [some 6] ann_new (nI,Acc.ownL,nL,nR,nK,nE,())=g_new_vc:=by kernel_rfl
theorem g_new_ok:g_new_vc:=by
 unfold g_new_vc;exact ⟨trivial,trivial,rfl⟩
set_option maxRecDepth 20000
theorem new_pure:Pure Tryz.prog 18 [] (.agg [.list .full I [], .list .full AcT Acc.ownL, .list .full LnT [], .list .full RTy [], .list .full Vl [], .list .full EnT []]):=
 by have k:=Pure.of_condG (r:=(.agg [.list .full I [], .list .full AcT Acc.ownL, .list .full LnT [], .list .full RTy [], .list .full Vl [], .list .full EnT []])) (g_new_eq) (g_new_ok) rfl (specs_ok rfl [Acc.sp_new] [] rfl rfl) mixed Tryz.func18;exact k
noncomputable def q_new:Prop×V:=(True,(.agg [.list .full I [], .list .full AcT Acc.ownL, .list .full LnT [], .list .full RTy [], .list .full Vl [], .list .full EnT []]))
noncomputable def sp_new:FSpec Tryz.prog where
 f:=18
 run:=fun
  |[]=>some (q_new)
  |_=>none
 ok:=fun args pre r h hp=>by
  split at h
  ·skip;exact of_q h hp fun h=>(new_pure).weak .nil
  ·cases h
noncomputable def env_cli (l:List (Int)):Env where
 P:=Tryz.prog
 ty:=tys0
def g_cli_vc (l:List Int):Prop:=
 ((true=true->l.length=(0:Nat))->([],())=(l,()))/\((false=true->l.length=(0:Nat))->(((0:Nat)+l.length)*(8:Nat)<=(140737488355328:Nat)/\(0:Nat)+l.length<=(4611686018427387904:Nat)/\((0:Nat)<l.length∨(0:Nat)=(0:Nat)))/\(l,())=(l,()))
theorem g_cli_eq (l:List (Int)):Cond (env_cli l) Tryz.f71 [.list .tmp I l] [.slc 0 I] (l,())=g_cli_vc l:=by kernel_rfl
theorem g_cli_ok (l:List (Int)) (h:l.length<=1000000):g_cli_vc l:=by
 unfold g_cli_vc;refine ⟨fun e=> ?_,fun _=>⟨⟨by omega,by omega, .inr rfl⟩,rfl⟩⟩;have:=List.eq_nil_of_length_eq_zero (e rfl);rw [this]
theorem cli_pure (l:List (Int)) (h:l.length<=1000000):Pure Tryz.prog 71 [.list .tmp I l] (.olist I l):=
 by have k:=Pure.of_cond (g_cli_eq l) (g_cli_ok l h) (specs_ok rfl [] [] rfl rfl) mixed Tryz.func71;exact k
noncomputable def q_cli (l:List (Int)):Prop×V:=(l.length<=1000000,(.olist I l))
noncomputable def sp_cli:FSpec Tryz.prog where
 f:=71
 run:=fun
  |[v0]=>(asL I v0:Option (List (Int))).bind fun l=>some (q_cli l)
  |_=>none
 ok:=fun args pre r h hp=>by
  split at h
  ·rename_i v0;obtain ⟨l,h0,h⟩:=Option.bind_eq_some_iff.1 h;exact of_q h hp fun h=>(cli_pure l h).weak (.cons (asL_weak h0) .nil)
  ·cases h
noncomputable def env_cla (l:List (Int×Int×Bool×Bool)):Env where
 P:=Tryz.prog
 ty:=tys0
def g_cla_vc (l:List (Int×Int×Bool×Bool)):Prop:=
 ((true=true->l.length=(0:Nat))->([],())=(l,()))/\((false=true->l.length=(0:Nat))->(((0:Nat)+l.length)*(24:Nat)<=(140737488355328:Nat)/\(0:Nat)+l.length<=(4611686018427387904:Nat)/\((0:Nat)<l.length∨(0:Nat)=(0:Nat)))/\(l,())=(l,()))
theorem g_cla_eq (l:List (Int×Int×Bool×Bool)):Cond (env_cla l) Tryz.f72 [.list .tmp AcT l] [.slc 0 AcT] (l,())=g_cla_vc l:=by kernel_rfl
theorem g_cla_ok (l:List (Int×Int×Bool×Bool)) (h:l.length<=1000000):g_cla_vc l:=by
 unfold g_cla_vc;refine ⟨fun e=> ?_,fun _=>⟨⟨by omega,by omega, .inr rfl⟩,rfl⟩⟩;have:=List.eq_nil_of_length_eq_zero (e rfl);rw [this]
theorem cla_pure (l:List (Int×Int×Bool×Bool)) (h:l.length<=1000000):Pure Tryz.prog 72 [.list .tmp AcT l] (.olist AcT l):=
 by have k:=Pure.of_cond (g_cla_eq l) (g_cla_ok l h) (specs_ok rfl [] [] rfl rfl) mixed Tryz.func72;exact k
noncomputable def q_cla (l:List (Int×Int×Bool×Bool)):Prop×V:=(l.length<=1000000,(.olist AcT l))
noncomputable def sp_cla:FSpec Tryz.prog where
 f:=72
 run:=fun
  |[v0]=>(asL AcT v0:Option (List (Int×Int×Bool×Bool))).bind fun l=>some (q_cla l)
  |_=>none
 ok:=fun args pre r h hp=>by
  split at h
  ·rename_i v0;obtain ⟨l,h0,h⟩:=Option.bind_eq_some_iff.1 h;exact of_q h hp fun h=>(cla_pure l h).weak (.cons (asL_weak h0) .nil)
  ·cases h
noncomputable def env_clk (l:List (Int×Int)):Env where
 P:=Tryz.prog
 ty:=tys0
def g_clk_vc (l:List (Int×Int)):Prop:=
 ((true=true->l.length=(0:Nat))->([],())=(l,()))/\((false=true->l.length=(0:Nat))->(((0:Nat)+l.length)*(16:Nat)<=(140737488355328:Nat)/\(0:Nat)+l.length<=(4611686018427387904:Nat)/\((0:Nat)<l.length∨(0:Nat)=(0:Nat)))/\(l,())=(l,()))
theorem g_clk_eq (l:List (Int×Int)):Cond (env_clk l) Tryz.f75 [.list .tmp Vl l] [.slc 0 Vl] (l,())=g_clk_vc l:=by kernel_rfl
theorem g_clk_ok (l:List (Int×Int)) (h:l.length<=1000000):g_clk_vc l:=by
 unfold g_clk_vc;refine ⟨fun e=> ?_,fun _=>⟨⟨by omega,by omega, .inr rfl⟩,rfl⟩⟩;have:=List.eq_nil_of_length_eq_zero (e rfl);rw [this]
theorem clk_pure (l:List (Int×Int)) (h:l.length<=1000000):Pure Tryz.prog 75 [.list .tmp Vl l] (.olist Vl l):=
 by have k:=Pure.of_cond (g_clk_eq l) (g_clk_ok l h) (specs_ok rfl [] [] rfl rfl) mixed Tryz.func75;exact k
noncomputable def q_clk (l:List (Int×Int)):Prop×V:=(l.length<=1000000,(.olist Vl l))
noncomputable def sp_clk:FSpec Tryz.prog where
 f:=75
 run:=fun
  |[v0]=>(asL Vl v0:Option (List (Int×Int))).bind fun l=>some (q_clk l)
  |_=>none
 ok:=fun args pre r h hp=>by
  split at h
  ·rename_i v0;obtain ⟨l,h0,h⟩:=Option.bind_eq_some_iff.1 h;exact of_q h hp fun h=>(clk_pure l h).weak (.cons (asL_weak h0) .nil)
  ·cases h
noncomputable def env_cle (l:List (En)):Env where
 P:=Tryz.prog
 ty:=tys0
def g_cle_vc (l:List En):Prop:=
 ((true=true->l.length=(0:Nat))->([],())=(l,()))/\((false=true->l.length=(0:Nat))->(((0:Nat)+l.length)*(40:Nat)<=(140737488355328:Nat)/\(0:Nat)+l.length<=(4611686018427387904:Nat)/\((0:Nat)<l.length∨(0:Nat)=(0:Nat)))/\(l,())=(l,()))
theorem g_cle_eq (l:List (En)):Cond (env_cle l) Tryz.f76 [.list .tmp EnT l] [.slc 0 EnT] (l,())=g_cle_vc l:=by kernel_rfl
theorem g_cle_ok (l:List (En)) (h:l.length<=1000000):g_cle_vc l:=by
 unfold g_cle_vc;refine ⟨fun e=> ?_,fun _=>⟨⟨by omega,by omega, .inr rfl⟩,rfl⟩⟩;have:=List.eq_nil_of_length_eq_zero (e rfl);rw [this]
theorem cle_pure (l:List (En)) (h:l.length<=1000000):Pure Tryz.prog 76 [.list .tmp EnT l] (.olist EnT l):=
 by have k:=Pure.of_cond (g_cle_eq l) (g_cle_ok l h) (specs_ok rfl [] [] rfl rfl) mixed Tryz.func76;exact k
noncomputable def q_cle (l:List (En)):Prop×V:=(l.length<=1000000,(.olist EnT l))
noncomputable def sp_cle:FSpec Tryz.prog where
 f:=76
 run:=fun
  |[v0]=>(asL EnT v0:Option (List (En))).bind fun l=>some (q_cle l)
  |_=>none
 ok:=fun args pre r h hp=>by
  split at h
  ·rename_i v0;obtain ⟨l,h0,h⟩:=Option.bind_eq_some_iff.1 h;exact of_q h hp fun h=>(cle_pure l h).weak (.cons (asL_weak h0) .nil)
  ·cases h
theorem set_same {α:Type} {l:List α} {i:Nat} {x:α} (h:l[i]? =some x):l.set i x=l:=by
 refine List.ext_getElem? fun j=> ?_;by_cases c:i=j
 ·subst c;rw [List.getElem?_set_self ((List.getElem?_eq_some_iff.1 h).1),h]
 ·rw [List.getElem?_set_ne c]
noncomputable def env_copy (E:List Int) (A:List Acc.AcD) (S:List Ln) (R:List Rts.Rt) (K:List Lck.Lk) (N:List En):Env where
 P:=Tryz.prog
 ty:=tys0
 specs:=specsOf [sp_cli,sp_cla,Stk.sp_clone,Rts.sp_clone,sp_clk,sp_cle,Ent.sp_clone]
 frz:=fun|8=>true|11=>true|14=>true|17=>true|20=>true|38=>true|_=>false
 heads:=fun|3=>some {slots:=[(28, .int .i64),(23, .slc 23 EnT)],boxes:=[],keep:=[1,2,3],inv:=fun _ (x:Int×List En×Unit)=>0<=x.1/\x.1<=N.length/\x.2.1=N,measure:=fun _ (x:Int×List En×Unit)=>(N.length-x.1).toNat}|_=>none
abbrev ann_copy:Ann:={slots:=numP 0 [.list .part I, .list .part AcT, .list .part LnT, .list .part RTy, .list .part Vl, .list .part EnT],boxes:=[],inv:=fun _ _=>True}
abbrev bx_copy_1 (E:List Int) (A:List Acc.AcD) (S:List Ln) (R:List Rts.Rt) (K:List Lck.Lk):_root_.Go.Vm.Obj:=Obj.box [V.list LK.part I E,V.list LK.part AcT A,V.list LK.part Stk.STy S,V.list LK.part RTy R,V.list LK.part Vl K,V.slc (23:Nat) (0:Nat) none]
abbrev bx_copy_2 (E:List Int) (A:List Acc.AcD) (S:List Ln) (R:List Rts.Rt) (K:List Lck.Lk) (N:List En):_root_.Go.Vm.Obj:=Obj.box [V.list LK.tmp I E,V.list LK.tmp AcT A,V.list LK.tmp LnT S,V.list LK.tmp RTy R,V.list LK.tmp Vl K,V.list LK.tmp EnT N]
def g_copy_vc (E:List Int) (A:List Acc.AcD) (S:List Ln) (R:List Rts.Rt) (K:List Lck.Lk) (N:List En):Prop:=
 E.length<=(1000000:Nat)/\A.length<=(1000000:Nat)/\S.length<=(1000000000:Nat)/\R.length<=(1000000:Nat)/\K.length<=(1000000:Nat)/\N.length<=(1000000:Nat)/\((some (bx_copy_2 E A S R K N)=some (bx_copy_2 E A S R K N)/\some (Obj.box [V.nils,V.nils,V.nils,V.nils,V.nils,V.nils])=some (Obj.box [V.nils,V.nils,V.nils,V.nils,V.nils,V.nils])/\some (bx_copy_1 E A S R K)=some (bx_copy_1 E A S R K)/\True)/\0<=(0:Int)/\0<=(↑N.length:Int)/\N=N)/\∀(x:Int×List (Int×Int×List (Int×Int×Int×Int))×Unit),0<=x.1/\x.1<=(↑N.length:Int)/\x.2.1=N->(decide (x.1<(↑N.length:Int))=true->(0<=x.1/\x.1<(↑N.length:Int))/\∀(x_1:Int×Int×List (Int×Int×Int×Int)),N[x.1.toNat]? =some x_1->x_1.2.2.length<=(1000000000:Nat)/\(0<=x.1/\x.1<(↑x.2.1.length:Int))/\x.1.toNat<x.2.1.length/\∀(y:Int×Int×List (Int×Int×Int×Int)),x.2.1[x.1.toNat]? =some y->(-9223372036854775808<=x.1+1/\x.1+1<=9223372036854775807)/\(some (bx_copy_2 E A S R K N)=some (bx_copy_2 E A S R K N)/\some (Obj.box [V.nils,V.nils,V.nils,V.nils,V.nils,V.nils])=some (Obj.box [V.nils,V.nils,V.nils,V.nils,V.nils,V.nils])/\some (bx_copy_1 E A S R K)=some (bx_copy_1 E A S R K)/\True)/\(0<=x.1+1/\x.1+1<=(↑N.length:Int)/\x.2.1.set x.1.toNat (y.1,y.2.1,x_1.2.2)=N)/\((↑N.length:Int)-(x.1+1)).toNat<((↑N.length:Int)-x.1).toNat)/\(decide (x.1<(↑N.length:Int))=false->True/\(E,A,S,R,K,x.2.1,())=(E,A,S,R,K,N,()))
theorem g_copy_eq (E:List Int) (A:List Acc.AcD) (S:List Ln) (R:List Rts.Rt) (K:List Lck.Lk) (N:List En):CondG (env_copy E A S R K N) Tryz.f42 [.agg [.list .tmp I E, .list .tmp AcT A, .list .tmp LnT S, .list .tmp RTy R, .list .tmp Vl K, .list .tmp EnT N]] [some 6] ann_copy (E,A,S,R,K,N,())=g_copy_vc E A S R K N:=by kernel_rfl
theorem g_copy_ok (E:List Int) (A:List Acc.AcD) (S:List Ln) (R:List Rts.Rt) (K:List Lck.Lk) (N:List En) (h:Sm E A S R K N):g_copy_vc E A S R K N:=by
 unfold g_copy_vc;obtain ⟨l1,l2,l3,l4,l5,l6,hi⟩:=h;refine ⟨by omega,by omega,by omega,by omega,by omega,by omega,⟨⟨rfl,rfl,rfl,trivial⟩,by omega,by omega,rfl⟩, ?_⟩;rintro ⟨i,M,⟨⟩⟩ ⟨h0,h1,hb⟩;dsimp only at h0 h1 hb⊢;subst hb;simp only [decide_eq_true_eq,decide_eq_false_iff_not];refine ⟨fun c=>⟨⟨h0,c⟩,fun x hx=>⟨by have:=(ine_at hi hx).2;omega,⟨h0,c⟩,by omega,fun y hy=>⟨by omega,⟨trivial,trivial,trivial,trivial⟩,⟨by omega,by omega, ?_⟩,by omega⟩⟩⟩,fun c=>⟨trivial,trivial⟩⟩;rw [hx] at hy;cases hy;exact set_same hx
theorem copy_pure (E:List Int) (A:List Acc.AcD) (S:List Ln) (R:List Rts.Rt) (K:List Lck.Lk) (N:List En) (h:Sm E A S R K N):Pure Tryz.prog 42 [.agg [.list .tmp I E, .list .tmp AcT A, .list .tmp LnT S, .list .tmp RTy R, .list .tmp Vl K, .list .tmp EnT N]] (.agg [.list .part I E, .list .part AcT A, .list .part LnT S, .list .part RTy R, .list .part Vl K, .list .part EnT N]):=
 by have k:=Pure.of_condG (r:=(.agg [.list .part I E, .list .part AcT A, .list .part LnT S, .list .part RTy R, .list .part Vl K, .list .part EnT N])) (g_copy_eq E A S R K N) (g_copy_ok E A S R K N h) rfl (specs_ok rfl [sp_cli,sp_cla,Stk.sp_clone,Rts.sp_clone,sp_clk,sp_cle,Ent.sp_clone] [] rfl rfl) mixed Tryz.func42;exact k
noncomputable def q_copy (E:List Int) (A:List Acc.AcD) (S:List Ln) (R:List Rts.Rt) (K:List Lck.Lk) (N:List En):Prop×V:=(Sm E A S R K N,(.agg [.list .part I E, .list .part AcT A, .list .part LnT S, .list .part RTy R, .list .part Vl K, .list .part EnT N]))
noncomputable def sp_copy:FSpec Tryz.prog where
 f:=42
 run:=fun
  |[.agg [v0_0,v0_1,v0_2,v0_3,v0_4,v0_5]]=>(asL I v0_0:Option (List Int)).bind fun E=>(asL AcT v0_1:Option (List Acc.AcD)).bind fun A=>(asL LnT v0_2:Option (List Ln)).bind fun S=>(asL RTy v0_3:Option (List Rts.Rt)).bind fun R=>(asL Vl v0_4:Option (List Lck.Lk)).bind fun K=>(asL EnT v0_5:Option (List En)).bind fun N=>some (q_copy E A S R K N)
  |_=>none
 ok:=fun args pre r h hp=>by
  split at h
  ·rename_i v0_0 v0_1 v0_2 v0_3 v0_4 v0_5;obtain ⟨E,h0_0,h⟩:=Option.bind_eq_some_iff.1 h;obtain ⟨A,h0_1,h⟩:=Option.bind_eq_some_iff.1 h;obtain ⟨S,h0_2,h⟩:=Option.bind_eq_some_iff.1 h;obtain ⟨R,h0_3,h⟩:=Option.bind_eq_some_iff.1 h;obtain ⟨K,h0_4,h⟩:=Option.bind_eq_some_iff.1 h;obtain ⟨N,h0_5,h⟩:=Option.bind_eq_some_iff.1 h;exact of_q h hp fun h=>(copy_pure E A S R K N h).weak (.cons (Weak.agg (.cons (asL_weak h0_0) (.cons (asL_weak h0_1) (.cons (asL_weak h0_2) (.cons (asL_weak h0_3) (.cons (asL_weak h0_4) (.cons (asL_weak h0_5) .nil))))))) .nil)
  ·cases h
end Go.Proofs.YtabicbgeoiilmaaGreatDoor.Bks
end
