/-
  Books that are new; some; a copy.
-/
import Derived.Test.YtabicbgeoiilmaaGreatDoorStk8
set_option linter.unusedVariables false
section
namespace Go.Proofs.YtabicbgeoiilmaaGreatDoor.Bks
open Go.Vm
set_option maxRecDepth 20000
def Sm (E:List Int) (A:List Acc.AcD) (S:List Ln) (R:List Rts.Rt) (K:List Lck.Lk) (N:List En):Prop:=E.length<=1000000/\A.length<=1000000/\S.length<=1000000/\R.length<=1000000/\K.length<=1000000/\N.length<=1000000/\InE N
end Go.Proofs.YtabicbgeoiilmaaGreatDoor.Bks
end
section
namespace Go.Proofs.YtabicbgeoiilmaaGreatDoor.Bks
open Go.Vm
end Go.Proofs.YtabicbgeoiilmaaGreatDoor.Bks
end
section
namespace Go.Proofs.YtabicbgeoiilmaaGreatDoor.Bks
open Go.Vm
end Go.Proofs.YtabicbgeoiilmaaGreatDoor.Bks
end
section
namespace Go.Proofs.YtabicbgeoiilmaaGreatDoor.Bks
open Go.Vm
end Go.Proofs.YtabicbgeoiilmaaGreatDoor.Bks
end
section
namespace Go.Proofs.YtabicbgeoiilmaaGreatDoor.Bks
open Go.Vm
instance decLs:DecidableEq (List Ln):=inferInstance
instance decEn:DecidableEq En:= @instDecidableEqProd Int (Int×List Ln) inferInstance (@instDecidableEqProd Int (List Ln) inferInstance decLs)
instance decEns:DecidableEq (List En):= @instDecidableEqList En decEn
set_option maxRecDepth 20000
end Go.Proofs.YtabicbgeoiilmaaGreatDoor.Bks
end
section
namespace Go.Proofs.YtabicbgeoiilmaaGreatDoor.Bks
open Go.Vm
abbrev Po:=Int×Int×Int×Ln
def lnGo (p i:Int):List Ln->Nat->List Po
 |[],_=>[]
 |x::r,k=>(((k+1:Nat):Int),i+1,p,x)::lnGo p i r (k+1)
def poGo:List En->Int->Nat->List Po
 |[],_,_=>[]
 |x::r,i,k=>lnGo x.1 i x.2.2 k++poGo r (i+1) (k+x.2.2.length)
def linesF (N:List En):List Po:=poGo N 0 0
theorem ln_next {p i k:Int} {L:List Ln} {n:Nat} {x:Ln} (h0:0<=k) (hx:L[k.toNat]? =some x):lnGo p i (L.drop k.toNat) n=(((n+1:Nat):Int),i+1,p,x)::lnGo p i (L.drop (k+1).toNat) (n+1):=by
 obtain ⟨h1,h2⟩:=List.getElem?_eq_some_iff.1 hx;rw [List.drop_eq_getElem_cons h1,h2,show (k+1).toNat=k.toNat+1 by omega];rfl
theorem po_next {N:List En} {i:Int} {n:Nat} {x:En} (h0:0<=i) (hx:N[i.toNat]? =some x):poGo (N.drop i.toNat) i n=lnGo x.1 i x.2.2 n++poGo (N.drop (i+1).toNat) (i+1) (n+x.2.2.length):=by
 obtain ⟨h1,h2⟩:=List.getElem?_eq_some_iff.1 hx;rw [List.drop_eq_getElem_cons h1,h2,show (i+1).toNat=i.toNat+1 by omega];rfl
set_option maxRecDepth 20000
def accP (a:Int) (x:Po):Bool:=decide (x.2.2.2.2.1=a)
def usedF (N:List En) (a:Int):Bool:=(linesF N).any (accP a)
end Go.Proofs.YtabicbgeoiilmaaGreatDoor.Bks
end
section
namespace Go.Proofs.YtabicbgeoiilmaaGreatDoor.Bks
open Go.Vm
abbrev nI:List Int:=[]
abbrev nL:List Ln:=[]
abbrev nR:List Rts.Rt:=[]
abbrev nK:List Lck.Lk:=[]
abbrev nE:List En:=[]
noncomputable def env_new:Env where
 P:=Tryz.prog
 ty:=tys0
 specs:=specsOf [Acc.sp_new]
abbrev ann_new:Ann:={slots:=numP 0 [.list .full I, .list .full AcT, .list .full LnT, .list .full RTy, .list .full Vl, .list .full EnT],boxes:=[],inv:=fun _ _=>True}
def g_new_vc:Prop:=
 True/\True/\([],Acc.ownL,[],[],[],[],())=(nI,Acc.ownL,nL,nR,nK,nE,())
theorem g_new_ok:g_new_vc:=by
 unfold g_new_vc;exact ⟨trivial,trivial,rfl⟩
set_option maxRecDepth 20000
noncomputable def sp_new:FSpec Tryz.prog:=mkG 18 .z (fun x=>(True,(.agg [.list .full I [], .list .full AcT Acc.ownL, .list .full LnT [], .list .full RTy [], .list .full Vl [], .list .full EnT []]))) fun _ _=>Pure.of_condG (E:=env_new) (sh:=[some 6]) (ann:=ann_new) (x:=(nI,Acc.ownL,nL,nR,nK,nE,())) (by kernel_rfl) g_new_ok rfl (specs_ok rfl _ [] rfl rfl) mixed Tryz.func18
noncomputable def env_cli (l:List (Int)):Env where
 P:=Tryz.prog
 ty:=tys0
def g_cli_vc (l:List Int):Prop:=
 ((true=true->l.length=(0:Nat))->([],())=(l,()))/\((false=true->l.length=(0:Nat))->(((0:Nat)+l.length)*(8:Nat)<=(140737488355328:Nat)/\(0:Nat)+l.length<=(4611686018427387904:Nat)/\((0:Nat)<l.length∨(0:Nat)=(0:Nat)))/\(l,())=(l,()))
theorem g_cli_ok (l:List (Int)) (h:l.length<=1000000):g_cli_vc l:=by
 unfold g_cli_vc;refine ⟨fun e=> ?_,fun _=>⟨⟨by omega,by omega, .inr rfl⟩,rfl⟩⟩;have:=List.eq_nil_of_length_eq_zero (e rfl);rw [this]
noncomputable def sp_cli:FSpec Tryz.prog:=mkF 71 (.c (.l I) .z) [.slc 0 I] (fun x=>(fun (l:List (Int))=>(l.length<=1000000,l,())) x.1) fun ⟨l,_⟩ h=>Pure.of_cond (E:=env_cli l) (by kernel_rfl) (g_cli_ok l h) (specs_ok rfl [] [] rfl rfl) mixed Tryz.func71
noncomputable def env_cla (l:List (Int×Int×Bool×Bool)):Env where
 P:=Tryz.prog
 ty:=tys0
def g_cla_vc (l:List (Int×Int×Bool×Bool)):Prop:=
 ((true=true->l.length=(0:Nat))->([],())=(l,()))/\((false=true->l.length=(0:Nat))->(((0:Nat)+l.length)*(24:Nat)<=(140737488355328:Nat)/\(0:Nat)+l.length<=(4611686018427387904:Nat)/\((0:Nat)<l.length∨(0:Nat)=(0:Nat)))/\(l,())=(l,()))
theorem g_cla_ok (l:List (Int×Int×Bool×Bool)) (h:l.length<=1000000):g_cla_vc l:=by
 unfold g_cla_vc;refine ⟨fun e=> ?_,fun _=>⟨⟨by omega,by omega, .inr rfl⟩,rfl⟩⟩;have:=List.eq_nil_of_length_eq_zero (e rfl);rw [this]
noncomputable def sp_cla:FSpec Tryz.prog:=mkF 72 (.c (.l AcT) .z) [.slc 0 AcT] (fun x=>(fun (l:List (Int×Int×Bool×Bool))=>(l.length<=1000000,l,())) x.1) fun ⟨l,_⟩ h=>Pure.of_cond (E:=env_cla l) (by kernel_rfl) (g_cla_ok l h) (specs_ok rfl [] [] rfl rfl) mixed Tryz.func72
noncomputable def env_clk (l:List (Int×Int)):Env where
 P:=Tryz.prog
 ty:=tys0
def g_clk_vc (l:List (Int×Int)):Prop:=
 ((true=true->l.length=(0:Nat))->([],())=(l,()))/\((false=true->l.length=(0:Nat))->(((0:Nat)+l.length)*(16:Nat)<=(140737488355328:Nat)/\(0:Nat)+l.length<=(4611686018427387904:Nat)/\((0:Nat)<l.length∨(0:Nat)=(0:Nat)))/\(l,())=(l,()))
theorem g_clk_ok (l:List (Int×Int)) (h:l.length<=1000000):g_clk_vc l:=by
 unfold g_clk_vc;refine ⟨fun e=> ?_,fun _=>⟨⟨by omega,by omega, .inr rfl⟩,rfl⟩⟩;have:=List.eq_nil_of_length_eq_zero (e rfl);rw [this]
noncomputable def sp_clk:FSpec Tryz.prog:=mkF 75 (.c (.l Vl) .z) [.slc 0 Vl] (fun x=>(fun (l:List (Int×Int))=>(l.length<=1000000,l,())) x.1) fun ⟨l,_⟩ h=>Pure.of_cond (E:=env_clk l) (by kernel_rfl) (g_clk_ok l h) (specs_ok rfl [] [] rfl rfl) mixed Tryz.func75
noncomputable def env_cle (l:List (En)):Env where
 P:=Tryz.prog
 ty:=tys0
def g_cle_vc (l:List En):Prop:=
 ((true=true->l.length=(0:Nat))->([],())=(l,()))/\((false=true->l.length=(0:Nat))->(((0:Nat)+l.length)*(40:Nat)<=(140737488355328:Nat)/\(0:Nat)+l.length<=(4611686018427387904:Nat)/\((0:Nat)<l.length∨(0:Nat)=(0:Nat)))/\(l,())=(l,()))
theorem g_cle_ok (l:List (En)) (h:l.length<=1000000):g_cle_vc l:=by
 unfold g_cle_vc;refine ⟨fun e=> ?_,fun _=>⟨⟨by omega,by omega, .inr rfl⟩,rfl⟩⟩;have:=List.eq_nil_of_length_eq_zero (e rfl);rw [this]
noncomputable def sp_cle:FSpec Tryz.prog:=mkF 76 (.c (.l EnT) .z) [.slc 0 EnT] (fun x=>(fun (l:List (En))=>(l.length<=1000000,l,())) x.1) fun ⟨l,_⟩ h=>Pure.of_cond (E:=env_cle l) (by kernel_rfl) (g_cle_ok l h) (specs_ok rfl [] [] rfl rfl) mixed Tryz.func76
theorem set_same {α:Type} {l:List α} {i:Nat} {x:α} (h:l[i]? =some x):l.set i x=l:=by
 refine List.ext_getElem? fun j=> ?_;by_cases c:i=j
 ·subst c;rw [List.getElem?_set_self ((List.getElem?_eq_some_iff.1 h).1),h]
 ·rw [List.getElem?_set_ne c]
noncomputable def env_copy (E:List Int) (A:List Acc.AcD) (S:List Ln) (R:List Rts.Rt) (K:List Lck.Lk) (N:List En):Env where
 P:=Tryz.prog
 ty:=tys0
 specs:=specsOf [sp_cli,sp_cla,Stk.sp_clone,Rts.sp_clone,sp_clk,sp_cle,Ent.sp_clone]
 frz:=fun|8=>true|11=>true|14=>true|17=>true|20=>true|38=>true|_=>false
 heads:=fun|3=>some {slots:=[(28, .int .i64),(23, .slc 23 EnT)],boxes:=[],keep:=[1,2,3],inv:=fun _ (x:Int×List En×Unit)=>0<=x.1/\x.1<=N.length/\x.2.1=N,measure:=fun _ (x:Int×List En×Unit)=>(N.length-x.1).toNat}|_=>none
abbrev ann_copy:Ann:={slots:=numP 0 [.list .part I, .list .part AcT, .list .part LnT, .list .part RTy, .list .part Vl, .list .part EnT],boxes:=[],inv:=fun _ _=>True}
abbrev bx_copy_1 (E:List Int) (A:List Acc.AcD) (S:List Ln) (R:List Rts.Rt) (K:List Lck.Lk):_root_.Go.Vm.Obj:=Obj.box [V.list LK.part I E,V.list LK.part AcT A,V.list LK.part Stk.STy S,V.list LK.part RTy R,V.list LK.part Vl K,V.slc (23:Nat) (0:Nat) none]
abbrev bx_copy_2 (E:List Int) (A:List Acc.AcD) (S:List Ln) (R:List Rts.Rt) (K:List Lck.Lk) (N:List En):_root_.Go.Vm.Obj:=Obj.box [V.list LK.tmp I E,V.list LK.tmp AcT A,V.list LK.tmp LnT S,V.list LK.tmp RTy R,V.list LK.tmp Vl K,V.list LK.tmp EnT N]
def g_copy_vc (E:List Int) (A:List Acc.AcD) (S:List Ln) (R:List Rts.Rt) (K:List Lck.Lk) (N:List En):Prop:=
 E.length<=(1000000:Nat)/\A.length<=(1000000:Nat)/\S.length<=(1000000000:Nat)/\R.length<=(1000000:Nat)/\K.length<=(1000000:Nat)/\N.length<=(1000000:Nat)/\((some (bx_copy_2 E A S R K N)=some (bx_copy_2 E A S R K N)/\some (Obj.box [V.nils,V.nils,V.nils,V.nils,V.nils,V.nils])=some (Obj.box [V.nils,V.nils,V.nils,V.nils,V.nils,V.nils])/\some (bx_copy_1 E A S R K)=some (bx_copy_1 E A S R K)/\True)/\0<=(0:Int)/\0<=(↑N.length:Int)/\N=N)/\∀(x:Int×List (Int×Int×List (Int×Int×Int×Int))×Unit),0<=x.1/\x.1<=(↑N.length:Int)/\x.2.1=N->(decide (x.1<(↑N.length:Int))=true->(0<=x.1/\x.1<(↑N.length:Int))/\∀(x_1:Int×Int×List (Int×Int×Int×Int)),N[x.1.toNat]? =some x_1->x_1.2.2.length<=(1000000000:Nat)/\(0<=x.1/\x.1<(↑x.2.1.length:Int))/\x.1.toNat<x.2.1.length/\∀(y:Int×Int×List (Int×Int×Int×Int)),x.2.1[x.1.toNat]? =some y->(-9223372036854775808<=x.1+1/\x.1+1<=9223372036854775807)/\(some (bx_copy_2 E A S R K N)=some (bx_copy_2 E A S R K N)/\some (Obj.box [V.nils,V.nils,V.nils,V.nils,V.nils,V.nils])=some (Obj.box [V.nils,V.nils,V.nils,V.nils,V.nils,V.nils])/\some (bx_copy_1 E A S R K)=some (bx_copy_1 E A S R K)/\True)/\(0<=x.1+1/\x.1+1<=(↑N.length:Int)/\x.2.1.set x.1.toNat (y.1,y.2.1,x_1.2.2)=N)/\((↑N.length:Int)-(x.1+1)).toNat<((↑N.length:Int)-x.1).toNat)/\(decide (x.1<(↑N.length:Int))=false->True/\(E,A,S,R,K,x.2.1,())=(E,A,S,R,K,N,()))
theorem g_copy_ok (E:List Int) (A:List Acc.AcD) (S:List Ln) (R:List Rts.Rt) (K:List Lck.Lk) (N:List En) (h:Sm E A S R K N):g_copy_vc E A S R K N:=by
 unfold g_copy_vc;obtain ⟨l1,l2,l3,l4,l5,l6,hi⟩:=h;refine ⟨by omega,by omega,by omega,by omega,by omega,by omega,⟨⟨rfl,rfl,rfl,trivial⟩,by omega,by omega,rfl⟩, ?_⟩;rintro ⟨i,M,⟨⟩⟩ ⟨h0,h1,hb⟩;dsimp only at h0 h1 hb⊢;subst hb;simp only [decide_eq_true_eq,decide_eq_false_iff_not];refine ⟨fun c=>⟨⟨h0,c⟩,fun x hx=>⟨by have:=(ine_at hi hx).2;omega,⟨h0,c⟩,by omega,fun y hy=>⟨by omega,⟨trivial,trivial,trivial,trivial⟩,⟨by omega,by omega, ?_⟩,by omega⟩⟩⟩,fun c=>⟨trivial,trivial⟩⟩;rw [hx] at hy;cases hy;exact set_same hx
noncomputable def sp_copy:FSpec Tryz.prog:=mkG 42 (.c (.g (.c (.l I) (.c (.l AcT) (.c (.l LnT) (.c (.l RTy) (.c (.l Vl) (.c (.l EnT) .z))))))) .z) (fun x=>(fun (E:List Int) (A:List Acc.AcD) (S:List Ln) (R:List Rts.Rt) (K:List Lck.Lk) (N:List En)=>(Sm E A S R K N,(.agg [.list .part I E, .list .part AcT A, .list .part LnT S, .list .part RTy R, .list .part Vl K, .list .part EnT N]))) x.1.1 x.1.2.1 x.1.2.2.1 x.1.2.2.2.1 x.1.2.2.2.2.1 x.1.2.2.2.2.2.1) fun ⟨⟨E,A,S,R,K,N,_⟩,_⟩ h=>Pure.of_condG (E:=env_copy E A S R K N) (sh:=[some 6]) (ann:=ann_copy) (x:=(fun (E:List Int) (A:List Acc.AcD) (S:List Ln) (R:List Rts.Rt) (K:List Lck.Lk) (N:List En)=>(E,A,S,R,K,N,())) E A S R K N) (by kernel_rfl) (g_copy_ok E A S R K N h) rfl (specs_ok rfl _ [] rfl rfl) mixed Tryz.func42
end Go.Proofs.YtabicbgeoiilmaaGreatDoor.Bks
end
