/-
  The document's Encode, Decode: the walks.
-/
import Derived.Test.YtabicbgeoiilmaaGreatDoorDry1
namespace Go.Proofs.YtabicbgeoiilmaaGreatDoor.Dry
open Go.Vm
set_option maxRecDepth 20000
open Classical in
noncomputable def sameL (l m:List Cm.CmD):Bool:=decide (l=m)
theorem sameL_yes {l m:List Cm.CmD} (h:l=m):sameL l m=true:=by
 unfold sameL;exact @decide_eq_true _ (_) h
theorem sameL_no {l m:List Cm.CmD} (h: ¬l=m):sameL l m=false:=by
 unfold sameL;exact @decide_eq_false _ (_) h
noncomputable def env_sameAll (l m:List Cm.CmD):Env where
 P:=Tryz.prog
 ty:=tys1
 specs:=specsOf [Cm.sp_csame]
 frz:=fun|25=>true|_=>false
 heads:=fun|4=>some {slots:=[(5, .int .i64)],boxes:=[],inv:=fun _ (x:Int×Unit)=>0<=x.1/\x.1<=l.length/\l.take x.1.toNat=m.take x.1.toNat,measure:=fun _ (x:Int×Unit)=>(l.length-x.1).toNat}|_=>none
def g_sameAll_vc (l:List Cm.CmD) (m:List Cm.CmD):Prop:=
 ((!decide ((↑l.length:Int)=(↑m.length:Int)))=true->(false,())=(sameL l m,()))/\((!decide ((↑l.length:Int)=(↑m.length:Int)))=false->(True/\0<=(0:Int)/\0<=(↑l.length:Int)/\List.take (Int.toNat (0:Int)) l=List.take (Int.toNat (0:Int)) m)/\∀(x:Int×Unit),0<=x.1/\x.1<=(↑l.length:Int)/\List.take x.1.toNat l=List.take x.1.toNat m->(decide (x.1<(↑l.length:Int))=true->(0<=x.1/\x.1<(↑l.length:Int))/\∀(x_1:Int×Int×Int×Int×Int×Bool×Bool×(Int×Int)×List (Int×Int×Int×Int)),l[x.1.toNat]? =some x_1->(0<=x.1/\x.1<(↑m.length:Int))/\∀(x_2:Int×Int×Int×Int×Int×Bool×Bool×(Int×Int)×List (Int×Int×Int×Int)),m[x.1.toNat]? =some x_2->x_1.2.2.2.2.2.2.2.2.length<=(1000000000:Nat)/\((!Cm.sameC x_1 x_2)=true->(false,())=(sameL l m,()))/\((!Cm.sameC x_1 x_2)=false->(-9223372036854775808<=x.1+1/\x.1+1<=9223372036854775807)/\True/\(0<=x.1+1/\x.1+1<=(↑l.length:Int)/\List.take (x.1+1).toNat l=List.take (x.1+1).toNat m)/\((↑l.length:Int)-(x.1+1)).toNat<((↑l.length:Int)-x.1).toNat))/\(decide (x.1<(↑l.length:Int))=false->(true,())=(sameL l m,())))
theorem g_sameAll_eq (l m:List Cm.CmD):Cond (env_sameAll l m) Tryz.f13 [.list .tmp Cm l, .list .tmp Cm m] [.bool] (sameL l m,())=g_sameAll_vc l m:=by kernel_rfl
theorem g_sameAll_ok (l m:List Cm.CmD) (h:l.length<=1000000/\∀c∈l,(Cm.linesF c).length<=1000000000):g_sameAll_vc l m:=by
 unfold g_sameAll_vc;simp only [decide_eq_true_eq,decide_eq_false_iff_not,Bool.not_eq_true',Bool.not_eq_false',Bool.not_true,Bool.not_false];refine ⟨fun c=>by rw [sameL_no (fun e=>c (by rw [e]))],fun c=>⟨⟨trivial,by omega,by omega,rfl⟩, ?_⟩⟩;rintro ⟨i,⟨⟩⟩ ⟨i0,i1,ht⟩;dsimp only at i0 i1 ht⊢;refine ⟨fun g=>⟨⟨i0,g⟩,fun x hx=>⟨⟨i0,by omega⟩,fun y hy=>⟨h.2 x (List.mem_of_getElem? hx),fun a=> ?_,fun a=>⟨by omega,trivial,⟨by omega,by omega, ?_⟩,by omega⟩⟩⟩⟩,fun g=> ?_⟩
 ·rw [sameL_no];intro e;subst e;rw [hx] at hy;cases hy;have:Cm.sameC x x=true:=(Cm.sameC_iff x x).2 rfl;exact absurd (this.symm.trans a) (by decide)
 ·have a:x=y:=(Cm.sameC_iff x y).1 a;subst a;rw [show (i+1).toNat=i.toNat+1 by omega,List.take_add_one,List.take_add_one,hx,hy,ht]
 ·rw [List.take_of_length_le (by omega),List.take_of_length_le (by omega)] at ht;rw [sameL_yes ht]
theorem sameAll_pure (l m:List Cm.CmD) (h:l.length<=1000000/\∀c∈l,(Cm.linesF c).length<=1000000000):Pure Tryz.prog 13 [.list .tmp Cm l, .list .tmp Cm m] (.bool (sameL l m)):=
 by have k:=Pure.of_cond (g_sameAll_eq l m) (g_sameAll_ok l m h) (specs_ok rfl [Cm.sp_csame] [] rfl rfl) mixed Tryz.func13;exact k
noncomputable def q_sameAll (l m:List Cm.CmD):Prop×V:=(l.length<=1000000/\∀c∈l,(Cm.linesF c).length<=1000000000,(.bool (sameL l m)))
noncomputable def sp_sameAll:FSpec Tryz.prog where
 f:=13
 run:=fun
  |[v0,v1]=>(asL Cm v0:Option (List Cm.CmD)).bind fun l=>(asL Cm v1:Option (List Cm.CmD)).bind fun m=>some (q_sameAll l m)
  |_=>none
 ok:=fun args pre r h hp=>by
  split at h
  ·rename_i v0 v1;obtain ⟨l,h0,h⟩:=Option.bind_eq_some_iff.1 h;obtain ⟨m,h1,h⟩:=Option.bind_eq_some_iff.1 h;exact of_q h hp fun h=>(sameAll_pure l m h).weak (.cons (asL_weak h0) (.cons (asL_weak h1) .nil))
  ·cases h
def fewC (l:List Cm.CmD):Bool:=decide (l.length<=40)&& !l.any fun c=>decide (60<(Cm.linesF c).length)
noncomputable def env_few (l:List Cm.CmD):Env where
 P:=Tryz.prog
 ty:=tys1
 heads:=fun|4=>some {slots:=[(3, .int .i64)],boxes:=[],inv:=fun _ (x:Int×Unit)=>0<=x.1/\x.1<=l.length/\l.length<=40/\(l.take x.1.toNat).any (fun c=>decide (60<(Cm.linesF c).length))=false,measure:=fun _ (x:Int×Unit)=>(l.length-x.1).toNat}|_=>none
def g_few_vc (l:List Cm.CmD):Prop:=
 (decide ((40:Int)<(↑l.length:Int))=true->(false,())=(fewC l,()))/\(decide ((40:Int)<(↑l.length:Int))=false->(True/\0<=(0:Int)/\0<=(↑l.length:Int)/\l.length<=(40:Nat)/\((List.take (Int.toNat (0:Int)) l).any fun c=>decide ((60:Nat)<(Cm.linesF c).length))=false)/\∀(x:Int×Unit),0<=x.1/\x.1<=(↑l.length:Int)/\l.length<=(40:Nat)/\((List.take x.1.toNat l).any fun c=>decide ((60:Nat)<(Cm.linesF c).length))=false->(decide (x.1<(↑l.length:Int))=true->(0<=x.1/\x.1<(↑l.length:Int))/\∀(x_1:Int×Int×Int×Int×Int×Bool×Bool×(Int×Int)×List (Int×Int×Int×Int)),l[x.1.toNat]? =some x_1->(decide ((60:Int)<(↑x_1.2.2.2.2.2.2.2.2.length:Int))=true->(false,())=(fewC l,()))/\(decide ((60:Int)<(↑x_1.2.2.2.2.2.2.2.2.length:Int))=false->(-9223372036854775808<=x.1+1/\x.1+1<=9223372036854775807)/\True/\(0<=x.1+1/\x.1+1<=(↑l.length:Int)/\l.length<=(40:Nat)/\((List.take (x.1+1).toNat l).any fun c=>decide ((60:Nat)<(Cm.linesF c).length))=false)/\((↑l.length:Int)-(x.1+1)).toNat<((↑l.length:Int)-x.1).toNat))/\(decide (x.1<(↑l.length:Int))=false->(true,())=(fewC l,())))
theorem g_few_eq (l:List Cm.CmD):Cond (env_few l) Tryz.f7 [.list .tmp Cm l] [.bool] (fewC l,())=g_few_vc l:=by kernel_rfl
theorem g_few_ok (l:List Cm.CmD) (h:l.length<=9223372036854775807):g_few_vc l:=by
 unfold g_few_vc fewC;simp only [decide_eq_true_eq,decide_eq_false_iff_not,Bool.not_eq_true',Bool.not_eq_false',Bool.not_true,Bool.not_false];refine ⟨fun c=>by rw [decide_eq_false (by omega)];rfl,fun c=>⟨⟨trivial,by omega,by omega,by omega,rfl⟩, ?_⟩⟩;rintro ⟨i,⟨⟩⟩ ⟨i0,i1,i2,ht⟩;dsimp only at i0 i1 ht⊢;refine ⟨fun g=>⟨⟨i0,g⟩,fun x hx=>⟨fun a=> ?_,fun a=>⟨by omega,trivial,⟨by omega,by omega,i2, ?_⟩,by omega⟩⟩⟩,fun g=> ?_⟩
 ·rw [show (l.any fun c=>decide (60<(Cm.linesF c).length))=true from List.any_eq_true.2 ⟨x,List.mem_of_getElem? hx,decide_eq_true (by unfold Cm.linesF;omega)⟩,Bool.not_true,Bool.and_false]
 ·rw [show (i+1).toNat=i.toNat+1 by omega,List.take_add_one,hx,List.any_append,ht];simp only [Option.toList_some,List.any_cons,List.any_nil,Bool.or_false,Bool.false_or];exact decide_eq_false (by unfold Cm.linesF;omega)
 ·rw [List.take_of_length_le (by omega)] at ht;rw [ht,decide_eq_true i2];rfl
theorem few_pure (l:List Cm.CmD) (h:l.length<=9223372036854775807):Pure Tryz.prog 7 [.list .tmp Cm l] (.bool (fewC l)):=
 by have k:=Pure.of_cond (g_few_eq l) (g_few_ok l h) (specs_ok rfl [] [] rfl rfl) mixed Tryz.func7;exact k
noncomputable def q_few (l:List Cm.CmD):Prop×V:=(l.length<=9223372036854775807,(.bool (fewC l)))
noncomputable def sp_few:FSpec Tryz.prog where
 f:=7
 run:=fun
  |[v0]=>(asL Cm v0:Option (List Cm.CmD)).bind fun l=>some (q_few l)
  |_=>none
 ok:=fun args pre r h hp=>by
  split at h
  ·rename_i v0;obtain ⟨l,h0,h⟩:=Option.bind_eq_some_iff.1 h;exact of_q h hp fun h=>(few_pure l h).weak (.cons (asL_weak h0) .nil)
  ·cases h
end Go.Proofs.YtabicbgeoiilmaaGreatDoor.Dry
