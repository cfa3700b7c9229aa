/-
  strings.Builder: what is written, and the string of it.
-/
import Derived.Test.YtabicbgeoiilmaaGreatDoorBuild1
namespace Go.Proofs.YtabicbgeoiilmaaGreatDoor
open Go.Vm
abbrev byD (l:List UInt8):List Int:=l.map fun b=>(b.toNat:Int)
theorem byD_app (l m:List UInt8):byD (l++m)=byD l++byD m:=List.map_append
theorem byD_len (l:List UInt8):(byD l).length=l.length:=List.length_map _
theorem byD_in (l:List UInt8): ∀z:Int,z∈byD l->0<=z/\z<=255:=fun z hz=>by
 obtain ⟨b,_,rfl⟩:=List.mem_map.1 hz;have:=b.toNat_lt;omega
theorem strOf_byD (l:List UInt8):strOf (byD l)=l:=by
 unfold strOf byD;rw [List.map_map];have:((fun z:Int=>z.toNat.toUInt8)∘fun b:UInt8=>(b.toNat:Int))=id:=by
  funext b;simp
 rw [this,List.map_id]
noncomputable def _root_.Go.Vm.OSpec.or {P:Program} (a b:OSpec P) (h:b.f=a.f):OSpec P where
 f:=a.f
 run:=fun args σ=>match a.run args σ with
  |some x=>some x
  |none=>b.run args σ
 ok:=fun args σ pre r σ' he hp=>by
  split at he
  ·rename_i x hx;cases he;exact a.ok _ _ _ _ _ hx hp
  ·rw [<-h];exact b.ok _ _ _ _ _ he hp
noncomputable def env_write0 (s:List UInt8):Env where
 P:=Tryz.prog
 ty:=tys0
 upd:=updsOf [so_cc.upd]
 pins:=[9000]
abbrev ann_write0:Ann:={slots:=numP 0 [.int .i64, .any],boxes:=[(9000,[.own 9000 62, .slc 9001 B8])],inv:=fun _ _=>True}
def g_write0_vc (s:List UInt8):Prop:=
 True/\((List.map (fun b=>(↑b.toNat:Int)) s).length*(1:Nat)<=(140737488355328:Nat)/\(List.map (fun b=>(↑b.toNat:Int)) s).length<=(4611686018427387904:Nat))/\True/\((↑s.length:Int),(),(),List.map (fun b=>(↑b.toNat:Int)) s,())=((↑s.length:Int),(),(),byD s,())
theorem g_write0_eq (s:List UInt8):CondO (env_write0 s) Tryz.f20 [.ptr 9000 0, .str s] [(9000, .box [.own 9000 62, .nils])] [none,none] ann_write0 ((s.length:Int),(),(),byD s,())=g_write0_vc s:=by kernel_rfl
theorem g_write0_ok (s:List UInt8) (h:s.length<=100000000):g_write0_vc s:=by
 unfold g_write0_vc;have e:=byD_len s;unfold byD at e;exact ⟨trivial,⟨by omega,by omega⟩,trivial,rfl⟩
set_option maxRecDepth 20000
theorem write0_upd (s:List UInt8) (h:s.length<=100000000):UpdC Tryz.prog 20 [.ptr 9000 0, .str s] [(9000, .box [.own 9000 62, .nils])] (.tuple [.int .i64 s.length, .any]) [(9001, .arr 0 B8 (byD s)),(9000, .box [.own 9000 62, .slc 9001 0 none])]:=
 by have k:=UpdC.of_cond (g_write0_eq s) (g_write0_ok s h) (specs_ok rfl [] [so_cc.upd] rfl rfl) mixed Tryz.func20;exact k
noncomputable def q_write0 (s:List UInt8):Prop×V×Store:=(s.length<=100000000, .tuple [.int .i64 s.length, .any],[(9001, .arr 0 B8 (byD s)),(9000, .box [.own 9000 62, .slc 9001 0 none])])
noncomputable def so_write0:OSpec Tryz.prog where
 f:=20
 run:=fun args σ=>match args,σ with
  |[.ptr 9000 0, .str s],[(9000, .box [.own 9000 62, .nils])]=>some (q_write0 s)
  |_,_=>none
 ok:=fun args σ pre r σ' h hp=>by
  try dsimp only at h
  split at h
  ·rename_i s;exact of_qo h hp fun h=>(write0_upd s h).weak (.cons (.refl _) (.cons (.refl _) .nil))
  ·cases h
noncomputable def env_write1 (s:List UInt8) (d:List Int):Env where
 P:=Tryz.prog
 ty:=tys0
 upd:=updsOf [so_cc.upd]
 pins:=[9000]
abbrev ann_write1:Ann:={slots:=numP 0 [.int .i64, .any],boxes:=[(9000,[.own 9000 62, .slc 9001 B8])],inv:=fun _ _=>True}
def g_write1_vc (s:List UInt8) (d:List Int):Prop:=
 True/\((d.length+(List.map (fun b=>(↑b.toNat:Int)) s).length)*(1:Nat)<=(140737488355328:Nat)/\d.length+(List.map (fun b=>(↑b.toNat:Int)) s).length<=(4611686018427387904:Nat))/\True/\((↑s.length:Int),(),(),d++List.map (fun b=>(↑b.toNat:Int)) s,())=((↑s.length:Int),(),(),d++byD s,())
theorem g_write1_eq (s:List UInt8) (d:List Int):CondO (env_write1 s d) Tryz.f20 [.ptr 9000 0, .str s] [(9000, .box [.own 9000 62, .slc 9001 0 none]),(9001, .arr 0 (.int .u8) d)] [none,none] ann_write1 ((s.length:Int),(),(),d++byD s,())=g_write1_vc s d:=by kernel_rfl
theorem g_write1_ok (s:List UInt8) (d:List Int) (h:s.length+d.length<=100000000):g_write1_vc s d:=by
 unfold g_write1_vc;have e:=byD_len s;unfold byD at e;exact ⟨trivial,⟨by omega,by omega⟩,trivial,rfl⟩
theorem write1_upd (s:List UInt8) (d:List Int) (h:s.length+d.length<=100000000):UpdC Tryz.prog 20 [.ptr 9000 0, .str s] [(9000, .box [.own 9000 62, .slc 9001 0 none]),(9001, .arr 0 (.int .u8) d)] (.tuple [.int .i64 s.length, .any]) [(9001, .arr 0 B8 (d++byD s)),(9000, .box [.own 9000 62, .slc 9001 0 none])]:=
 by have k:=UpdC.of_cond (g_write1_eq s d) (g_write1_ok s d h) (specs_ok rfl [] [so_cc.upd] rfl rfl) mixed Tryz.func20;exact k
noncomputable def q_write1 (s:List UInt8) (d:List Int):Prop×V×Store:=(s.length+d.length<=100000000, .tuple [.int .i64 s.length, .any],[(9001, .arr 0 B8 (d++byD s)),(9000, .box [.own 9000 62, .slc 9001 0 none])])
noncomputable def so_write1:OSpec Tryz.prog where
 f:=20
 run:=fun args σ=>match args,σ with
  |[.ptr 9000 0, .str s],[(9000, .box [.own 9000 62, .slc 9001 0 none]),(9001, .arr 0 (.int .u8) d)]=>some (q_write1 s d)
  |_,_=>none
 ok:=fun args σ pre r σ' h hp=>by
  try dsimp only at h
  split at h
  ·rename_i s d;exact of_qo h hp fun h=>(write1_upd s d h).weak (.cons (.refl _) (.cons (.refl _) .nil))
  ·cases h
noncomputable def so_write:OSpec Tryz.prog:=so_write0.or so_write1 rfl
noncomputable def env_bstr (d:List Int):Env where
 P:=Tryz.prog
 ty:=tys0
 pins:=[9000]
abbrev ann_bstr:Ann:={slots:=numP 0 [.str],boxes:=[(9000,[.own 9000 62, .any])],inv:=fun _ _=>True}
def g_bstr_vc (d:List Int):Prop:=
 (0:Nat)<d.length/\((↑d.length:Int)=(↑d.length:Int)/\(0:Nat)<d.length/\∀(z:Int),z∈d->0<=z/\z<=(255:Int))/\True/\(List.map (fun z=>z.toNat.toUInt8) d,(),(),())=(List.map (fun z=>z.toNat.toUInt8) d,(),(),())
theorem g_bstr_eq (d:List Int):CondO (env_bstr d) Tryz.f24 [.ptr 9000 0] [(9000, .box [.own 9000 62, .slc 9001 0 none]),(9001, .arr 0 (.int .u8) d)] [none] ann_bstr (strOf d,(),(),())=g_bstr_vc d:=by kernel_rfl
theorem g_bstr_ok (d:List Int) (h:0<d.length/\∀z:Int,z∈d->0<=z/\z<=255):g_bstr_vc d:=by
 unfold g_bstr_vc;exact ⟨h.1,⟨rfl,h.1,h.2⟩,trivial,rfl⟩
theorem bstr_upd (d:List Int) (h:0<d.length/\∀z:Int,z∈d->0<=z/\z<=255):UpdC Tryz.prog 24 [.ptr 9000 0] [(9000, .box [.own 9000 62, .slc 9001 0 none]),(9001, .arr 0 (.int .u8) d)] (.str (strOf d)) [(9000, .box [.own 9000 62, .any])]:=
 by have k:=UpdC.of_cond (g_bstr_eq d) (g_bstr_ok d h) (specs_ok rfl [] [] rfl rfl) mixed Tryz.func24;exact k
noncomputable def q_bstr (d:List Int):Prop×V×Store:=(0<d.length/\∀z:Int,z∈d->0<=z/\z<=255, .str (strOf d),[(9000, .box [.own 9000 62, .any])])
noncomputable def so_bstr:OSpec Tryz.prog where
 f:=24
 run:=fun args σ=>match args,σ with
  |[.ptr 9000 0],[(9000, .box [.own 9000 62, .slc 9001 0 none]),(9001, .arr 0 (.int .u8) d)]=>some (q_bstr d)
  |_,_=>none
 ok:=fun args σ pre r σ' h hp=>by
  try dsimp only at h
  split at h
  ·rename_i d;exact of_qo h hp fun h=>(bstr_upd d h).weak (.cons (.refl _) .nil)
  ·cases h
end Go.Proofs.YtabicbgeoiilmaaGreatDoor
