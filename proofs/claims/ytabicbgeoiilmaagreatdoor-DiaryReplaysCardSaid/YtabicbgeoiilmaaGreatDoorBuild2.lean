import Derived.Test.YtabicbgeoiilmaaGreatDoorBuild1
noncomputable section
namespace Go.Proofs.YtabicbgeoiilmaaGreatDoor
open Go.Vm
abbrev byD (l:List UInt8):List Int:=l.map fun b=>(b.toNat:Int)
theorem kY (l m:List UInt8):byD (l++m)=byD l++byD m:=RW
theorem eG (l:List UInt8):(byD l).length=l.length:=RI _
theorem pu (l:List UInt8): ∀z:Int,z∈byD l->0<=z/\z<=255:=fun z hz=>by
 obtain ⟨b,_,rfl⟩:=RS.1 hz;have:=b.toNat_lt;omega
theorem mq (l:List UInt8):fA (byD l)=l:=by
 unfold fA byD;rw [SM];have:((fun z:Int=>z.toNat.toUInt8)∘fun b:UInt8=>(b.toNat:Int))=id:=by
  funext b;simp
 rw [this,List.map_id]
def _root_.Go.Vm.OSpec.or {P:Program} (a b:OSpec P) (h:b.f=a.f):OSpec P where
 f:=a.f
 run:=fun args σ=>match a.run args σ with
  |some x=>some x
  |none=>b.run args σ
 ok:=fun args σ pre r σ' he hp=>by
  split at he
  ·rename_i x hx;cases he;exact a.ok _ _ _ _ _ hx hp
  ·rw [<-h];exact b.ok _ _ _ _ _ he hp
def zr (s:List UInt8):Env where
 P:=Tryz.prog
 ty:=aJ
 upd:=bJ [Cy.upd]
 pins:=[9000]
abbrev zt:Ann:={slots:=bB 0 [.int .i64, .any],boxes:=[(9000,[.own 9000 62, .slc 9001 B8])],inv:=fun _ _=>True}
def iR (s:List UInt8):Prop:=
 True/\((List.map (fun b=>(↑b.toNat:Int)) s).length*(1:Nat)<=(140737488355328:Nat)/\(List.map (fun b=>(↑b.toNat:Int)) s).length<=(4611686018427387904:Nat))/\True/\((↑s.length:Int),(),(),List.map (fun b=>(↑b.toNat:Int)) s,())=((↑s.length:Int),(),(),byD s,())
theorem wk (s:List UInt8):dV (zr s) Tryz.f20 [.ptr 9000 0, .str s] [(9000, .box [.own 9000 62, .nils])] [none,none] zt ((s.length:Int),(),(),byD s,())=iR s:=by kernel_rfl
theorem wl (s:List UInt8) (h:s.length<=100000000):iR s:=by
 unfold iR;have e:=eG s;unfold byD at e;exact ⟨trivial,⟨by omega,by omega⟩,trivial,rfl⟩
set_option maxRecDepth 20000
theorem pw (s:List UInt8) (h:s.length<=100000000):UpdC Tryz.prog 20 [.ptr 9000 0, .str s] [(9000, .box [.own 9000 62, .nils])] (.tuple [.int .i64 s.length, .any]) [(9001, .arr 0 B8 (byD s)),(9000, .box [.own 9000 62, .slc 9001 0 none])]:=
 by have k:=UpdC.of_cond (wk s) (wl s h) (ab rfl [] [Cy.upd] rfl rfl) mixed Tryz.func20;exact k
def HE (s:List UInt8):Prop×V×Store:=(s.length<=100000000, .tuple [.int .i64 s.length, .any],[(9001, .arr 0 B8 (byD s)),(9000, .box [.own 9000 62, .slc 9001 0 none])])
def Ea:OSpec Tryz.prog where
 f:=20
 run:=fun args σ=>match args,σ with
  |[.ptr 9000 0, .str s],[(9000, .box [.own 9000 62, .nils])]=>some (HE s)
  |_,_=>none
 ok:=fun args σ pre r σ' h hp=>by
  try dsimp only at h
  split at h
  ·rename_i s;exact eL h hp fun h=>(pw s h).weak (.cons (.refl _) (.cons (.refl _) .nil))
  ·cases h
def zu (s:List UInt8) (d:List Int):Env where
 P:=Tryz.prog
 ty:=aJ
 upd:=bJ [Cy.upd]
 pins:=[9000]
abbrev zv:Ann:={slots:=bB 0 [.int .i64, .any],boxes:=[(9000,[.own 9000 62, .slc 9001 B8])],inv:=fun _ _=>True}
def iS (s:List UInt8) (d:List Int):Prop:=
 True/\((d.length+(List.map (fun b=>(↑b.toNat:Int)) s).length)*(1:Nat)<=(140737488355328:Nat)/\d.length+(List.map (fun b=>(↑b.toNat:Int)) s).length<=(4611686018427387904:Nat))/\True/\((↑s.length:Int),(),(),d++List.map (fun b=>(↑b.toNat:Int)) s,())=((↑s.length:Int),(),(),d++byD s,())
theorem wm (s:List UInt8) (d:List Int):dV (zu s d) Tryz.f20 [.ptr 9000 0, .str s] [(9000, .box [.own 9000 62, .slc 9001 0 none]),(9001, .arr 0 (.int .u8) d)] [none,none] zv ((s.length:Int),(),(),d++byD s,())=iS s d:=by kernel_rfl
theorem wn (s:List UInt8) (d:List Int) (h:s.length+d.length<=100000000):iS s d:=by
 unfold iS;have e:=eG s;unfold byD at e;exact ⟨trivial,⟨by omega,by omega⟩,trivial,rfl⟩
theorem px (s:List UInt8) (d:List Int) (h:s.length+d.length<=100000000):UpdC Tryz.prog 20 [.ptr 9000 0, .str s] [(9000, .box [.own 9000 62, .slc 9001 0 none]),(9001, .arr 0 (.int .u8) d)] (.tuple [.int .i64 s.length, .any]) [(9001, .arr 0 B8 (d++byD s)),(9000, .box [.own 9000 62, .slc 9001 0 none])]:=
 by have k:=UpdC.of_cond (wm s d) (wn s d h) (ab rfl [] [Cy.upd] rfl rfl) mixed Tryz.func20;exact k
def HF (s:List UInt8) (d:List Int):Prop×V×Store:=(s.length+d.length<=100000000, .tuple [.int .i64 s.length, .any],[(9001, .arr 0 B8 (d++byD s)),(9000, .box [.own 9000 62, .slc 9001 0 none])])
def Eb:OSpec Tryz.prog where
 f:=20
 run:=fun args σ=>match args,σ with
  |[.ptr 9000 0, .str s],[(9000, .box [.own 9000 62, .slc 9001 0 none]),(9001, .arr 0 (.int .u8) d)]=>some (HF s d)
  |_,_=>none
 ok:=fun args σ pre r σ' h hp=>by
  try dsimp only at h
  split at h
  ·rename_i s d;exact eL h hp fun h=>(px s d h).weak (.cons (.refl _) (.cons (.refl _) .nil))
  ·cases h
def py:OSpec Tryz.prog:=Ea.or Eb rfl
def HG (d:List Int):Env where
 P:=Tryz.prog
 ty:=aJ
 pins:=[9000]
abbrev HH:Ann:={slots:=bB 0 [.str],boxes:=[(9000,[.own 9000 62, .any])],inv:=fun _ _=>True}
def mr (d:List Int):Prop:=
 (0:Nat)<d.length/\((↑d.length:Int)=(↑d.length:Int)/\(0:Nat)<d.length/\∀(z:Int),z∈d->0<=z/\z<=255)/\True/\(List.map (fun z=>z.toNat.toUInt8) d,(),(),())=(List.map (fun z=>z.toNat.toUInt8) d,(),(),())
theorem Ec (d:List Int):dV (HG d) Tryz.f24 [.ptr 9000 0] [(9000, .box [.own 9000 62, .slc 9001 0 none]),(9001, .arr 0 (.int .u8) d)] [none] HH (fA d,(),(),())=mr d:=by kernel_rfl
theorem Ed (d:List Int) (h:0<d.length/\∀z:Int,z∈d->0<=z/\z<=255):mr d:=by
 unfold mr;exact ⟨h.1,⟨rfl,h.1,h.2⟩,trivial,rfl⟩
theorem wo (d:List Int) (h:0<d.length/\∀z:Int,z∈d->0<=z/\z<=255):UpdC Tryz.prog 24 [.ptr 9000 0] [(9000, .box [.own 9000 62, .slc 9001 0 none]),(9001, .arr 0 (.int .u8) d)] (.str (fA d)) [(9000, .box [.own 9000 62, .any])]:=
 by have k:=UpdC.of_cond (Ec d) (Ed d h) (ab rfl [] [] rfl rfl) mixed Tryz.func24;exact k
def O_ (d:List Int):Prop×V×Store:=(0<d.length/\∀z:Int,z∈d->0<=z/\z<=255, .str (fA d),[(9000, .box [.own 9000 62, .any])])
def L7:OSpec Tryz.prog where
 f:=24
 run:=fun args σ=>match args,σ with
  |[.ptr 9000 0],[(9000, .box [.own 9000 62, .slc 9001 0 none]),(9001, .arr 0 (.int .u8) d)]=>some (O_ d)
  |_,_=>none
 ok:=fun args σ pre r σ' h hp=>by
  try dsimp only at h
  split at h
  ·rename_i d;exact eL h hp fun h=>(wo d h).weak (.cons (.refl _) .nil)
  ·cases h
end Go.Proofs.YtabicbgeoiilmaaGreatDoor
