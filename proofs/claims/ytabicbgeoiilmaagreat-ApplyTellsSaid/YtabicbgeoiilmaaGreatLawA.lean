/-
  ApplyTells: the statement.
-/
import Derived.Test.YtabicbgeoiilmaaGreatLawO
import Derived.Test.YtabicbgeoiilmaaGreatDskB
namespace Go.Proofs.YtabicbgeoiilmaaGreat.Dsk
open Go.Vm Go.ChangeShapes Go.WideShapes Go.ChangeAt
set_option maxRecDepth 100000 in
theorem tell_lifted (os:Os) (started:os.Started) (H:Type) (enc:TypeId×Value->H):
 ReturnsInHanded {} Tryz.checked os 3 .any (Rows.applyTellsSpec.pre6 enc Tryz.prog Tryz.f3 Rows.applyTellsRow.domain false) (Rows.applyTellsSpec.post enc Tryz.prog Tryz.f3 false true false false):=by
 refine returnsInHanded_of_change (C:=Tryz.checked) own started (by kernel_rfl) Tryz.func3
  (ChangeSpec.witness6 (enc:=enc) (C:=Tryz.checked) false ⟨#[], #[.agg #[.slice none 0 0, .slice none 0 0, .slice none 0 0, .slice none 0 0, .slice none 0 0, .slice none 0 0], .slice none 0 0],[]⟩ 8 (by kernel_rfl) (by kernel_rfl) (by kernel_rfl) (by kernel_rfl)) ?_
 intro W base args ds gs before hval hW _ _;exact law_contract (l:=[(29,BTy),(30, .slice CmT)]) (rt:=4) laid (by rw [Tryz.params3];rfl) (by kernel_rfl) (by kernel_rfl) (by kernel_rfl) (by kernel_rfl) rfl (fun ds h=>match ds,h with|[_,_],_=>rfl)
  (fun x hx=>(tell_pure x.1.1 x.1.2.1 x.1.2.2.1 x.1.2.2.2.1 x.1.2.2.2.2.1 x.1.2.2.2.2.2 x.2.1 ⟨ok_of hx,okC_of hx⟩)) W ⟨[],trivial,fun e he=>by simp at he⟩ base args ds gs before hval hW
theorem tell_said:Rows.ApplyTellsSaid:=
 OpenClaim.holds_of_wide 3 Tryz.f3 rfl rfl rfl rfl rfl rfl rfl ⟨rfl,rfl,rfl,rfl,rfl⟩ rfl rfl rfl rfl rfl (by kernel_rfl) Tryz.func3 (by kernel_rfl)
  (of_decide_eq_true (by kernel_rfl)) (by unfold Func.isWrapper;first|(rw [if_pos (by decide+kernel)];kernel_rfl)|(rw [if_neg (by decide+kernel)];exact ⟨rfl,rfl⟩))
  (fun os started H enc _=>tell_lifted os started H enc)
end Go.Proofs.YtabicbgeoiilmaaGreat.Dsk
