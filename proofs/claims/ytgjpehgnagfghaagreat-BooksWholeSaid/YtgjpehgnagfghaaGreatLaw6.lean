/-
  BooksWhole: the statement.
-/
import Derived.Test.YtgjpehgnagfghaaGreatLaw0
import Derived.Test.YtgjpehgnagfghaaGreatLaw4
namespace Go.Proofs.YtgjpehgnagfghaaGreat.Bks
open Go.Vm Go.ChangeShapes Go.WideShapes Go.ChangeAt
set_option maxRecDepth 100000 in
theorem whole_lifted (os : Os) (started : os.Started) (H : Type) (enc : TypeId × Value → H) :
    ReturnsInHanded {} Tryz.checked os 6 .any (Rows.booksWholeSpec.pre6 enc Tryz.prog Tryz.f6 Rows.booksWholeRow.domain false) (Rows.booksWholeSpec.post enc Tryz.prog Tryz.f6 false true false false) := by
  refine returnsInHanded_of_change (C := Tryz.checked) own started (by kernel_rfl) Tryz.func6
    (ChangeSpec.witness6 (enc := enc) (C := Tryz.checked) false ⟨#[], #[.agg #[.slice none 0 0, .slice none 0 0, .slice none 0 0, .slice none 0 0, .slice none 0 0, .slice none 0 0]], []⟩ 8 (by kernel_rfl) (by kernel_rfl) (by kernel_rfl) (by kernel_rfl)) ?_
  intro W base args ds gs before hval hW _ _
  exact law_contract (l := [(29, BTy)]) (rt := 4) laid (by rw [Tryz.params6]; rfl) (by kernel_rfl) (by kernel_rfl) (by kernel_rfl) (by kernel_rfl) rfl (fun ds h => match ds, h with | [_], _ => rfl)
    (fun x hx => (books_whole_pure x.1.1 x.1.2.1 x.1.2.2.1 x.1.2.2.2.1 x.1.2.2.2.2.1 x.1.2.2.2.2.2 (ok_of hx)).weak (.cons (Weak.agg (.cons (asL_weak rfl) (.cons (asL_weak rfl) (.cons (asL_weak rfl) (.cons (asL_weak rfl) (.cons (asL_weak rfl) (.cons (asL_weak rfl) .nil))))))) .nil)) W ⟨[], trivial, fun e he => by simp at he⟩ base args ds gs before hval hW
theorem whole_said : Rows.BooksWholeSaid :=
  OpenClaim.holds_of_wide 6 Tryz.f6 rfl rfl rfl rfl rfl rfl rfl ⟨rfl, rfl, rfl, rfl, rfl⟩ rfl rfl rfl rfl rfl (by kernel_rfl) Tryz.func6 (by kernel_rfl)
    (of_decide_eq_true (by kernel_rfl)) (by unfold Func.isWrapper; first | (rw [if_pos (by decide +kernel)]; kernel_rfl) | (rw [if_neg (by decide +kernel)]; exact ⟨rfl, rfl⟩))
    (fun os started H enc _ => whole_lifted os started H enc)
end Go.Proofs.YtgjpehgnagfghaaGreat.Bks
