/-
  StakeHolds, StakeTells, StakeSpans: the statements.
-/
import Derived.Test.YtoiofigknkpieaaRows
import Derived.Test.YtoiofigknkpieaaStake11
import Derived.Test.YtoiofigknkpieaaVm24
import Derived.WalkKit
import Derived.ProofKit
namespace Go.Proofs.Ytoiofigknkpieaa
open Go.Vm Go.ChangeShapes Go.WideShapes Go.ChangeAt

theorem own : ownKnob Try.prog.godebug = none := by kernel_rfl
theorem laid : laidOutB Try.prog = true := by kernel_rfl

set_option maxRecDepth 100000 in
theorem holds_lifted (os : Os) (started : os.Started) (H : Type) (enc : TypeId × Value → H) :
    ReturnsInHanded {} Try.checked os 4 .any (Rows.stakeHoldsSpec.pre6 enc Try.prog Try.f4 Rows.stakeHoldsRow.domain false) (Rows.stakeHoldsSpec.post enc Try.prog Try.f4 false true false false) := by
  refine returnsInHanded_of_change (C := Try.checked) own started (by kernel_rfl) Try.func4
    (ChangeSpec.witness6 (enc := enc) (C := Try.checked) false ⟨#[], #[.slice none 0 0, .int .i64 0, .int .i64 0], []⟩ 8 (by kernel_rfl) (by kernel_rfl) (by kernel_rfl) (by kernel_rfl)) ?_
  intro W base args ds gs before hval hW _ _
  exact law_contract (l := [(22, .slice STy), (3, I), (3, I)]) (rt := 4) laid (by rw [Try.params4]; rfl) (by kernel_rfl) (by kernel_rfl) (by kernel_rfl) (by kernel_rfl) rfl (fun ds h => match ds, h with | [_, _, _], _ => rfl)
    (fun x hx => (holds_pure x.1 x.2.1 x.2.2.1).weak (.cons (asL_weak rfl) (.cons (Weak.refl _) (.cons (Weak.refl _) .nil)))) W base args ds gs before hval hW

/-- 'StakeHolds' holds: for every list of stakes, entity and period the call returns true, and the arguments read as before. No condition. -/
theorem holds_said : Rows.StakeHoldsSaid :=
  OpenClaim.holds_of_wide 4 Try.f4 rfl rfl rfl rfl rfl rfl rfl ⟨rfl, rfl, rfl, rfl, rfl⟩ rfl rfl rfl rfl rfl (by kernel_rfl) Try.func4 (by kernel_rfl)
    (of_decide_eq_true (by kernel_rfl)) (by unfold Func.isWrapper; first | (rw [if_pos (by decide +kernel)]; kernel_rfl) | (rw [if_neg (by decide +kernel)]; exact ⟨rfl, rfl⟩))
    (fun os started H enc _ => holds_lifted os started H enc)
set_option maxRecDepth 100000 in
theorem tells_lifted (os : Os) (started : os.Started) (H : Type) (enc : TypeId × Value → H) :
    ReturnsInHanded {} Try.checked os 3 .any (Rows.stakeTellsSpec.pre6 enc Try.prog Try.f3 Rows.stakeTellsRow.domain false) (Rows.stakeTellsSpec.post enc Try.prog Try.f3 false true false false) := by
  refine returnsInHanded_of_change (C := Try.checked) own started (by kernel_rfl) Try.func3
    (ChangeSpec.witness6 (enc := enc) (C := Try.checked) false ⟨#[], #[.slice none 0 0, .agg #[.int .i64 0, .int .i64 0, .int .i64 0, .int .i64 0], .int .i64 0], []⟩ 8 (by kernel_rfl) (by kernel_rfl) (by kernel_rfl) (by kernel_rfl)) ?_
  intro W base args ds gs before hval hW _ _
  exact law_contract (l := [(22, .slice STy), (24, STy), (3, I)]) (rt := 4) laid (by rw [Try.params3]; rfl) (by kernel_rfl) (by kernel_rfl) (by kernel_rfl) (by kernel_rfl) rfl (fun ds h => match ds, h with | [_, _, _], _ => rfl)
    (fun x hx => (tells_pure x.1 x.2.1.1 x.2.1.2.1 x.2.1.2.2.1 x.2.1.2.2.2 x.2.2.1).weak (.cons (asL_weak rfl) (.cons (Weak.refl _) (.cons (Weak.refl _) .nil)))) W base args ds gs before hval hW

/-- 'StakeTells' holds: for every list of stakes, stake and number the call returns true, and the arguments read as before. No condition. -/
theorem tells_said : Rows.StakeTellsSaid :=
  OpenClaim.holds_of_wide 3 Try.f3 rfl rfl rfl rfl rfl rfl rfl ⟨rfl, rfl, rfl, rfl, rfl⟩ rfl rfl rfl rfl rfl (by kernel_rfl) Try.func3 (by kernel_rfl)
    (of_decide_eq_true (by kernel_rfl)) (by unfold Func.isWrapper; first | (rw [if_pos (by decide +kernel)]; kernel_rfl) | (rw [if_neg (by decide +kernel)]; exact ⟨rfl, rfl⟩))
    (fun os started H enc _ => tells_lifted os started H enc)
set_option maxRecDepth 100000 in
theorem spansLaw_lifted (os : Os) (started : os.Started) (H : Type) (enc : TypeId × Value → H) :
    ReturnsInHanded {} Try.checked os 7 .any (Rows.stakeSpansSpec.pre6 enc Try.prog Try.f7 Rows.stakeSpansRow.domain false) (Rows.stakeSpansSpec.post enc Try.prog Try.f7 false true false false) := by
  refine returnsInHanded_of_change (C := Try.checked) own started (by kernel_rfl) Try.func7
    (ChangeSpec.witness6 (enc := enc) (C := Try.checked) false ⟨#[], #[.slice none 0 0, .int .i64 0], []⟩ 8 (by kernel_rfl) (by kernel_rfl) (by kernel_rfl) (by kernel_rfl)) ?_
  intro W base args ds gs before hval hW _ _
  exact law_contract (l := [(22, .slice STy), (3, I)]) (rt := 4) laid (by rw [Try.params7]; rfl) (by kernel_rfl) (by kernel_rfl) (by kernel_rfl) (by kernel_rfl) rfl (fun ds h => match ds, h with | [_, _], _ => rfl)
    (fun x hx => (spansLaw_pure x.1 x.2.1).weak (.cons (asL_weak rfl) (.cons (Weak.refl _) .nil))) W base args ds gs before hval hW

/-- 'StakeSpans' holds: for every list of stakes and entity the call returns true, and the arguments read as before. No condition. -/
theorem spansLaw_said : Rows.StakeSpansSaid :=
  OpenClaim.holds_of_wide 7 Try.f7 rfl rfl rfl rfl rfl rfl rfl ⟨rfl, rfl, rfl, rfl, rfl⟩ rfl rfl rfl rfl rfl (by kernel_rfl) Try.func7 (by kernel_rfl)
    (of_decide_eq_true (by kernel_rfl)) (by unfold Func.isWrapper; first | (rw [if_pos (by decide +kernel)]; kernel_rfl) | (rw [if_neg (by decide +kernel)]; exact ⟨rfl, rfl⟩))
    (fun os started H enc _ => spansLaw_lifted os started H enc)

end Go.Proofs.Ytoiofigknkpieaa
