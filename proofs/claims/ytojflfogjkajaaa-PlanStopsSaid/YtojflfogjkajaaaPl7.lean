/-
  PlanTells, PlanBounds, PlanStops: the statements.
-/
import Derived.Test.YtojflfogjkajaaaRows
import Derived.Test.YtojflfogjkajaaaPl6
import Derived.WalkKit
import Derived.ProofKit
namespace Go.Proofs.Ytojflfogjkajaaa.Pl
open Go.Vm Go.ChangeShapes Go.WideShapes Go.ChangeAt
open Go.Proofs.Ytojflfogjkajaaa.Gr Go.Proofs.Ytojflfogjkajaaa.Rc
theorem own : ownKnob Try.prog.godebug = none := by kernel_rfl
theorem laid : laidOutB Try.prog = true := by kernel_rfl
abbrev CaT : Ty := .pair (.slice I) (.slice .bool)
set_option maxRecDepth 100000 in
theorem ptells_lifted (os : Os) (started : os.Started) (H : Type) (enc : TypeId × Value → H) :
    ReturnsInHanded {} Try.checked os 12 .any (Rows.planTellsSpec.pre6 enc Try.prog Try.f12 Rows.planTellsRow.domain false) (Rows.planTellsSpec.post enc Try.prog Try.f12 false true false false) := by
  refine returnsInHanded_of_change (C := Try.checked) own started (by kernel_rfl) Try.func12
    (ChangeSpec.witness6 (enc := enc) (C := Try.checked) false ⟨#[], #[.int .i64 0, .slice none 0 0, .agg #[.slice none 0 0, .slice none 0 0]], []⟩ 8 (by kernel_rfl) (by kernel_rfl) (by kernel_rfl) (by kernel_rfl)) ?_
  intro W base args ds gs before hval hW _ _
  exact law_contract (l := [(3, I), (22, .slice AcT), (64, CaT)]) (rt := 4) laid (by rw [Try.params12]; rfl) (by kernel_rfl) (by kernel_rfl) (by kernel_rfl) (by kernel_rfl) rfl (fun ds h => match ds, h with | [_, _, _], _ => rfl)
    (fun x hx => (Od.ptells_pure x.1 x.2.1 x.2.2.1.1 x.2.2.1.2).weak (.cons (Weak.refl _) (.cons (asL_weak rfl) (.cons (Weak.agg (.cons (asL_weak rfl) (.cons (asL_weak rfl) .nil))) .nil)))) W ⟨[], trivial, fun e he => by simp at he⟩ base args ds gs before hval hW
theorem ptells_said : Rows.PlanTellsSaid :=
  OpenClaim.holds_of_wide 12 Try.f12 rfl rfl rfl rfl rfl rfl rfl ⟨rfl, rfl, rfl, rfl, rfl⟩ rfl rfl rfl rfl rfl (by kernel_rfl) Try.func12 (by kernel_rfl)
    (of_decide_eq_true (by kernel_rfl)) (by unfold Func.isWrapper; first | (rw [if_pos (by decide +kernel)]; kernel_rfl) | (rw [if_neg (by decide +kernel)]; exact ⟨rfl, rfl⟩))
    (fun os started H enc _ => ptells_lifted os started H enc)
set_option maxRecDepth 100000 in
theorem pbounds_lifted (os : Os) (started : os.Started) (H : Type) (enc : TypeId × Value → H) :
    ReturnsInHanded {} Try.checked os 13 .any (Rows.planBoundsSpec.pre6 enc Try.prog Try.f13 Rows.planBoundsRow.domain false) (Rows.planBoundsSpec.post enc Try.prog Try.f13 false true false false) := by
  refine returnsInHanded_of_change (C := Try.checked) own started (by kernel_rfl) Try.func13
    (ChangeSpec.witness6 (enc := enc) (C := Try.checked) false ⟨#[], #[.int .i64 0, .slice none 0 0, .agg #[.slice none 0 0, .slice none 0 0]], []⟩ 8 (by kernel_rfl) (by kernel_rfl) (by kernel_rfl) (by kernel_rfl)) ?_
  intro W base args ds gs before hval hW _ _
  exact law_contract (l := [(3, I), (22, .slice AcT), (64, CaT)]) (rt := 4) laid (by rw [Try.params13]; rfl) (by kernel_rfl) (by kernel_rfl) (by kernel_rfl) (by kernel_rfl) rfl (fun ds h => match ds, h with | [_, _, _], _ => rfl)
    (fun x hx => (Od.pbounds_pure x.1 x.2.1 x.2.2.1.1 x.2.2.1.2).weak (.cons (Weak.refl _) (.cons (asL_weak rfl) (.cons (Weak.agg (.cons (asL_weak rfl) (.cons (asL_weak rfl) .nil))) .nil)))) W ⟨[], trivial, fun e he => by simp at he⟩ base args ds gs before hval hW
theorem pbounds_said : Rows.PlanBoundsSaid :=
  OpenClaim.holds_of_wide 13 Try.f13 rfl rfl rfl rfl rfl rfl rfl ⟨rfl, rfl, rfl, rfl, rfl⟩ rfl rfl rfl rfl rfl (by kernel_rfl) Try.func13 (by kernel_rfl)
    (of_decide_eq_true (by kernel_rfl)) (by unfold Func.isWrapper; first | (rw [if_pos (by decide +kernel)]; kernel_rfl) | (rw [if_neg (by decide +kernel)]; exact ⟨rfl, rfl⟩))
    (fun os started H enc _ => pbounds_lifted os started H enc)
set_option maxRecDepth 100000 in
theorem pstops_lifted (os : Os) (started : os.Started) (H : Type) (enc : TypeId × Value → H) :
    ReturnsInHanded {} Try.checked os 14 .any (Rows.planStopsSpec.pre6 enc Try.prog Try.f14 Rows.planStopsRow.domain false) (Rows.planStopsSpec.post enc Try.prog Try.f14 false true false false) := by
  refine returnsInHanded_of_change (C := Try.checked) own started (by kernel_rfl) Try.func14
    (ChangeSpec.witness6 (enc := enc) (C := Try.checked) false ⟨#[], #[.int .i64 0, .slice none 0 0, .agg #[.slice none 0 0, .slice none 0 0]], []⟩ 8 (by kernel_rfl) (by kernel_rfl) (by kernel_rfl) (by kernel_rfl)) ?_
  intro W base args ds gs before hval hW _ _
  exact law_contract (l := [(3, I), (22, .slice AcT), (64, CaT)]) (rt := 4) laid (by rw [Try.params14]; rfl) (by kernel_rfl) (by kernel_rfl) (by kernel_rfl) (by kernel_rfl) rfl (fun ds h => match ds, h with | [_, _, _], _ => rfl)
    (fun x hx => (Od.pstops_pure x.1 x.2.1 x.2.2.1.1 x.2.2.1.2).weak (.cons (Weak.refl _) (.cons (asL_weak rfl) (.cons (Weak.agg (.cons (asL_weak rfl) (.cons (asL_weak rfl) .nil))) .nil)))) W ⟨[], trivial, fun e he => by simp at he⟩ base args ds gs before hval hW
theorem pstops_said : Rows.PlanStopsSaid :=
  OpenClaim.holds_of_wide 14 Try.f14 rfl rfl rfl rfl rfl rfl rfl ⟨rfl, rfl, rfl, rfl, rfl⟩ rfl rfl rfl rfl rfl (by kernel_rfl) Try.func14 (by kernel_rfl)
    (of_decide_eq_true (by kernel_rfl)) (by unfold Func.isWrapper; first | (rw [if_pos (by decide +kernel)]; kernel_rfl) | (rw [if_neg (by decide +kernel)]; exact ⟨rfl, rfl⟩))
    (fun os started H enc _ => pstops_lifted os started H enc)
end Go.Proofs.Ytojflfogjkajaaa.Pl
