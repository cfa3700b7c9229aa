/-
  ReachTells, ReachSteps, ReachCloses: the statements.
-/
import Derived.Test.YtojflfogjkajaaaRows
import Derived.Test.YtojflfogjkajaaaRc7
import Derived.WalkKit
import Derived.ProofKit
namespace Go.Proofs.Ytojflfogjkajaaa.Rc
open Go.Vm Go.ChangeShapes Go.WideShapes Go.ChangeAt

theorem own : ownKnob Try.prog.godebug = none := by kernel_rfl
theorem laid : laidOutB Try.prog = true := by kernel_rfl
set_option maxRecDepth 100000 in
theorem tells_lifted (os : Os) (started : os.Started) (H : Type) (enc : TypeId × Value → H) :
    ReturnsInHanded {} Try.checked os 6 .any (Rows.reachTellsSpec.pre6 enc Try.prog Try.f6 Rows.reachTellsRow.domain false) (Rows.reachTellsSpec.post enc Try.prog Try.f6 false true false false) := by
  refine returnsInHanded_of_change (C := Try.checked) own started (by kernel_rfl) Try.func6
    (ChangeSpec.witness6 (enc := enc) (C := Try.checked) false ⟨#[], #[.int .i64 0, .slice none 0 0, .slice none 0 0], []⟩ 8 (by kernel_rfl) (by kernel_rfl) (by kernel_rfl) (by kernel_rfl)) ?_
  intro W base args ds gs before hval hW _ _
  exact law_contract (l := [(3, I), (22, .slice AcT), (36, .slice I)]) (rt := 4) laid (by rw [Try.params6]; rfl) (by kernel_rfl) (by kernel_rfl) (by kernel_rfl) (by kernel_rfl) rfl (fun ds h => match ds, h with | [_, _, _], _ => rfl)
    (fun x hx => (tells_pure x.1 x.2.1 x.2.2.1).weak (.cons (Weak.refl _) (.cons (asL_weak rfl) (.cons (asL_weak rfl) .nil)))) W ⟨[], trivial, fun e he => by simp at he⟩ base args ds gs before hval hW

/-- 'ReachTells' holds: for every number, acts and nodes the call returns true, and the arguments read as before. No condition. -/
theorem tells_said : Rows.ReachTellsSaid :=
  OpenClaim.holds_of_wide 6 Try.f6 rfl rfl rfl rfl rfl rfl rfl ⟨rfl, rfl, rfl, rfl, rfl⟩ rfl rfl rfl rfl rfl (by kernel_rfl) Try.func6 (by kernel_rfl)
    (of_decide_eq_true (by kernel_rfl)) (by unfold Func.isWrapper; first | (rw [if_pos (by decide +kernel)]; kernel_rfl) | (rw [if_neg (by decide +kernel)]; exact ⟨rfl, rfl⟩))
    (fun os started H enc _ => tells_lifted os started H enc)
set_option maxRecDepth 100000 in
theorem lsteps_lifted (os : Os) (started : os.Started) (H : Type) (enc : TypeId × Value → H) :
    ReturnsInHanded {} Try.checked os 7 .any (Rows.reachStepsSpec.pre6 enc Try.prog Try.f7 Rows.reachStepsRow.domain false) (Rows.reachStepsSpec.post enc Try.prog Try.f7 false true false false) := by
  refine returnsInHanded_of_change (C := Try.checked) own started (by kernel_rfl) Try.func7
    (ChangeSpec.witness6 (enc := enc) (C := Try.checked) false ⟨#[], #[.int .i64 0, .slice none 0 0, .slice none 0 0], []⟩ 8 (by kernel_rfl) (by kernel_rfl) (by kernel_rfl) (by kernel_rfl)) ?_
  intro W base args ds gs before hval hW _ _
  exact law_contract (l := [(3, I), (22, .slice AcT), (36, .slice I)]) (rt := 4) laid (by rw [Try.params7]; rfl) (by kernel_rfl) (by kernel_rfl) (by kernel_rfl) (by kernel_rfl) rfl (fun ds h => match ds, h with | [_, _, _], _ => rfl)
    (fun x hx => (lsteps_pure x.1 x.2.1 x.2.2.1).weak (.cons (Weak.refl _) (.cons (asL_weak rfl) (.cons (asL_weak rfl) .nil)))) W ⟨[], trivial, fun e he => by simp at he⟩ base args ds gs before hval hW

/-- 'ReachSteps' holds: for every number, acts and nodes the call returns true, and the arguments read as before. No condition. -/
theorem lsteps_said : Rows.ReachStepsSaid :=
  OpenClaim.holds_of_wide 7 Try.f7 rfl rfl rfl rfl rfl rfl rfl ⟨rfl, rfl, rfl, rfl, rfl⟩ rfl rfl rfl rfl rfl (by kernel_rfl) Try.func7 (by kernel_rfl)
    (of_decide_eq_true (by kernel_rfl)) (by unfold Func.isWrapper; first | (rw [if_pos (by decide +kernel)]; kernel_rfl) | (rw [if_neg (by decide +kernel)]; exact ⟨rfl, rfl⟩))
    (fun os started H enc _ => lsteps_lifted os started H enc)
set_option maxRecDepth 100000 in
theorem lcloses_lifted (os : Os) (started : os.Started) (H : Type) (enc : TypeId × Value → H) :
    ReturnsInHanded {} Try.checked os 8 .any (Rows.reachClosesSpec.pre6 enc Try.prog Try.f8 Rows.reachClosesRow.domain false) (Rows.reachClosesSpec.post enc Try.prog Try.f8 false true false false) := by
  refine returnsInHanded_of_change (C := Try.checked) own started (by kernel_rfl) Try.func8
    (ChangeSpec.witness6 (enc := enc) (C := Try.checked) false ⟨#[], #[.int .i64 0, .slice none 0 0, .slice none 0 0], []⟩ 8 (by kernel_rfl) (by kernel_rfl) (by kernel_rfl) (by kernel_rfl)) ?_
  intro W base args ds gs before hval hW _ _
  exact law_contract (l := [(3, I), (22, .slice AcT), (36, .slice I)]) (rt := 4) laid (by rw [Try.params8]; rfl) (by kernel_rfl) (by kernel_rfl) (by kernel_rfl) (by kernel_rfl) rfl (fun ds h => match ds, h with | [_, _, _], _ => rfl)
    (fun x hx => (lcloses_pure x.1 x.2.1 x.2.2.1).weak (.cons (Weak.refl _) (.cons (asL_weak rfl) (.cons (asL_weak rfl) .nil)))) W ⟨[], trivial, fun e he => by simp at he⟩ base args ds gs before hval hW

/-- 'ReachCloses' holds: for every number, acts and nodes the call returns true, and the arguments read as before. No condition. -/
theorem lcloses_said : Rows.ReachClosesSaid :=
  OpenClaim.holds_of_wide 8 Try.f8 rfl rfl rfl rfl rfl rfl rfl ⟨rfl, rfl, rfl, rfl, rfl⟩ rfl rfl rfl rfl rfl (by kernel_rfl) Try.func8 (by kernel_rfl)
    (of_decide_eq_true (by kernel_rfl)) (by unfold Func.isWrapper; first | (rw [if_pos (by decide +kernel)]; kernel_rfl) | (rw [if_neg (by decide +kernel)]; exact ⟨rfl, rfl⟩))
    (fun os started H enc _ => lcloses_lifted os started H enc)

end Go.Proofs.Ytojflfogjkajaaa.Rc
