/-
  EntryTells, EntrySums, EntryBalances, EntryTurns, EntryParts: the statements.
-/
import Derived.Test.YtgmcfgegldmieaaRows
import Derived.Test.YtgmcfgegldmieaaEntry16
import Derived.Test.YtgmcfgegldmieaaVm24
import Derived.WalkKit
import Derived.ProofKit
namespace Go.Proofs.Ytgmcfgegldmieaa
open Go.Vm Go.ChangeShapes Go.WideShapes Go.ChangeAt

theorem own : ownKnob Try.prog.godebug = none := by kernel_rfl
theorem laid : laidOutB Try.prog = true := by kernel_rfl
theorem inL_of {r : List (TypeId × Ty)} {x : ArgsT ((24, ETy) :: r)} (h : argsOk ((24, ETy) :: r) x) : InL x.1.2.2 := by
  intro y hy
  obtain ⟨i, hi⟩ := List.mem_iff_getElem?.1 hy
  exact (h.1.2.2.2 i y hi).2.2.2
set_option maxRecDepth 100000 in
theorem tells_lifted (os : Os) (started : os.Started) (H : Type) (enc : TypeId × Value → H) :
    ReturnsInHanded {} Try.checked os 3 .any (Rows.entryTellsSpec.pre6 enc Try.prog Try.f3 Rows.entryTellsRow.domain false) (Rows.entryTellsSpec.post enc Try.prog Try.f3 false true false false) := by
  refine returnsInHanded_of_change (C := Try.checked) own started (by kernel_rfl) Try.func3
    (ChangeSpec.witness6 (enc := enc) (C := Try.checked) false ⟨#[], #[.agg #[.int .i64 0, .int .i64 0, .slice none 0 0], .int .i64 0, .int .i64 0], []⟩ 8 (by kernel_rfl) (by kernel_rfl) (by kernel_rfl) (by kernel_rfl)) ?_
  intro W base args ds gs before hval hW _ _
  exact law_contract (l := [(24, ETy), (3, I), (3, I)]) (rt := 4) laid (by rw [Try.params3]; rfl) (by kernel_rfl) (by kernel_rfl) (by kernel_rfl) (by kernel_rfl) rfl (fun ds h => match ds, h with | [_, _, _], _ => rfl)
    (fun x hx => (tells_pure x.1.1 x.1.2.1 x.1.2.2 x.2.1 x.2.2.1 (inL_of hx)).weak (.cons (Weak.agg (.cons (Weak.refl _) (.cons (Weak.refl _) (.cons (asL_weak rfl) .nil)))) (.cons (Weak.refl _) (.cons (Weak.refl _) .nil)))) W base args ds gs before hval hW

/-- 'EntryTells' holds: for every entry and numbers the call returns true, and the arguments read as before. No condition. -/
theorem tells_said : Rows.EntryTellsSaid :=
  OpenClaim.holds_of_wide 3 Try.f3 rfl rfl rfl rfl rfl rfl rfl ⟨rfl, rfl, rfl, rfl, rfl⟩ rfl rfl rfl rfl rfl (by kernel_rfl) Try.func3 (by kernel_rfl)
    (of_decide_eq_true (by kernel_rfl)) (by unfold Func.isWrapper; first | (rw [if_pos (by decide +kernel)]; kernel_rfl) | (rw [if_neg (by decide +kernel)]; exact ⟨rfl, rfl⟩))
    (fun os started H enc _ => tells_lifted os started H enc)
set_option maxRecDepth 100000 in
theorem sums_lifted (os : Os) (started : os.Started) (H : Type) (enc : TypeId × Value → H) :
    ReturnsInHanded {} Try.checked os 4 .any (Rows.entrySumsSpec.pre6 enc Try.prog Try.f4 Rows.entrySumsRow.domain false) (Rows.entrySumsSpec.post enc Try.prog Try.f4 false true false false) := by
  refine returnsInHanded_of_change (C := Try.checked) own started (by kernel_rfl) Try.func4
    (ChangeSpec.witness6 (enc := enc) (C := Try.checked) false ⟨#[], #[.agg #[.int .i64 0, .int .i64 0, .slice none 0 0], .int .i64 0], []⟩ 8 (by kernel_rfl) (by kernel_rfl) (by kernel_rfl) (by kernel_rfl)) ?_
  intro W base args ds gs before hval hW _ _
  exact law_contract (l := [(24, ETy), (3, I)]) (rt := 4) laid (by rw [Try.params4]; rfl) (by kernel_rfl) (by kernel_rfl) (by kernel_rfl) (by kernel_rfl) rfl (fun ds h => match ds, h with | [_, _], _ => rfl)
    (fun x hx => (sums_pure x.1.1 x.1.2.1 x.1.2.2 x.2.1 (inL_of hx)).weak (.cons (Weak.agg (.cons (Weak.refl _) (.cons (Weak.refl _) (.cons (asL_weak rfl) .nil)))) (.cons (Weak.refl _) .nil))) W base args ds gs before hval hW

/-- 'EntrySums' holds: for every entry and number the call returns true, and the arguments read as before. No condition. -/
theorem sums_said : Rows.EntrySumsSaid :=
  OpenClaim.holds_of_wide 4 Try.f4 rfl rfl rfl rfl rfl rfl rfl ⟨rfl, rfl, rfl, rfl, rfl⟩ rfl rfl rfl rfl rfl (by kernel_rfl) Try.func4 (by kernel_rfl)
    (of_decide_eq_true (by kernel_rfl)) (by unfold Func.isWrapper; first | (rw [if_pos (by decide +kernel)]; kernel_rfl) | (rw [if_neg (by decide +kernel)]; exact ⟨rfl, rfl⟩))
    (fun os started H enc _ => sums_lifted os started H enc)
set_option maxRecDepth 100000 in
theorem bal_lifted (os : Os) (started : os.Started) (H : Type) (enc : TypeId × Value → H) :
    ReturnsInHanded {} Try.checked os 5 .any (Rows.entryBalancesSpec.pre6 enc Try.prog Try.f5 Rows.entryBalancesRow.domain false) (Rows.entryBalancesSpec.post enc Try.prog Try.f5 false true false false) := by
  refine returnsInHanded_of_change (C := Try.checked) own started (by kernel_rfl) Try.func5
    (ChangeSpec.witness6 (enc := enc) (C := Try.checked) false ⟨#[], #[.agg #[.int .i64 0, .int .i64 0, .slice none 0 0], .int .i64 0, .int .i64 0], []⟩ 8 (by kernel_rfl) (by kernel_rfl) (by kernel_rfl) (by kernel_rfl)) ?_
  intro W base args ds gs before hval hW _ _
  exact law_contract (l := [(24, ETy), (3, I), (3, I)]) (rt := 4) laid (by rw [Try.params5]; rfl) (by kernel_rfl) (by kernel_rfl) (by kernel_rfl) (by kernel_rfl) rfl (fun ds h => match ds, h with | [_, _, _], _ => rfl)
    (fun x hx => (bal_pure x.1.1 x.1.2.1 x.1.2.2 x.2.1 x.2.2.1 (inL_of hx)).weak (.cons (Weak.agg (.cons (Weak.refl _) (.cons (Weak.refl _) (.cons (asL_weak rfl) .nil)))) (.cons (Weak.refl _) (.cons (Weak.refl _) .nil)))) W base args ds gs before hval hW

/-- 'EntryBalances' holds: for every entry and numbers the call returns true, and the arguments read as before. No condition. -/
theorem bal_said : Rows.EntryBalancesSaid :=
  OpenClaim.holds_of_wide 5 Try.f5 rfl rfl rfl rfl rfl rfl rfl ⟨rfl, rfl, rfl, rfl, rfl⟩ rfl rfl rfl rfl rfl (by kernel_rfl) Try.func5 (by kernel_rfl)
    (of_decide_eq_true (by kernel_rfl)) (by unfold Func.isWrapper; first | (rw [if_pos (by decide +kernel)]; kernel_rfl) | (rw [if_neg (by decide +kernel)]; exact ⟨rfl, rfl⟩))
    (fun os started H enc _ => bal_lifted os started H enc)
set_option maxRecDepth 100000 in
theorem turns_lifted (os : Os) (started : os.Started) (H : Type) (enc : TypeId × Value → H) :
    ReturnsInHanded {} Try.checked os 6 .any (Rows.entryTurnsSpec.pre6 enc Try.prog Try.f6 Rows.entryTurnsRow.domain false) (Rows.entryTurnsSpec.post enc Try.prog Try.f6 false true false false) := by
  refine returnsInHanded_of_change (C := Try.checked) own started (by kernel_rfl) Try.func6
    (ChangeSpec.witness6 (enc := enc) (C := Try.checked) false ⟨#[], #[.agg #[.int .i64 0, .int .i64 0, .slice none 0 0], .int .i64 0, .int .i64 0], []⟩ 8 (by kernel_rfl) (by kernel_rfl) (by kernel_rfl) (by kernel_rfl)) ?_
  intro W base args ds gs before hval hW _ _
  exact law_contract (l := [(24, ETy), (3, I), (3, I)]) (rt := 4) laid (by rw [Try.params6]; rfl) (by kernel_rfl) (by kernel_rfl) (by kernel_rfl) (by kernel_rfl) rfl (fun ds h => match ds, h with | [_, _, _], _ => rfl)
    (fun x hx => (turns_pure x.1.1 x.1.2.1 x.1.2.2 x.2.1 x.2.2.1 (inL_of hx)).weak (.cons (Weak.agg (.cons (Weak.refl _) (.cons (Weak.refl _) (.cons (asL_weak rfl) .nil)))) (.cons (Weak.refl _) (.cons (Weak.refl _) .nil)))) W base args ds gs before hval hW

/-- 'EntryTurns' holds: for every entry and numbers the call returns true, and the arguments read as before. No condition. -/
theorem turns_said : Rows.EntryTurnsSaid :=
  OpenClaim.holds_of_wide 6 Try.f6 rfl rfl rfl rfl rfl rfl rfl ⟨rfl, rfl, rfl, rfl, rfl⟩ rfl rfl rfl rfl rfl (by kernel_rfl) Try.func6 (by kernel_rfl)
    (of_decide_eq_true (by kernel_rfl)) (by unfold Func.isWrapper; first | (rw [if_pos (by decide +kernel)]; kernel_rfl) | (rw [if_neg (by decide +kernel)]; exact ⟨rfl, rfl⟩))
    (fun os started H enc _ => turns_lifted os started H enc)
set_option maxRecDepth 100000 in
theorem lparts_lifted (os : Os) (started : os.Started) (H : Type) (enc : TypeId × Value → H) :
    ReturnsInHanded {} Try.checked os 7 .any (Rows.entryPartsSpec.pre6 enc Try.prog Try.f7 Rows.entryPartsRow.domain false) (Rows.entryPartsSpec.post enc Try.prog Try.f7 false true false false) := by
  refine returnsInHanded_of_change (C := Try.checked) own started (by kernel_rfl) Try.func7
    (ChangeSpec.witness6 (enc := enc) (C := Try.checked) false ⟨#[], #[.agg #[.int .i64 0, .int .i64 0, .slice none 0 0], .int .i64 0, .int .i64 0], []⟩ 8 (by kernel_rfl) (by kernel_rfl) (by kernel_rfl) (by kernel_rfl)) ?_
  intro W base args ds gs before hval hW _ _
  exact law_contract (l := [(24, ETy), (3, I), (3, I)]) (rt := 4) laid (by rw [Try.params7]; rfl) (by kernel_rfl) (by kernel_rfl) (by kernel_rfl) (by kernel_rfl) rfl (fun ds h => match ds, h with | [_, _, _], _ => rfl)
    (fun x hx => (lparts_pure x.1.1 x.1.2.1 x.1.2.2 x.2.1 x.2.2.1 (inL_of hx)).weak (.cons (Weak.agg (.cons (Weak.refl _) (.cons (Weak.refl _) (.cons (asL_weak rfl) .nil)))) (.cons (Weak.refl _) (.cons (Weak.refl _) .nil)))) W base args ds gs before hval hW

/-- 'EntryParts' holds: for every entry and numbers the call returns true, and the arguments read as before. No condition. -/
theorem lparts_said : Rows.EntryPartsSaid :=
  OpenClaim.holds_of_wide 7 Try.f7 rfl rfl rfl rfl rfl rfl rfl ⟨rfl, rfl, rfl, rfl, rfl⟩ rfl rfl rfl rfl rfl (by kernel_rfl) Try.func7 (by kernel_rfl)
    (of_decide_eq_true (by kernel_rfl)) (by unfold Func.isWrapper; first | (rw [if_pos (by decide +kernel)]; kernel_rfl) | (rw [if_neg (by decide +kernel)]; exact ⟨rfl, rfl⟩))
    (fun os started H enc _ => lparts_lifted os started H enc)

end Go.Proofs.Ytgmcfgegldmieaa
