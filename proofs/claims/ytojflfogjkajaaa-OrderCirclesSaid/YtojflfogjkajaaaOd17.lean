/-
  OrderTells, OrderStands, OrderCircles: the statements.
-/
import Derived.Test.YtojflfogjkajaaaRows
import Derived.Test.YtojflfogjkajaaaOd16
import Derived.WalkKit
import Derived.ProofKit
namespace Go.Proofs.Ytojflfogjkajaaa.Ol
open Go.Vm Go.ChangeShapes Go.WideShapes Go.ChangeAt
open Go.Proofs.Ytojflfogjkajaaa.Gr Go.Proofs.Ytojflfogjkajaaa.Rc
theorem own : ownKnob Try.prog.godebug = none := by kernel_rfl
theorem laid : laidOutB Try.prog = true := by kernel_rfl
theorem ir_of {l : List Int} (h : okD (.slice I) l) : Od.IR l := fun x hx => by
  obtain ⟨i, hi, e⟩ := List.getElem_of_mem hx
  have := h.2 i x (by show l[i]? = some x; rw [List.getElem?_eq_getElem hi, e])
  exact this
set_option maxRecDepth 100000 in
theorem otells_lifted (os : Os) (started : os.Started) (H : Type) (enc : TypeId × Value → H) :
    ReturnsInHanded {} Try.checked os 9 .any (Rows.orderTellsSpec.pre6 enc Try.prog Try.f9 Rows.orderTellsRow.domain false) (Rows.orderTellsSpec.post enc Try.prog Try.f9 false true false false) := by
  refine returnsInHanded_of_change (C := Try.checked) own started (by kernel_rfl) Try.func9
    (ChangeSpec.witness6 (enc := enc) (C := Try.checked) false ⟨#[], #[.int .i64 0, .slice none 0 0, .slice none 0 0], []⟩ 8 (by kernel_rfl) (by kernel_rfl) (by kernel_rfl) (by kernel_rfl)) ?_
  intro W base args ds gs before hval hW _ _
  exact law_contract (l := [(3, I), (22, .slice AcT), (36, .slice I)]) (rt := 4) laid (by rw [Try.params9]; rfl) (by kernel_rfl) (by kernel_rfl) (by kernel_rfl) (by kernel_rfl) rfl (fun ds h => match ds, h with | [_, _, _], _ => rfl)
    (fun x hx => (Od.otells_pure x.1 x.2.1 x.2.2.1 (ir_of hx.2.2.1)).weak (.cons (Weak.refl _) (.cons (asL_weak rfl) (.cons (asL_weak rfl) .nil)))) W ⟨[], trivial, fun e he => by simp at he⟩ base args ds gs before hval hW
theorem otells_said : Rows.OrderTellsSaid :=
  OpenClaim.holds_of_wide 9 Try.f9 rfl rfl rfl rfl rfl rfl rfl ⟨rfl, rfl, rfl, rfl, rfl⟩ rfl rfl rfl rfl rfl (by kernel_rfl) Try.func9 (by kernel_rfl)
    (of_decide_eq_true (by kernel_rfl)) (by unfold Func.isWrapper; first | (rw [if_pos (by decide +kernel)]; kernel_rfl) | (rw [if_neg (by decide +kernel)]; exact ⟨rfl, rfl⟩))
    (fun os started H enc _ => otells_lifted os started H enc)
set_option maxRecDepth 100000 in
theorem ostands_lifted (os : Os) (started : os.Started) (H : Type) (enc : TypeId × Value → H) :
    ReturnsInHanded {} Try.checked os 10 .any (Rows.orderStandsSpec.pre6 enc Try.prog Try.f10 Rows.orderStandsRow.domain false) (Rows.orderStandsSpec.post enc Try.prog Try.f10 false true false false) := by
  refine returnsInHanded_of_change (C := Try.checked) own started (by kernel_rfl) Try.func10
    (ChangeSpec.witness6 (enc := enc) (C := Try.checked) false ⟨#[], #[.int .i64 0, .slice none 0 0, .slice none 0 0], []⟩ 8 (by kernel_rfl) (by kernel_rfl) (by kernel_rfl) (by kernel_rfl)) ?_
  intro W base args ds gs before hval hW _ _
  exact law_contract (l := [(3, I), (22, .slice AcT), (36, .slice I)]) (rt := 4) laid (by rw [Try.params10]; rfl) (by kernel_rfl) (by kernel_rfl) (by kernel_rfl) (by kernel_rfl) rfl (fun ds h => match ds, h with | [_, _, _], _ => rfl)
    (fun x hx => (Od.ostands_pure x.1 x.2.1 x.2.2.1 (ir_of hx.2.2.1)).weak (.cons (Weak.refl _) (.cons (asL_weak rfl) (.cons (asL_weak rfl) .nil)))) W ⟨[], trivial, fun e he => by simp at he⟩ base args ds gs before hval hW
theorem ostands_said : Rows.OrderStandsSaid :=
  OpenClaim.holds_of_wide 10 Try.f10 rfl rfl rfl rfl rfl rfl rfl ⟨rfl, rfl, rfl, rfl, rfl⟩ rfl rfl rfl rfl rfl (by kernel_rfl) Try.func10 (by kernel_rfl)
    (of_decide_eq_true (by kernel_rfl)) (by unfold Func.isWrapper; first | (rw [if_pos (by decide +kernel)]; kernel_rfl) | (rw [if_neg (by decide +kernel)]; exact ⟨rfl, rfl⟩))
    (fun os started H enc _ => ostands_lifted os started H enc)
set_option maxRecDepth 100000 in
theorem ocircles_lifted (os : Os) (started : os.Started) (H : Type) (enc : TypeId × Value → H) :
    ReturnsInHanded {} Try.checked os 11 .any (Rows.orderCirclesSpec.pre6 enc Try.prog Try.f11 Rows.orderCirclesRow.domain false) (Rows.orderCirclesSpec.post enc Try.prog Try.f11 false true false false) := by
  refine returnsInHanded_of_change (C := Try.checked) own started (by kernel_rfl) Try.func11
    (ChangeSpec.witness6 (enc := enc) (C := Try.checked) false ⟨#[], #[.int .i64 0, .slice none 0 0, .slice none 0 0], []⟩ 8 (by kernel_rfl) (by kernel_rfl) (by kernel_rfl) (by kernel_rfl)) ?_
  intro W base args ds gs before hval hW _ _
  exact law_contract (l := [(3, I), (22, .slice AcT), (36, .slice I)]) (rt := 4) laid (by rw [Try.params11]; rfl) (by kernel_rfl) (by kernel_rfl) (by kernel_rfl) (by kernel_rfl) rfl (fun ds h => match ds, h with | [_, _, _], _ => rfl)
    (fun x hx => (Od.ocircles_pure x.1 x.2.1 x.2.2.1 (ir_of hx.2.2.1)).weak (.cons (Weak.refl _) (.cons (asL_weak rfl) (.cons (asL_weak rfl) .nil)))) W ⟨[], trivial, fun e he => by simp at he⟩ base args ds gs before hval hW
theorem ocircles_said : Rows.OrderCirclesSaid :=
  OpenClaim.holds_of_wide 11 Try.f11 rfl rfl rfl rfl rfl rfl rfl ⟨rfl, rfl, rfl, rfl, rfl⟩ rfl rfl rfl rfl rfl (by kernel_rfl) Try.func11 (by kernel_rfl)
    (of_decide_eq_true (by kernel_rfl)) (by unfold Func.isWrapper; first | (rw [if_pos (by decide +kernel)]; kernel_rfl) | (rw [if_neg (by decide +kernel)]; exact ⟨rfl, rfl⟩))
    (fun os started H enc _ => ocircles_lifted os started H enc)
end Go.Proofs.Ytojflfogjkajaaa.Ol
