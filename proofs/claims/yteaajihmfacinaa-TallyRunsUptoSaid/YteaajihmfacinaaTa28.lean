/-
  TallyParts, TallyRuns: the statements.
-/
import Derived.Test.YteaajihmfacinaaRows
import Derived.Test.YteaajihmfacinaaTa20
import Derived.Test.YteaajihmfacinaaTa27
namespace Go.Proofs.Yteaajihmfacinaa.Ta
open Go.Vm Go.ChangeShapes Go.WideShapes Go.ChangeAt
set_option maxRecDepth 100000 in
theorem parts_lifted (os : Os) (started : os.Started) (H : Type) (enc : TypeId × Value → H) (F0 : Stop.Interp) :
    ReturnsInHanded {} Try.checked os 6 .any ((Rows.OpenSpec.upto Rows.tallyPartsSpec).pre6 enc Try.prog Try.f6 Rows.tallyPartsUptoRow.domain false) (((Rows.OpenSpec.upto Rows.tallyPartsSpec).at F0).post enc Try.prog Try.f6 false true false false) := by
  refine returnsInHanded_of_cond (C := Try.checked) (s := Rows.OpenSpec.upto Rows.tallyPartsSpec) (k := Rows.uptoSmall) rfl own started (by kernel_rfl) Try.func6
    (OpenSpec.witness (enc := enc) (C := Try.checked) (s := Rows.OpenSpec.upto Rows.tallyPartsSpec) (k := Rows.uptoSmall) rfl false ⟨#[], #[.slice none 0 0, .agg #[.int .i64 0, .int .i64 0, .int .i64 0, .int .i64 0]], []⟩ 8 (by kernel_rfl) (by kernel_rfl) (by kernel_rfl) (x := ([.nil, .agg [.lit (.int .i64 0), .lit (.int .i64 0), .lit (.int .i64 0), .lit (.int .i64 0)]], [], [])) (by kernel_rfl) (by kernel_rfl) (by kernel_rfl)) ?_
  intro W base args ds gs before hval hW _ hk _
  exact Up.law_upto (l := [(22, .slice EnT), (27, AtT)]) (rt := 4) laid (by rw [Try.params6]; rfl) (by kernel_rfl) (by kernel_rfl) (by kernel_rfl) (by kernel_rfl) rfl (fun ds h => match ds, h with | [_, _], _ => rfl)
    (fun x hx hb => (parts_pure x.1 x.2.1.1 x.2.1.2.1 x.2.1.2.2.1 x.2.1.2.2.2 ⟨(in_of hx.1 (Nat.le_trans (Nat.le_add_right _ _) hb)).1, hx.2.1.1, hx.2.1.2.1, hx.2.1.2.2.1⟩).weak (.cons (asL_weak rfl) (.cons (Weak.refl _) .nil))) W ⟨[], trivial, fun e he => by simp at he⟩ base args ds gs before hval hW (of_decide_eq_true hk)
theorem parts_said : Rows.TallyPartsUptoSaid :=
  OpenClaim.holds_of_cond 6 Try.f6 rfl rfl rfl rfl rfl rfl rfl ⟨rfl, rfl, rfl, rfl, rfl⟩ rfl rfl rfl rfl rfl (by kernel_rfl) Try.func6 (by kernel_rfl)
    (of_decide_eq_true (by kernel_rfl)) (by unfold Func.isWrapper; first | (rw [if_pos (by decide +kernel)]; kernel_rfl) | (rw [if_neg (by decide +kernel)]; exact ⟨rfl, rfl⟩))
    (fun os started H enc _ F0 => parts_lifted os started H enc F0)
set_option maxRecDepth 100000 in
theorem runs_lifted (os : Os) (started : os.Started) (H : Type) (enc : TypeId × Value → H) (F0 : Stop.Interp) :
    ReturnsInHanded {} Try.checked os 7 .any ((Rows.OpenSpec.upto Rows.tallyRunsSpec).pre6 enc Try.prog Try.f7 Rows.tallyRunsUptoRow.domain false) (((Rows.OpenSpec.upto Rows.tallyRunsSpec).at F0).post enc Try.prog Try.f7 false true false false) := by
  refine returnsInHanded_of_cond (C := Try.checked) (s := Rows.OpenSpec.upto Rows.tallyRunsSpec) (k := Rows.uptoSmall) rfl own started (by kernel_rfl) Try.func7
    (OpenSpec.witness (enc := enc) (C := Try.checked) (s := Rows.OpenSpec.upto Rows.tallyRunsSpec) (k := Rows.uptoSmall) rfl false ⟨#[], #[.slice none 0 0, .agg #[.int .i64 0, .int .i64 0, .int .i64 0, .int .i64 0]], []⟩ 8 (by kernel_rfl) (by kernel_rfl) (by kernel_rfl) (x := ([.nil, .agg [.lit (.int .i64 0), .lit (.int .i64 0), .lit (.int .i64 0), .lit (.int .i64 0)]], [], [])) (by kernel_rfl) (by kernel_rfl) (by kernel_rfl)) ?_
  intro W base args ds gs before hval hW _ hk _
  exact Up.law_upto (l := [(22, .slice EnT), (27, AtT)]) (rt := 4) laid (by rw [Try.params7]; rfl) (by kernel_rfl) (by kernel_rfl) (by kernel_rfl) (by kernel_rfl) rfl (fun ds h => match ds, h with | [_, _], _ => rfl)
    (fun x hx hb => (runs_pure x.1 x.2.1.1 x.2.1.2.1 x.2.1.2.2.1 x.2.1.2.2.2 ⟨(in_of hx.1 (Nat.le_trans (Nat.le_add_right _ _) hb)).1, hx.2.1.1, hx.2.1.2.1⟩).weak (.cons (asL_weak rfl) (.cons (Weak.refl _) .nil))) W ⟨[], trivial, fun e he => by simp at he⟩ base args ds gs before hval hW (of_decide_eq_true hk)
theorem runs_said : Rows.TallyRunsUptoSaid :=
  OpenClaim.holds_of_cond 7 Try.f7 rfl rfl rfl rfl rfl rfl rfl ⟨rfl, rfl, rfl, rfl, rfl⟩ rfl rfl rfl rfl rfl (by kernel_rfl) Try.func7 (by kernel_rfl)
    (of_decide_eq_true (by kernel_rfl)) (by unfold Func.isWrapper; first | (rw [if_pos (by decide +kernel)]; kernel_rfl) | (rw [if_neg (by decide +kernel)]; exact ⟨rfl, rfl⟩))
    (fun os started H enc _ F0 => runs_lifted os started H enc F0)
end Go.Proofs.Yteaajihmfacinaa.Ta
