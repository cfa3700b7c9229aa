/-
  TallySheets, TallyGrows: the statements.
-/
import Derived.Test.YteaajihmfacinaaRows
import Derived.Test.YteaajihmfacinaaUpt
import Derived.Test.YteaajihmfacinaaTa19
import Derived.WalkKit
import Derived.ProofKit
namespace Go.Proofs.Yteaajihmfacinaa.Ta
open Go.Vm Go.ChangeShapes Go.WideShapes Go.ChangeAt
theorem own : ownKnob Try.prog.godebug = none := by kernel_rfl
theorem laid : laidOutB Try.prog = true := by kernel_rfl
abbrev AtT : Ty := .pair I (.pair I (.pair I I))
def bLn (y : Ln) : Nat := Up.bulkD LnT y
def bEn (x : En) : Nat := Up.bulkD EnT x
theorem bulk_ln : ∀ l : List Ln, l.length ≤ (l.map bLn).sum
  | [] => by simp
  | y :: t => by
    have ih := bulk_ln t
    have e : bLn y = 4 := rfl
    rw [List.map_cons, List.sum_cons, List.length_cons, e]
    omega
theorem bulk_lines : ∀ N : List En, (putsL N).length + N.length ≤ (N.map bEn).sum
  | [] => by simp [putsL]
  | x :: r => by
    have h := bulk_lines r
    have h3 := bulk_ln x.2.2
    have e : bEn x = 1 + (1 + ((x.2.2.map bLn).sum + 1)) := rfl
    rw [show putsL (x :: r) = lnP x.1 x.2.2 ++ putsL r from rfl, List.length_append, lnP, List.length_map, List.length_cons, List.map_cons, List.sum_cons, e]
    omega
theorem in_of {N : List En} (h : okD (.slice EnT) N) (hb : Up.bulkD (.slice EnT) N ≤ 1048576) : NIn N ∧ N.length ≤ 2000000 := by
  have h1 := bulk_lines N
  have h2 : (N.map bEn).sum + 1 ≤ 1048576 := hb
  refine ⟨⟨by omega, by rw [lines_len]; omega, fun y hy => ?_⟩, by omega⟩
  obtain ⟨i, hi⟩ := List.mem_iff_getElem?.1 hy
  have h3 := h.2 i y hi
  refine ⟨h3.1, fun z hz => ?_⟩
  obtain ⟨k, hk⟩ := List.mem_iff_getElem?.1 hz
  exact h3.2.2.2 k z hk
theorem in_one {x : En} (h : okD EnT x) (hb : Up.bulkD EnT x ≤ 1048576) : NIn [x] ∧ x.2.2.length ≤ 2000000 := by
  have h1 := bulk_lines [x]
  have hb : bEn x ≤ 1048576 := hb
  have e : ([x].map bEn).sum = bEn x := by simp
  have e2 : (putsL [x]).length = x.2.2.length := by simp [putsL, lnP]
  rw [e, e2, List.length_singleton] at h1
  refine ⟨⟨by simp, by rw [lines_len, e2]; omega, fun y hy => ?_⟩, by omega⟩
  rw [List.mem_singleton.1 hy]
  refine ⟨h.1, fun z hz => ?_⟩
  obtain ⟨k, hk⟩ := List.mem_iff_getElem?.1 hz
  exact h.2.2.2 k z hk
set_option maxRecDepth 100000 in
theorem sheets_lifted (os : Os) (started : os.Started) (H : Type) (enc : TypeId × Value → H) (F0 : Stop.Interp) :
    ReturnsInHanded {} Try.checked os 4 .any ((Rows.OpenSpec.upto Rows.tallySheetsSpec).pre6 enc Try.prog Try.f4 Rows.tallySheetsUptoRow.domain false) (((Rows.OpenSpec.upto Rows.tallySheetsSpec).at F0).post enc Try.prog Try.f4 false true false false) := by
  refine returnsInHanded_of_cond (C := Try.checked) (s := Rows.OpenSpec.upto Rows.tallySheetsSpec) (k := Rows.uptoSmall) rfl own started (by kernel_rfl) Try.func4
    (OpenSpec.witness (enc := enc) (C := Try.checked) (s := Rows.OpenSpec.upto Rows.tallySheetsSpec) (k := Rows.uptoSmall) rfl false ⟨#[], #[.slice none 0 0, .int .i64 0, .agg #[.int .i64 0, .int .i64 0, .int .i64 0, .int .i64 0]], []⟩ 8 (by kernel_rfl) (by kernel_rfl) (by kernel_rfl) (x := ([.nil, .lit (.int .i64 0), .agg [.lit (.int .i64 0), .lit (.int .i64 0), .lit (.int .i64 0), .lit (.int .i64 0)]], [], [])) (by kernel_rfl) (by kernel_rfl) (by kernel_rfl)) ?_
  intro W base args ds gs before hval hW _ hk _
  exact Up.law_upto (l := [(22, .slice EnT), (3, I), (27, AtT)]) (rt := 4) laid (by rw [Try.params4]; rfl) (by kernel_rfl) (by kernel_rfl) (by kernel_rfl) (by kernel_rfl) rfl (fun ds h => match ds, h with | [_, _, _], _ => rfl)
    (fun x hx hb => (sheets_pure x.1 x.2.1 x.2.2.1.1 x.2.2.1.2.1 x.2.2.1.2.2.1 x.2.2.1.2.2.2 ⟨(in_of hx.1 (Nat.le_trans (Nat.le_add_right _ _) hb)).1, hx.2.2.1.1, hx.2.2.1.2.1⟩).weak (.cons (asL_weak rfl) (.cons (Weak.refl _) (.cons (Weak.refl _) .nil)))) W ⟨[], trivial, fun e he => by simp at he⟩ base args ds gs before hval hW (of_decide_eq_true hk)
theorem sheets_said : Rows.TallySheetsUptoSaid :=
  OpenClaim.holds_of_cond 4 Try.f4 rfl rfl rfl rfl rfl rfl rfl ⟨rfl, rfl, rfl, rfl, rfl⟩ rfl rfl rfl rfl rfl (by kernel_rfl) Try.func4 (by kernel_rfl)
    (of_decide_eq_true (by kernel_rfl)) (by unfold Func.isWrapper; first | (rw [if_pos (by decide +kernel)]; kernel_rfl) | (rw [if_neg (by decide +kernel)]; exact ⟨rfl, rfl⟩))
    (fun os started H enc _ F0 => sheets_lifted os started H enc F0)
set_option maxRecDepth 100000 in
theorem grows_lifted (os : Os) (started : os.Started) (H : Type) (enc : TypeId × Value → H) (F0 : Stop.Interp) :
    ReturnsInHanded {} Try.checked os 3 .any ((Rows.OpenSpec.upto Rows.tallyGrowsSpec).pre6 enc Try.prog Try.f3 Rows.tallyGrowsUptoRow.domain false) (((Rows.OpenSpec.upto Rows.tallyGrowsSpec).at F0).post enc Try.prog Try.f3 false true false false) := by
  refine returnsInHanded_of_cond (C := Try.checked) (s := Rows.OpenSpec.upto Rows.tallyGrowsSpec) (k := Rows.uptoSmall) rfl own started (by kernel_rfl) Try.func3
    (OpenSpec.witness (enc := enc) (C := Try.checked) (s := Rows.OpenSpec.upto Rows.tallyGrowsSpec) (k := Rows.uptoSmall) rfl false ⟨#[], #[.slice none 0 0, .agg #[.int .i64 0, .int .i64 0, .slice none 0 0], .agg #[.int .i64 0, .int .i64 0, .int .i64 0, .int .i64 0]], []⟩ 8 (by kernel_rfl) (by kernel_rfl) (by kernel_rfl) (x := ([.nil, .agg [.lit (.int .i64 0), .lit (.int .i64 0), .nil], .agg [.lit (.int .i64 0), .lit (.int .i64 0), .lit (.int .i64 0), .lit (.int .i64 0)]], [], [])) (by kernel_rfl) (by kernel_rfl) (by kernel_rfl)) ?_
  intro W base args ds gs before hval hW _ hk _
  exact Up.law_upto (l := [(22, .slice EnT), (25, EnT), (27, AtT)]) (rt := 4) laid (by rw [Try.params3]; rfl) (by kernel_rfl) (by kernel_rfl) (by kernel_rfl) (by kernel_rfl) rfl (fun ds h => match ds, h with | [_, _, _], _ => rfl)
    (fun x hx hb => (grows_pure x.1 x.2.1.1 x.2.1.2.1 x.2.1.2.2 x.2.2.1.1 x.2.2.1.2.1 x.2.2.1.2.2.1 x.2.2.1.2.2.2 ⟨(in_of hx.1 (Nat.le_trans (Nat.le_add_right _ _) hb)).1, (in_of hx.1 (Nat.le_trans (Nat.le_add_right _ _) hb)).2, (in_one hx.2.1 (Nat.le_trans (Nat.le_trans (Nat.le_add_right _ _) (Nat.le_add_left _ _)) hb)).1, (in_one hx.2.1 (Nat.le_trans (Nat.le_trans (Nat.le_add_right _ _) (Nat.le_add_left _ _)) hb)).2, hx.2.2.1.1, hx.2.2.1.2.1, hx.2.2.1.2.2.1⟩).weak (.cons (asL_weak rfl) (.cons (Weak.refl _) (.cons (Weak.refl _) .nil)))) W ⟨[], trivial, fun e he => by simp at he⟩ base args ds gs before hval hW (of_decide_eq_true hk)
theorem grows_said : Rows.TallyGrowsUptoSaid :=
  OpenClaim.holds_of_cond 3 Try.f3 rfl rfl rfl rfl rfl rfl rfl ⟨rfl, rfl, rfl, rfl, rfl⟩ rfl rfl rfl rfl rfl (by kernel_rfl) Try.func3 (by kernel_rfl)
    (of_decide_eq_true (by kernel_rfl)) (by unfold Func.isWrapper; first | (rw [if_pos (by decide +kernel)]; kernel_rfl) | (rw [if_neg (by decide +kernel)]; exact ⟨rfl, rfl⟩))
    (fun os started H enc _ F0 => grows_lifted os started H enc F0)
end Go.Proofs.Yteaajihmfacinaa.Ta
