/-
  What is known of an entry that may be.
-/
import Derived.Test.YtgjpehgnagfghaaGreatEnt10
namespace Go.Proofs.YtgjpehgnagfghaaGreat.Ent
open Go.Vm
theorem badF_ne : ∀ {L : List Ln} {n k i : Int} {x : Int × Int}, badF L n k i = some x → x.2 ≠ 0
  | [], n, k, i, x, h => by cases h
  | y :: r, n, k, i, x, h => by
    unfold badF at h
    split at h
    · rename_i c
      cases h
      exact c
    · exact badF_ne h
theorem badF_none : ∀ {L : List Ln} {n k i : Int}, badF L n k i = none ↔ ∀ x ∈ L, lineF x n k = 0
  | [], n, k, i => by simp [badF]
  | y :: r, n, k, i => by
    unfold badF
    by_cases c : lineF y n k = 0
    · rw [if_neg (fun g => g c), badF_none]
      simp [c]
    · rw [if_pos c]
      simp [c]
theorem unbal_iff {L : List Ln} : unbal L = false ↔ ∀ e ∈ entsF L, wholeF L e = 0 := by
  simp only [unbal, List.any_eq_false, decide_eq_true_eq, Decidable.not_not]
def GoodE (p : Int) (L : List Ln) (n k : Int) : Prop := (0 ≤ p ∧ p ≤ 23) ∧ (2 ≤ L.length ∧ L.length ≤ 50) ∧ (∀ x ∈ L, lineF x n k = 0) ∧ ∀ e ∈ entsF L, wholeF L e = 0
theorem check_zero {p : Int} {L : List Ln} {n k : Int} : (checkF p L n k).2 = 0 ↔ GoodE p L n k := by
  unfold GoodE
  by_cases h1 : p < 0 ∨ 23 < p
  · rw [checkF_1 h1]
    constructor
    · intro h; cases h
    · intro h; omega
  by_cases h2 : (L.length : Int) < 2 ∨ 50 < (L.length : Int)
  · rw [checkF_2 h1 h2]
    constructor
    · intro h; cases h
    · intro h; omega
  cases h3 : badF L n k 0 with
  | some x =>
    rw [checkF_3 h1 h2 h3]
    constructor
    · intro h; exact absurd h (badF_ne h3)
    · intro h
      rw [badF_none.2 h.2.2.1] at h3
      cases h3
  | none =>
    cases h4 : unbal L with
    | true =>
      rw [checkF_4 h1 h2 h3 h4]
      constructor
      · intro h; cases h
      · intro h
        rw [unbal_iff.2 h.2.2.2] at h4
        cases h4
    | false =>
      rw [checkF_5 h1 h2 h3 h4]
      constructor
      · intro h; exact ⟨by omega, by omega, badF_none.1 h3, unbal_iff.1 h4⟩
      · intro h; rfl
theorem lineF_ok {x : Ln} {n k : Int} (h : lineF x n k = 0) : 1 ≤ x.1 ∧ x.1 ≤ n ∧ x.2.2.1 ≤ n := by
  unfold lineF at h
  repeat' (split at h)
  all_goals first
    | (exfalso; omega)
    | omega
theorem good_total {p : Int} {L : List Ln} {n k : Int} (h : GoodE p L n k) (hi : InL L) (hl : L.length ≤ 1000) (e : Int) : netF (amtsL L e) [] = (0, 0) := by
  have hz : wholeF L e = 0 := by
    by_cases c : e ∈ entsF L
    · exact h.2.2.2 e c
    · unfold wholeF amtsL
      rw [List.filter_eq_nil_iff.2 (fun x hx => by
        simp only [decide_eq_true_eq]
        exact fun k => c (mem_entsF.2 ⟨x, hx, k⟩))]
      rfl
  rw [total_law hi hl e, hz]
  decide
end Go.Proofs.YtgjpehgnagfghaaGreat.Ent
