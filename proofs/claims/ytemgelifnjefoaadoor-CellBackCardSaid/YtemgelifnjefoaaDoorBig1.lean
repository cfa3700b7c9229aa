/-
  The document's whole numbers, digit by digit.
-/
import Derived.Test.YtemgelifnjefoaaDoorSeat
namespace Go.Proofs.YtemgelifnjefoaaDoor
open Go.Vm

/-- The digits of a number, the last one first. -/
def digs (n : Nat) : List Int := if h : n = 0 then [] else ((n % 10 : Nat) : Int) :: digs (n / 10)
termination_by n
decreasing_by omega

theorem digs_zero : digs 0 = [] := by unfold digs; simp
theorem digs_pos {n : Nat} (h : n ≠ 0) : digs n = ((n % 10 : Nat) : Int) :: digs (n / 10) := by
  rw [digs, dif_neg h]

/-- In an int. -/
def InI (n : Int) : Prop := -9223372036854775808 ≤ n ∧ n ≤ 9223372036854775807

def InvOf (n x : Int) (D : List Int) : Prop := D ++ digs x.natAbs = digs n.natAbs ∧ (0 ≤ n → 0 ≤ x) ∧ (n < 0 → x ≤ 0) ∧ x.natAbs * 10 ^ D.length ≤ n.natAbs
theorem invOf_0 (n : Int) : InvOf n n [] := ⟨by simp, fun h => h, fun h => by omega, by simp⟩
theorem invOf_len {n x : Int} {D : List Int} (h : InvOf n x D) (hx : ¬ x = 0) (hn : InI n) : D.length ≤ 19 := by
  obtain ⟨_, _, _, h4⟩ := h
  by_cases hl : D.length ≤ 19
  · exact hl
  · exfalso
    have h1 : 10 ^ 20 ≤ 10 ^ D.length := Nat.pow_le_pow_right (by omega) (by omega)
    have h2 : 1 * 10 ^ D.length ≤ x.natAbs * 10 ^ D.length := Nat.mul_le_mul_right _ (by omega)
    obtain ⟨h5, h6⟩ := hn
    omega
theorem invOf_step {n x d : Int} {D : List Int} (h : InvOf n x D) (hx : ¬ x = 0) (hd : d = (x.natAbs % 10 : Nat)) : InvOf n (x.tdiv 10) (D ++ [d]) := by
  obtain ⟨h1, h2, h3, h4⟩ := h
  have e : (x.tdiv 10).natAbs = x.natAbs / 10 := by rw [Int.natAbs_tdiv]; rfl
  refine ⟨?_, fun h => Int.tdiv_nonneg (h2 h) (by omega), fun h => ?_, ?_⟩
  · rw [e, List.append_assoc, hd, ← h1, digs_pos (n := x.natAbs) (by omega)]
    rfl
  · have := h3 h
    have h5 : (-x).tdiv 10 = -(x.tdiv 10) := Int.neg_tdiv ..
    have h6 : 0 ≤ (-x).tdiv 10 := Int.tdiv_nonneg (by omega) (by omega)
    omega
  · rw [e]
    simp only [List.length_append, List.length_singleton, Nat.pow_succ]
    have : x.natAbs / 10 * (10 ^ D.length * 10) ≤ x.natAbs * 10 ^ D.length := by
      rw [Nat.mul_comm (10 ^ D.length) 10, ← Nat.mul_assoc]
      exact Nat.mul_le_mul_right _ (Nat.div_mul_le_self _ _)
    omega
theorem invOf_end {n x : Int} {D : List Int} (h : InvOf n x D) (hx : x = 0) : D = digs n.natAbs := by
  obtain ⟨h1, _⟩ := h
  subst hx
  simpa [digs_zero] using h1
theorem tmod10 (x : Int) : (x.tmod 10).natAbs = x.natAbs % 10 := by rw [Int.natAbs_tmod]; rfl
theorem tdiv10 (x : Int) : (x.tdiv 10).natAbs = x.natAbs / 10 := by rw [Int.natAbs_tdiv]; rfl


end Go.Proofs.YtemgelifnjefoaaDoor
