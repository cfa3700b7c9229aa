/-
  A wide number by a word: the quotient, and what is left.
-/
import Derived.Test.YtccmidojhagppaaDoorWide1
namespace Go.Proofs.YtccmidojhagppaaDoor
open Go.Vm

/-- A half of the quotient is told too great, or right. -/
def EstInv (u d v1 v0 q r : Int) : Prop := 0 ≤ q ∧ 0 ≤ r ∧ r < 4294967296 ∧ q * v1 + r = u ∧ (u * 4294967296 + d) / (v1 * 4294967296 + v0) ≤ q
/-- What is divided by, in halves; the number above it. -/
def Norm (u d v1 v0 : Int) : Prop := 2147483648 ≤ v1 ∧ v1 < 4294967296 ∧ 0 ≤ v0 ∧ v0 < 4294967296 ∧ 0 ≤ u ∧ u < v1 * 4294967296 + v0 ∧ 0 ≤ d ∧ d < 4294967296
theorem est_quot {u d v1 v0 : Int} (h : Norm u d v1 v0) : 0 ≤ (u * 4294967296 + d) / (v1 * 4294967296 + v0) ∧ (u * 4294967296 + d) / (v1 * 4294967296 + v0) < 4294967296 := by
  obtain ⟨h1, h2, h3, h4, h5, h6, h7, h8⟩ := h
  generalize hv : v1 * 4294967296 + v0 = v at *
  have hv0 : 0 < v := by omega
  refine ⟨Int.ediv_nonneg (by omega) (by omega), ?_⟩
  exact Int.ediv_lt_of_lt_mul hv0 (by omega)
theorem est_0 {u d v1 v0 : Int} (h : Norm u d v1 v0) : EstInv u d v1 v0 (u / v1) (u - u / v1 * v1) := by
  obtain ⟨h1, h2, h3, h4, h5, h6, h7, h8⟩ := h
  have hv0 : 0 < v1 := by omega
  have e : u / v1 * v1 + u % v1 = u := by rw [Int.mul_comm]; exact Int.mul_ediv_add_emod u v1
  have r0 : 0 ≤ u % v1 := Int.emod_nonneg _ (by omega)
  have r1 : u % v1 < v1 := Int.emod_lt_of_pos _ hv0
  have q0 : 0 ≤ u / v1 := Int.ediv_nonneg h5 (by omega)
  refine ⟨q0, by omega, by omega, by omega, ?_⟩
  refine Int.le_of_lt_add_one (Int.ediv_lt_of_lt_mul (by omega) ?_)
  generalize u / v1 = q at *
  generalize u % v1 = r at *
  have : 0 ≤ (q + 1) * v0 := Int.mul_nonneg (by omega) h3
  have e2 : (q + 1) * (v1 * 4294967296 + v0) = (q * v1 + v1) * 4294967296 + (q + 1) * v0 := by grind
  rw [e2]
  omega
theorem est_step {u d v1 v0 q r : Int} (h : Norm u d v1 v0) (hi : EstInv u d v1 v0 q r) (hc : 4294967296 ≤ q ∨ 4294967296 * r + d < q * v0) : 1 ≤ q ∧ (u * 4294967296 + d) / (v1 * 4294967296 + v0) ≤ q - 1 ∧ (q - 1) * v1 + (r + v1) = u := by
  obtain ⟨i1, i2, i3, i4, i5⟩ := hi
  have hq := est_quot h
  obtain ⟨h1, h2, h3, h4, h5, h6, h7, h8⟩ := h
  have e4 : (q - 1) * v1 + (r + v1) = u := by rw [← i4]; grind
  rcases hc with c | c
  · exact ⟨by omega, by omega, e4⟩
  · have q1 : 1 ≤ q := by
      by_cases z : q = 0
      · subst z
        rw [Int.zero_mul] at c
        omega
      · omega
    refine ⟨q1, ?_, e4⟩
    have : (u * 4294967296 + d) / (v1 * 4294967296 + v0) < q := by
      refine Int.ediv_lt_of_lt_mul (by omega) ?_
      have e : q * (v1 * 4294967296 + v0) = q * v1 * 4294967296 + q * v0 := by grind
      rw [e]
      omega
    omega
/-- It is right: what it comes to is no more. -/
theorem est_end {u d v1 v0 q r : Int} (h : Norm u d v1 v0) (hq : (u * 4294967296 + d) / (v1 * 4294967296 + v0) ≤ q) (i4 : q * v1 + r = u) (hc : q * v0 ≤ 4294967296 * r + d) : q = (u * 4294967296 + d) / (v1 * 4294967296 + v0) := by
  obtain ⟨h1, h2, h3, h4, h5, h6, h7, h8⟩ := h
  have : q ≤ (u * 4294967296 + d) / (v1 * 4294967296 + v0) := by
    refine Int.le_ediv_of_mul_le (by omega) ?_
    have e : q * (v1 * 4294967296 + v0) = q * v1 * 4294967296 + q * v0 := by grind
    rw [e]
    omega
  omega
theorem est_far {u d v1 v0 q r : Int} (h : Norm u d v1 v0) (hq : (u * 4294967296 + d) / (v1 * 4294967296 + v0) ≤ q) (i4 : q * v1 + r = u) (hr : 4294967296 ≤ r) (q0 : 0 ≤ q) : q = (u * 4294967296 + d) / (v1 * 4294967296 + v0) := by
  refine est_end h hq i4 ?_
  obtain ⟨h1, h2, h3, h4, h5, h6, h7, h8⟩ := h
  have b : q ≤ 4294967296 := by
    by_cases z : q ≤ 4294967296
    · exact z
    · exfalso
      have : 4294967297 * v1 ≤ q * v1 := Int.mul_le_mul_of_nonneg_right (by omega) (by omega)
      omega
  have m1 : q * v0 ≤ q * 4294967296 := Int.mul_le_mul_of_nonneg_left (by omega) q0
  omega

theorem loop_law {u d v1 v0 q r : Int} (h : Norm u d v1 v0) (hi : EstInv u d v1 v0 q r) :
    (¬ 4294967296 ≤ q → (0 ≤ q * v0 ∧ q * v0 ≤ 18446744073709551615) ∧ (0 ≤ 4294967296 * r ∧ 4294967296 * r ≤ 18446744073709551615) ∧ (0 ≤ 4294967296 * r + d ∧ 4294967296 * r + d ≤ 18446744073709551615) ∧
      (4294967296 * r + d < q * v0 → (0 ≤ q - 1 ∧ q - 1 ≤ 18446744073709551615) ∧ (0 ≤ r + v1 ∧ r + v1 ≤ 18446744073709551615) ∧ (4294967296 ≤ r + v1 → True ∧ q - 1 = (u * 4294967296 + d) / (v1 * 4294967296 + v0)) ∧
        (¬ 4294967296 ≤ r + v1 → True ∧ EstInv u d v1 v0 (q - 1) (r + v1) ∧ (4294967296 - (r + v1)).toNat < (4294967296 - r).toNat)) ∧
      (¬ 4294967296 * r + d < q * v0 → True ∧ q = (u * 4294967296 + d) / (v1 * 4294967296 + v0))) ∧
    (4294967296 ≤ q → (0 ≤ q - 1 ∧ q - 1 ≤ 18446744073709551615) ∧ (0 ≤ r + v1 ∧ r + v1 ≤ 18446744073709551615) ∧ (4294967296 ≤ r + v1 → True ∧ q - 1 = (u * 4294967296 + d) / (v1 * 4294967296 + v0)) ∧
        (¬ 4294967296 ≤ r + v1 → True ∧ EstInv u d v1 v0 (q - 1) (r + v1) ∧ (4294967296 - (r + v1)).toNat < (4294967296 - r).toNat)) := by
  have hi' := hi
  obtain ⟨i1, i2, i3, i4, i5⟩ := hi
  have hn := h
  obtain ⟨h1, h2, h3, h4, h5, h6, h7, h8⟩ := h
  have qv : q ≤ 18446744073709551615 := by
    have : 1 * q ≤ v1 * q := Int.mul_le_mul_of_nonneg_right (by omega) i1
    rw [Int.mul_comm v1 q] at this
    omega
  have step : (4294967296 ≤ q ∨ 4294967296 * r + d < q * v0) → (0 ≤ q - 1 ∧ q - 1 ≤ 18446744073709551615) ∧ (0 ≤ r + v1 ∧ r + v1 ≤ 18446744073709551615) ∧ (4294967296 ≤ r + v1 → True ∧ q - 1 = (u * 4294967296 + d) / (v1 * 4294967296 + v0)) ∧
        (¬ 4294967296 ≤ r + v1 → True ∧ EstInv u d v1 v0 (q - 1) (r + v1) ∧ (4294967296 - (r + v1)).toNat < (4294967296 - r).toNat) := by
    intro c
    obtain ⟨s1, s2, s3⟩ := est_step hn hi' c
    exact ⟨by omega, by omega, fun e => ⟨trivial, est_far hn s2 s3 e (by omega)⟩, fun e => ⟨trivial, ⟨by omega, by omega, by omega, s3, s2⟩, by omega⟩⟩
  refine ⟨fun c => ⟨⟨Int.mul_nonneg i1 h3, ?_⟩, by omega, by omega, fun e => step (.inr e), fun e => ⟨trivial, est_end hn i5 i4 (by omega)⟩⟩, fun c => step (.inl c)⟩
  have : q * v0 ≤ 4294967296 * 4294967295 := Int.mul_le_mul (by omega) (by omega) h3 (by omega)
  omega
/-- What is left of a half, as it wraps round. -/
theorem left_half {u d Y q : Int} (hY : 0 < Y ∧ Y < M64) (hq : q = (u * 4294967296 + d) / Y) : ((u * 4294967296 % M64 + d) % M64 - q * Y % M64) % M64 = (u * 4294967296 + d) % Y := by
  have e : q * Y + (u * 4294967296 + d) % Y = u * 4294967296 + d := by rw [hq, Int.mul_comm]; exact Int.mul_ediv_add_emod _ _
  have r0 : 0 ≤ (u * 4294967296 + d) % Y := Int.emod_nonneg _ (by omega)
  have r1 : (u * 4294967296 + d) % Y < Y := Int.emod_lt_of_pos _ hY.1
  generalize (u * 4294967296 + d) % Y = r at *
  generalize q * Y = p at *
  simp only [M64] at *
  omega
theorem est_checks {u d v1 v0 : Int} (h : Norm u d v1 v0) : v1 ≠ 0 ∧ (0 ≤ u.tdiv v1 ∧ u.tdiv v1 ≤ 18446744073709551615) ∧ (0 ≤ u.tdiv v1 * v1 ∧ u.tdiv v1 * v1 ≤ 18446744073709551615) ∧ (0 ≤ u - u.tdiv v1 * v1 ∧ u - u.tdiv v1 * v1 ≤ 18446744073709551615) ∧ EstInv u d v1 v0 (u.tdiv v1) (u - u.tdiv v1 * v1) := by
  have e0 := est_0 h
  obtain ⟨h1, h2, h3, h4, h5, h6, h7, h8⟩ := h
  rw [Int.tdiv_eq_ediv_of_nonneg h5]
  have q0 : 0 ≤ u / v1 := Int.ediv_nonneg h5 (by omega)
  have q1 : u / v1 ≤ u := Int.ediv_le_self _ h5
  have m0 : 0 ≤ u / v1 * v1 := Int.mul_nonneg q0 (by omega)
  have m1 : u / v1 * v1 ≤ u := Int.ediv_mul_le _ (by omega)
  exact ⟨by omega, by omega, by omega, by omega, e0⟩
theorem both_halves {u w Y q1 q0 r1 : Int} (hY : 0 < Y) (e1 : q1 = (u * 4294967296 + w / 4294967296) / Y) (er : r1 = (u * 4294967296 + w / 4294967296) % Y) (e0 : q0 = (r1 * 4294967296 + w % 4294967296) / Y) :
    (u * M64 + w) / Y = q1 * 4294967296 + q0 ∧ (u * M64 + w) % Y = (r1 * 4294967296 + w % 4294967296) % Y := by
  have a1 : q1 * Y + r1 = u * 4294967296 + w / 4294967296 := by rw [e1, er, Int.mul_comm]; exact Int.mul_ediv_add_emod _ _
  have a0 : q0 * Y + (r1 * 4294967296 + w % 4294967296) % Y = r1 * 4294967296 + w % 4294967296 := by rw [e0, Int.mul_comm]; exact Int.mul_ediv_add_emod _ _
  have b0 : 0 ≤ (r1 * 4294967296 + w % 4294967296) % Y := Int.emod_nonneg _ (by omega)
  have b1 : (r1 * 4294967296 + w % 4294967296) % Y < Y := Int.emod_lt_of_pos _ hY
  generalize (r1 * 4294967296 + w % 4294967296) % Y = r0 at *
  have e : u * M64 + w = r0 + (q1 * 4294967296 + q0) * Y := by
    have c : (q1 * 4294967296 + q0) * Y = q1 * Y * 4294967296 + q0 * Y := by grind
    rw [c]
    simp only [M64]
    omega
  rw [e, Int.add_mul_ediv_right _ _ (by omega), Int.add_mul_emod_self_right, Int.ediv_eq_zero_of_lt b0 b1, Int.emod_eq_of_lt b0 b1]
  exact ⟨by omega, rfl⟩

end Go.Proofs.YtccmidojhagppaaDoor
