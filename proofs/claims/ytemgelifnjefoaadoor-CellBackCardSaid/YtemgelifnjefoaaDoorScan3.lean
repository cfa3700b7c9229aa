/-
  Whole numbers: products; numerals read.
-/
import Derived.Test.YtemgelifnjefoaaDoorScan2
namespace Go.Proofs.YtemgelifnjefoaaDoor
open Go.Vm

/-- A row of the product: so many zeros, then a digit's products, with what is carried. -/
def RowInv (l : List Int) (i : Nat) (d : Int) (k c : Int) (o : List Int) : Prop :=
  0 ≤ k ∧ 0 ≤ c ∧ c ≤ 9 ∧ (k ≤ l.length ∨ c = 0) ∧ k ≤ l.length + 1 ∧ (o.length : Int) = i + k ∧ Dig o ∧ val o + 10 ^ (i + k.toNat) * c = 10 ^ i * (d * val (l.take k.toNat))
theorem row_0 (l : List Int) (i : Nat) (d : Int) : RowInv l i d 0 0 (List.replicate i 0) := by
  refine ⟨by omega, by omega, by omega, .inr rfl, by omega, by simp, fun x hx => ?_, ?_⟩
  · have := (List.mem_replicate.1 hx).2
    omega
  · rw [val_zeros (fun x hx => (List.mem_replicate.1 hx).2)]
    simp [val]
theorem row_step {l o : List Int} {i : Nat} {d k c n : Int} (hl : Dig l) (h : RowInv l i d k c o) (hd : 0 ≤ d ∧ d ≤ 9) (hc : k < l.length ∨ 0 < c) (hn : n = c + at0 l k.toNat * d) :
    RowInv l i d (k + 1) (n.tdiv 10) (o ++ [n.tmod 10]) := by
  obtain ⟨h1, h2, h3, h4, h5, h6, h7, h8⟩ := h
  obtain ⟨a1, a2⟩ := at0_dig hl k.toNat
  have p1 : 0 ≤ at0 l k.toNat * d := Int.mul_nonneg a1 hd.1
  have p2 : at0 l k.toNat * d ≤ 9 * 9 := Int.mul_le_mul a2 hd.2 hd.1 (by omega)
  have hn0 : 0 ≤ n := by omega
  have e1 : n.tdiv 10 = n / 10 := Int.tdiv_eq_ediv_of_nonneg hn0
  have e2 : n.tmod 10 = n % 10 := Int.tmod_eq_emod_of_nonneg hn0
  have hlen : o.length = i + k.toNat := by omega
  rw [e1, e2]
  refine ⟨by omega, by omega, by omega, ?_, ?_, by simp; omega, dig_app.2 ⟨h7, fun x hx => ?_⟩, ?_⟩
  · by_cases hk : k < l.length
    · exact .inl (by omega)
    · right
      have z : at0 l k.toNat = 0 := at0_none (by omega)
      rw [z, Int.zero_mul] at hn
      omega
  · omega
  · simp only [List.mem_singleton] at hx
    omega
  · have ek : (k + 1).toNat = k.toNat + 1 := by omega
    have ev : n = n % 10 + 10 * (n / 10) := by omega
    rw [ek, val_take_at, val_app, hlen]
    have e3 : (10 : Int) ^ (i + (k.toNat + 1)) = 10 ^ (i + k.toNat) * 10 := by rw [← Nat.add_assoc, Int.pow_succ]
    have e4 : (10 : Int) ^ (i + k.toNat) = 10 ^ i * 10 ^ k.toNat := Int.pow_add ..
    rw [e3]
    simp only [val, Int.mul_zero, Int.add_zero]
    generalize n % 10 = r at *
    generalize n / 10 = q at *
    generalize at0 l k.toNat = a at *
    generalize val (l.take k.toNat) = v at *
    generalize val o = vo at *
    rw [e4] at h8 ⊢
    generalize (10 : Int) ^ i = A at *
    generalize (10 : Int) ^ k.toNat = B at *
    grind
theorem row_end {l o : List Int} {i : Nat} {d k c : Int} (h : RowInv l i d k c o) (h1 : ¬ k < l.length) (h2 : ¬ 0 < c) : Dig o ∧ val o = 10 ^ i * (d * val l) ∧ (o.length : Int) ≤ i + l.length + 1 := by
  obtain ⟨k1, k2, k3, k4, k5, k6, k7, k8⟩ := h
  have hc : c = 0 := by omega
  rw [hc, Int.mul_zero, Int.add_zero, List.take_of_length_le (by omega)] at k8
  exact ⟨k7, k8, by omega⟩
theorem mul_take {l m : List Int} (i : Nat) : val l * val (m.take (i + 1)) = val l * val (m.take i) + 10 ^ i * (at0 m i * val l) := by
  rw [val_take_at]
  generalize val l = a
  generalize val (m.take i) = b
  generalize at0 m i = c
  generalize (10 : Int) ^ i = d
  grind
theorem mul_nonneg' {l m : List Int} (hl : Dig l) (hm : Dig m) (i : Nat) : 0 ≤ val l * val (m.take i) := Int.mul_nonneg (val_nonneg hl) (val_nonneg (dig_take hm i))
theorem mul_len {l m : List Int} (hl : Dig l) (hm : Dig m) (i : Nat) : (digs (val l * val (m.take i)).toNat).length ≤ l.length + m.length := by
  refine digs_len ?_
  have h1 := val_lt hl
  have h2 := val_lt (dig_take hm i)
  have h3 : (10 : Int) ^ (m.take i).length ≤ 10 ^ m.length := pow_le (by rw [List.length_take]; omega)
  have n1 := val_nonneg hl
  have n2 := val_nonneg (dig_take hm i)
  have h4 : val l * val (m.take i) < 10 ^ l.length * 10 ^ m.length := by
    refine Int.lt_of_le_of_lt (Int.mul_le_mul_of_nonneg_right (Int.le_of_lt h1) n2) ?_
    exact Int.mul_lt_mul_of_pos_left (by omega) (by omega)
  have h5 : ((10 ^ (l.length + m.length) : Nat) : Int) = 10 ^ l.length * 10 ^ m.length := by
    rw [Int.natCast_pow, Int.pow_add]
    rfl
  exact (Int.toNat_lt (mul_nonneg' hl hm i)).2 (by rw [h5]; exact h4)
theorem big_sign {s t : Bool} {l m : List Int} (h : Big s l) (k : Big t m) : (big s l * big t m).natAbs = (val l * val m).toNat ∧ (decide (big s l * big t m < 0) = ((!s == t) && decide ((0 : Int) < ((digs (val l * val m).toNat).length : Int)))) := by
  have hP : 0 ≤ val l * val m := Int.mul_nonneg (val_nonneg h.1.dig) (val_nonneg k.1.dig)
  have hlen : (0 : Int) < ((digs (val l * val m).toNat).length : Int) ↔ val l * val m ≠ 0 := by
    have h1 := @digs_nil (val l * val m).toNat
    have h2 := @List.length_eq_zero_iff _ (digs (val l * val m).toNat)
    rw [← h2] at h1
    omega
  have ed : decide ((0 : Int) < ((digs (val l * val m).toNat).length : Int)) = decide (val l * val m ≠ 0) := decide_eq_decide.2 hlen
  rw [ed]
  cases s <;> cases t <;> simp only [big, if_true, Int.neg_mul, Int.mul_neg, Int.neg_neg, Bool.false_eq_true, if_false]
  · exact ⟨by omega, by simp; omega⟩
  · refine ⟨by omega, ?_⟩
    show decide (-(val l * val m) < 0) = decide (val l * val m ≠ 0)
    exact decide_eq_decide.2 (by omega)
  · refine ⟨by omega, ?_⟩
    show decide (-(val l * val m) < 0) = decide (val l * val m ≠ 0)
    exact decide_eq_decide.2 (by omega)
  · exact ⟨by omega, by simp; omega⟩
theorem times_body {l o : List Int} {i : Nat} {d k c n : Int} (hl : Dig l) (ll : l.length ≤ 100000) (hi : i ≤ 100000) (h : RowInv l i d k c o) (hd : 0 ≤ d ∧ d ≤ 9) (hc : k < l.length ∨ 0 < c) (hn : n = c + at0 l k.toNat * d) :
    ((o.length + 1) * 8 ≤ 140737488355328 ∧ o.length + 1 ≤ 4611686018427387904) ∧ (-9223372036854775808 ≤ n.tdiv 10 ∧ n.tdiv 10 ≤ 9223372036854775807) ∧ (-9223372036854775808 ≤ k + 1 ∧ k + 1 ≤ 9223372036854775807) ∧
      RowInv l i d (k + 1) (n.tdiv 10) (o ++ [n.tmod 10]) ∧ 10 * ((l.length : Int) + 1 - (k + 1)).toNat + (n.tdiv 10).toNat < 10 * ((l.length : Int) + 1 - k).toNat + c.toNat := by
  have hs := row_step hl h hd hc hn
  obtain ⟨s1, s2, s3, s4, s5, s6, s7, s8⟩ := hs
  obtain ⟨h1, h2, h3, h4, h5, h6, h7, h8⟩ := h
  exact ⟨by omega, by omega, by omega, ⟨s1, s2, s3, s4, s5, s6, s7, s8⟩, by omega⟩
theorem times_prod {l m : List Int} {i j : Nat} {p q : Int} (hl : Dig l) (hm : Dig m) (hp : l[i]? = some p) (hq : m[j]? = some q) : 0 ≤ p * q ∧ p * q ≤ 81 ∧ p * q = at0 l i * at0 m j := by
  have a := dig_get hl hp
  have b := dig_get hm hq
  have p1 : 0 ≤ p * q := Int.mul_nonneg a.1 b.1
  have p2 : p * q ≤ 9 * 9 := Int.mul_le_mul a.2 b.2 b.1 (by omega)
  exact ⟨p1, by omega, by rw [at0_some hp, at0_some hq]⟩

end Go.Proofs.YtemgelifnjefoaaDoor
