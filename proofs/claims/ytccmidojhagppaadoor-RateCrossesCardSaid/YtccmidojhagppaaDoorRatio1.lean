/-
  Zeros behind; the greatest common divisor.
-/
import Derived.Test.YtccmidojhagppaaDoorWide5
import Derived.Lib.TrailingZeros
namespace Go.Proofs.YtccmidojhagppaaDoor
open Go.Vm

/-- How many zeros stand behind. (Told so that nothing unfolds it.) -/
noncomputable def tzI (a : Int) : Int := Classical.choose (⟨_, rfl⟩ : ∃ n : Int, n = (Lib.ctz 64 a.toNat : Int))
theorem tzI_eq (a : Int) : tzI a = (Lib.ctz 64 a.toNat : Int) := Classical.choose_spec (⟨_, rfl⟩ : ∃ n : Int, n = (Lib.ctz 64 a.toNat : Int))
/-- The greatest common divisor. -/
noncomputable def gcdI (a b : Int) : Int := Classical.choose (⟨_, rfl⟩ : ∃ n : Int, n = (Nat.gcd a.toNat b.toNat : Int))
theorem gcdI_eq (a b : Int) : gcdI a b = (Nat.gcd a.toNat b.toNat : Int) := Classical.choose_spec (⟨_, rfl⟩ : ∃ n : Int, n = (Nat.gcd a.toNat b.toNat : Int))
theorem tz_pure (a : Int) (h : InW a) : Pure Tryd.prog 43 [.int .u64 a] (.int .i64 (tzI a)) := by
  rw [tzI_eq]
  refine pure_calls (fun F w vs hF hr => ?_) rfl rfl
  obtain ⟨u1, r1, rfl, a1, hr⟩ := hr.cons_inv
  rw [hr.nil_inv, a1.int_inv]
  obtain ⟨h1, h2⟩ := h
  obtain ⟨a', rfl⟩ := Int.eq_ofNat_of_zero_le h1
  simp only [M64] at h2
  obtain ⟨cs, t, hm, hp⟩ := ground_cell hF F.gnd.2
  refine (Tryd.bits_TrailingZeros a' (by omega) w (fun _ j hj => ?_)).mono fun e w' ⟨he, hw⟩ => ⟨_, he, by rw [hw]; exact .refl _ _, fun X => .int⟩
  have hc : w.cell? ⟨1, j, none⟩ = cs[j]? := by simp [World.cell?, hm]
  rw [hc, hp]
  simp [List.getElem?_map, List.getElem?_eq_getElem hj, List.getD_eq_getElem?_getD]
noncomputable def sp_tz : FSpec Tryd.prog where
  f := 43
  run := fun args => match args with
    | [.int .u64 a] => some (InW a, .int .i64 (tzI a))
    | _ => none
  ok := fun args pre r h hp => by
    split at h
    · cases h
      exact tz_pure _ hp
    · cases h

theorem ctz_split {x : Nat} (h0 : x ≠ 0) (h : x < 18446744073709551616) : ∃ m, x = 2 ^ Lib.ctz 64 x * (2 * m + 1) ∧ Lib.ctz 64 x < 64 := by
  have e : Lib.ctz 64 x = Lib.ctzFrom 64 x := by simp [Lib.ctz, h0]
  rw [e]
  exact Lib.ctzFrom_spec 64 x (by omega) h
/-- What is left behind the zeros. -/
def oddP (x : Nat) : Nat := x / 2 ^ Lib.ctz 64 x
theorem oddP_spec {x : Nat} (h0 : x ≠ 0) (h : x < 18446744073709551616) : x = 2 ^ Lib.ctz 64 x * oddP x ∧ oddP x % 2 = 1 ∧ Lib.ctz 64 x < 64 ∧ oddP x ≤ x := by
  obtain ⟨m, hm, hk⟩ := ctz_split h0 h
  have e : oddP x = 2 * m + 1 := by
    unfold oddP
    rw [Nat.div_eq_iff_eq_mul_left (Nat.two_pow_pos _) ⟨2 * m + 1, hm⟩, Nat.mul_comm]
    exact hm
  refine ⟨by rw [e]; exact hm, by omega, hk, Nat.div_le_self _ _⟩
theorem odd_cop {a : Nat} (h : a % 2 = 1) (k : Nat) : Nat.Coprime (2 ^ k) a := by
  refine Nat.Coprime.pow_left k ?_
  unfold Nat.Coprime
  rw [Nat.gcd_rec, h]
  rfl
theorem gcd_twos {a : Nat} (h : a % 2 = 1) (k y : Nat) : Nat.gcd a (2 ^ k * y) = Nat.gcd a y := Nat.Coprime.gcd_mul_left_cancel_right y (odd_cop h k)
theorem gcd_both {x y : Nat} (hx : x % 2 = 1) (hy : y % 2 = 1) (i j : Nat) : Nat.gcd (2 ^ i * x) (2 ^ j * y) = 2 ^ min i j * Nat.gcd x y := by
  by_cases c : i ≤ j
  · rw [Nat.min_eq_left c, show j = i + (j - i) by omega, Nat.pow_add, Nat.mul_assoc, Nat.gcd_mul_left, gcd_twos hx]
  · rw [Nat.min_eq_right (by omega), show i = j + (i - j) by omega, Nat.pow_add, Nat.mul_assoc, Nat.gcd_mul_left, Nat.gcd_comm, gcd_twos hy, Nat.gcd_comm]
theorem gcd_round {a b : Nat} (ha : a % 2 = 1) (h0 : b ≠ 0) (hb : b < 18446744073709551616) : Nat.gcd a (oddP b) = Nat.gcd a b := by
  obtain ⟨e, h1, _⟩ := oddP_spec h0 hb
  have := gcd_twos ha (Lib.ctz 64 b) (oddP b)
  rw [← e] at this
  exact this.symm

end Go.Proofs.YtccmidojhagppaaDoor
