/-
  Words: products, zeros ahead, bit by bit; a wide number and its words.
-/
import Derived.Test.YtccmidojhagppaaDoorNum2
import Derived.Test.YtccmidojhagppaaDoorScan1
namespace Go.Proofs.YtccmidojhagppaaDoor
open Go.Vm

/-- The high word of a wide number, and the low one. -/
def hiZ (z : Int) : Int := z / M64
def loZ (z : Int) : Int := z % M64
/-- What both words are worth. -/
def wz (a b : Int) : Int := a * M64 + b
theorem wz_hilo (z : Int) : wz (hiZ z) (loZ z) = z := by
  unfold wz hiZ loZ M64
  omega
theorem hi_wz {a b : Int} (h : InW b) : hiZ (wz a b) = a := by
  unfold wz hiZ
  unfold InW at h
  simp only [M64] at *
  omega
theorem lo_wz {a b : Int} (h : InW b) : loZ (wz a b) = b := by
  unfold wz loZ
  unfold InW at h
  simp only [M64] at *
  omega
theorem lo_w (z : Int) : InW (loZ z) := mod_w z
/-- In 128 bits, with a sign. -/
def InZ (z : Int) : Prop := -170141183460469231731687303715884105728 ≤ z ∧ z ≤ 170141183460469231731687303715884105727
theorem inz_words {z : Int} (h : InZ z) : InI (hiZ z) ∧ InW (loZ z) := by
  refine ⟨?_, lo_w z⟩
  unfold InZ at h
  unfold InI hiZ M64
  omega
theorem inz_wz {a b : Int} (ha : InI a) (hb : InW b) : InZ (wz a b) := by
  unfold InZ wz
  unfold InI at ha
  unfold InW at hb
  simp only [M64] at *
  omega

theorem mul64_pure (x y : Int) (h : InW x ∧ InW y) : Pure Tryd.prog 39 [.int .u64 x, .int .u64 y] (.tuple [.int .u64 (hiZ (x * y)), .int .u64 (loZ (x * y))]) := by
  refine pure_calls (fun F w vs hF hr => ?_) rfl rfl
  obtain ⟨u1, r1, rfl, a1, hr⟩ := hr.cons_inv
  obtain ⟨u2, r2, rfl, a2, hr⟩ := hr.cons_inv
  rw [hr.nil_inv, a1.int_inv, a2.int_inv]
  obtain ⟨⟨h1, h2⟩, h3, h4⟩ := h
  obtain ⟨x', rfl⟩ := Int.eq_ofNat_of_zero_le h1
  obtain ⟨y', rfl⟩ := Int.eq_ofNat_of_zero_le h3
  simp only [M64] at h2 h4
  refine (Tryd.bits_Mul64 x' y' (by omega) (by omega) w).mono fun e w' ⟨he, hw⟩ => ⟨_, he, by rw [hw]; exact .refl _ _, fun X => ?_⟩
  have e1 : ((x' * y' / 18446744073709551616 : Nat) : Int) = hiZ ((x' : Int) * (y' : Int)) := by unfold hiZ M64; simp
  have e2 : ((x' * y' % 18446744073709551616 : Nat) : Int) = loZ ((x' : Int) * (y' : Int)) := by unfold loZ M64; simp
  rw [e1, e2]
  exact RepL.tuple2 (.cons .int (.cons .int .nil))
noncomputable def sp_mul64 : FSpec Tryd.prog where
  f := 39
  run := fun args => match args with
    | [.int .u64 x, .int .u64 y] => some (InW x ∧ InW y, .tuple [.int .u64 (hiZ (x * y)), .int .u64 (loZ (x * y))])
    | _ => none
  ok := fun args pre r h hp => by
    split at h
    · cases h
      exact mul64_pure _ _ hp
    · cases h

/-- The zeros ahead of a word. -/
def leadZ (x : Int) : Int := 64 - (Lib.bitLen x.toNat : Int)
theorem lead_law {y : Int} (h : InW y) (h0 : 0 < y) : 0 ≤ leadZ y ∧ leadZ y ≤ 63 ∧ 9223372036854775808 ≤ y * ((2 ^ (leadZ y).toNat : Nat) : Int) ∧ y * ((2 ^ (leadZ y).toNat : Nat) : Int) < M64 := by
  obtain ⟨y', rfl⟩ := Int.eq_ofNat_of_zero_le h.1
  have h2 : y' < 2 ^ 64 := by
    have := h.2
    simp only [M64] at this
    omega
  obtain ⟨b1, b2, b3⟩ := Lib.bitLenAux_bounds 64 y' h2 (by omega)
  have b4 := Lib.bitLen_le y' 64 (by omega) h2
  have e0 : leadZ ((y' : Nat) : Int) = 64 - (Lib.bitLen y' : Int) := by simp [leadZ]
  have eb : Lib.bitLen y' = Lib.bitLenAux 64 y' := rfl
  rw [e0]
  rw [← eb] at b1 b2 b3
  generalize Lib.bitLen y' = n at *
  have e1 : (64 - (n : Int)).toNat = 64 - n := by omega
  have p1 : 2 ^ (n - 1) * 2 ^ (64 - n) = 2 ^ 63 := by rw [← Nat.pow_add]; congr 1; omega
  have p2 : 2 ^ n * 2 ^ (64 - n) = 2 ^ 64 := by rw [← Nat.pow_add]; congr 1; omega
  have m1 : 2 ^ (n - 1) * 2 ^ (64 - n) ≤ y' * 2 ^ (64 - n) := Nat.mul_le_mul_right _ b2
  have m2 : y' * 2 ^ (64 - n) < 2 ^ n * 2 ^ (64 - n) := Nat.mul_lt_mul_of_pos_right b3 (Nat.pow_pos (by omega))
  rw [e1]
  have c : ((y' : Nat) : Int) * ((2 ^ (64 - n) : Nat) : Int) = ((y' * 2 ^ (64 - n) : Nat) : Int) := by simp
  rw [c, M64]
  rw [p1] at m1
  rw [p2] at m2
  refine ⟨by omega, by omega, ?_, ?_⟩
  · have : ((2 ^ 63 : Nat) : Int) ≤ ((y' * 2 ^ (64 - n) : Nat) : Int) := by exact_mod_cast m1
    simpa using this
  · have : ((y' * 2 ^ (64 - n) : Nat) : Int) < ((2 ^ 64 : Nat) : Int) := by exact_mod_cast m2
    simpa using this

/-! Bit by bit. -/
theorem wrap_w {n : Int} (h : InW n) : IntKind.u64.wrap n = n := by
  rw [IntKind.wrap_u64]
  exact Int.emod_eq_of_lt h.1 h.2
theorem ofInt_nat (n : Nat) (h : n < 2 ^ 64) : (BitVec.ofInt 64 (n : Int)).toNat = n := by
  rw [BitVec.ofInt_natCast, BitVec.toNat_ofNat]
  exact Nat.mod_eq_of_lt h
theorem and_nat {a b : Nat} (ha : a < 2 ^ 64) (hb : b < 2 ^ 64) : andI .u64 (a : Int) (b : Int) = ((a &&& b : Nat) : Int) := by
  unfold andI
  show IntKind.u64.wrap (((BitVec.ofInt 64 (a : Int)) &&& (BitVec.ofInt 64 (b : Int))).toNat : Int) = _
  rw [BitVec.toNat_and, ofInt_nat a ha, ofInt_nat b hb]
  refine wrap_w ⟨by omega, ?_⟩
  have : a &&& b ≤ a := Nat.and_le_left
  simp only [M64]
  omega
theorem or_nat {a b : Nat} (ha : a < 2 ^ 64) (hb : b < 2 ^ 64) : orI .u64 (a : Int) (b : Int) = ((a ||| b : Nat) : Int) := by
  unfold orI
  show IntKind.u64.wrap (((BitVec.ofInt 64 (a : Int)) ||| (BitVec.ofInt 64 (b : Int))).toNat : Int) = _
  rw [BitVec.toNat_or, ofInt_nat a ha, ofInt_nat b hb]
  refine wrap_w ⟨by omega, ?_⟩
  have : a ||| b < 2 ^ 64 := Nat.or_lt_two_pow ha hb
  simp only [M64]
  omega
theorem and_mask {x : Int} (h : InW x) : andI .u64 x 4294967295 = x % 4294967296 := by
  obtain ⟨x', rfl⟩ := Int.eq_ofNat_of_zero_le h.1
  have h2 : x' < 2 ^ 64 := by
    have := h.2
    simp only [M64] at this
    omega
  have := and_nat (a := x') (b := 4294967295) h2 (by decide)
  rw [show ((4294967295 : Nat) : Int) = 4294967295 from rfl] at this
  rw [this, show 4294967295 = 2 ^ 32 - 1 from rfl, Nat.and_two_pow_sub_one_eq_mod]
  simp
theorem and_one {x : Int} (h : InW x) : andI .u64 x 1 = x % 2 := by
  obtain ⟨x', rfl⟩ := Int.eq_ofNat_of_zero_le h.1
  have h2 : x' < 2 ^ 64 := by
    have := h.2
    simp only [M64] at this
    omega
  have := and_nat (a := x') (b := 1) h2 (by decide)
  rw [show ((1 : Nat) : Int) = 1 from rfl] at this
  rw [this, Nat.and_one_is_mod]
  simp
theorem or_add {a b : Int} {k : Nat} (ha : 0 ≤ a) (hb : 0 ≤ b) (hk : b < ((2 ^ k : Nat) : Int)) (hs : a * ((2 ^ k : Nat) : Int) + b < M64) : orI .u64 (a * ((2 ^ k : Nat) : Int)) b = a * ((2 ^ k : Nat) : Int) + b := by
  obtain ⟨a', rfl⟩ := Int.eq_ofNat_of_zero_le ha
  obtain ⟨b', rfl⟩ := Int.eq_ofNat_of_zero_le hb
  have c : ((a' : Nat) : Int) * ((2 ^ k : Nat) : Int) = ((a' * 2 ^ k : Nat) : Int) := by simp
  rw [c] at hs ⊢
  have hk' : b' < 2 ^ k := by exact_mod_cast hk
  simp only [M64] at hs
  rw [or_nat (by omega) (by omega)]
  have := Nat.shiftLeft_add_eq_or_of_lt hk' a'
  rw [Nat.shiftLeft_eq] at this
  rw [← this]
  simp

end Go.Proofs.YtccmidojhagppaaDoor
