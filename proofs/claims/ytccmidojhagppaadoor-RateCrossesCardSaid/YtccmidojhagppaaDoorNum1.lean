/-
  The functions of 'num' over pairs of words.
-/
import Derived.Test.YtccmidojhagppaaDoorBig1
import Derived.Shelf.Spec.BitsCarry
namespace Go.Proofs.YtccmidojhagppaaDoor
open Go.Vm

abbrev M64 : Int := 18446744073709551616
/-- A word. -/
def InW (n : Int) : Prop := 0 ≤ n ∧ n < M64

theorem sub64_ext (x y b : Int) (h : InW x ∧ InW y ∧ 0 ≤ b ∧ b ≤ 1) : Ext Tryd.prog 55 [.int .u64 x, .int .u64 y, .int .u64 b] (.tuple [.int .u64 ((x - y - b) % M64), .int .u64 (if x < y + b then 1 else 0)]) := by
  intro X vs hr
  obtain ⟨u1, r1, rfl, a1, hr⟩ := hr.cons_inv
  obtain ⟨u2, r2, rfl, a2, hr⟩ := hr.cons_inv
  obtain ⟨u3, r3, rfl, a3, hr⟩ := hr.cons_inv
  rw [hr.nil_inv, a1.int_inv, a2.int_inv, a3.int_inv]
  obtain ⟨⟨h1, h5⟩, ⟨h2, h6⟩, h3, h4⟩ := h
  refine ⟨.tuple #[.int .u64 ((x - y - b) % M64), .int .u64 (if x < y + b then 1 else 0)], ?_, RepL.tuple2 (.cons .int (.cons .int .nil))⟩
  have := run_callFunc_extern Tryd.func55 (by kernel_rfl) (by kernel_rfl) (by kernel_rfl) (e := sub64Entry) (by kernel_rfl) #[.int .u64 x, .int .u64 y, .int .u64 b] X.w
  obtain ⟨x', rfl⟩ := Int.eq_ofNat_of_zero_le h1
  obtain ⟨y', rfl⟩ := Int.eq_ofNat_of_zero_le h2
  obtain ⟨b', rfl⟩ := Int.eq_ofNat_of_zero_le h3
  have k := run_sub64 (P := Tryd.prog) x' y' b' (by omega) X.w
  rw [show (#[.int .u64 (x' : Int), .int .u64 (y' : Int), .int .u64 (b' : Int)] : Array Value) = #[.int .u64 x', .int .u64 y', .int .u64 b'] from rfl] at this
  rw [k] at this
  have e1 : (((x' + 18446744073709551616 - y' - b') % 18446744073709551616 : Nat) : Int) = ((x' : Int) - y' - b') % M64 := by
    simp only [M64] at *
    omega
  have e2 : (((if x' < y' + b' then 1 else 0 : Nat)) : Int) = if (x' : Int) < (y' : Int) + (b' : Int) then 1 else 0 := by
    split <;> split <;> omega
  rw [e1, e2] at this
  exact this

noncomputable def sp_sub64 : ESpec Tryd.prog where
  f := 55
  run := fun args => match args with
    | [.int .u64 x, .int .u64 y, .int .u64 c] => some (InW x ∧ InW y ∧ 0 ≤ c ∧ c ≤ 1, .tuple [.int .u64 ((x - y - c) % M64), .int .u64 (if x < y + c then 1 else 0)])
    | _ => none
  ok := fun args pre r h hp => by
    split at h
    · cases h
      exact sub64_ext _ _ _ hp
    · cases h

/-- Is there less? -/
def lessB (b d : Int) : Int := if b < d then 1 else 0
/-- The high word of a number. -/
def hiW (n : Int) : Int := if n < 0 then 18446744073709551615 else 0
/-- A sum, and a number more. -/
def addW (s : Int × Int) (n : Int) : Int × Int := ((s.1 + hiW n + (s.2 + n % M64) / M64) % M64, (s.2 + n % M64) % M64)
def InvE (l : List Int) (a b i hi lo : Int) : Prop := 0 ≤ i ∧ i ≤ l.length ∧ (hi, lo) = (l.take i.toNat).foldl addW (a, b) ∧ InW hi ∧ InW lo

theorem hiW_w (n : Int) : InW (hiW n) := by
  unfold hiW InW M64
  split <;> omega
theorem mod_w (n : Int) : InW (n % M64) := ⟨Int.emod_nonneg _ (by decide), Int.emod_lt_of_pos _ (by decide)⟩
/-- A sum, and a number less. -/
def subW (s : Int × Int) (n : Int) : Int × Int := ((s.1 - hiW n - lessB s.2 (n % M64)) % M64, (s.2 - n % M64) % M64)
def InvM (l : List Int) (a b i hi lo : Int) : Prop := 0 ≤ i ∧ i ≤ l.length ∧ (hi, lo) = (l.take i.toNat).foldl subW (a, b) ∧ InW hi ∧ InW lo

/-- A pair told as a number, if it is one. -/
def intF (a b : Int) : Int × Int := if hiW (IntKind.i64.wrap b) = a ∧ IntKind.i64.wrap b % M64 = b then (IntKind.i64.wrap b, 0) else (0, 10)

end Go.Proofs.YtccmidojhagppaaDoor
