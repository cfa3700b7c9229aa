/-
  The document's whole numbers, digit by digit.
-/
import Derived.Test.YteaajihmfacinaaSeat
namespace Go.Proofs.Yteaajihmfacinaa
open Go.Vm
def digs (n : Nat) : List Int := if h : n = 0 then [] else ((n % 10 : Nat) : Int) :: digs (n / 10)
termination_by n
decreasing_by omega
theorem digs_zero : digs 0 = [] := by unfold digs; simp
theorem digs_pos {n : Nat} (h : n ≠ 0) : digs n = ((n % 10 : Nat) : Int) :: digs (n / 10) := by
  rw [digs, dif_neg h]
def InI (n : Int) : Prop := -9223372036854775808 ≤ n ∧ n ≤ 9223372036854775807
def InvOf (n x : Int) (D : List Int) : Prop := D ++ digs x.natAbs = digs n.natAbs ∧ (0 ≤ n → 0 ≤ x) ∧ (n < 0 → x ≤ 0) ∧ x.natAbs * 10 ^ D.length ≤ n.natAbs
theorem invOf_0 (n : Int) : InvOf n n [] := ⟨by simp, fun h => h, fun h => by omega, by simp⟩
theorem invOf_len {n x : Int} {D : List Int} (h : InvOf n x D) (hx : ¬ x = 0) (hn : InI n) : D.length ≤ 19 := by
  obtain ⟨_, _, _, h4⟩ := h
  by_cases hl : D.length ≤ 19
  · exact hl
  · exfalso
    have h1 : 10 ^ 20 ≤ 10 ^ D.length := Nat.pow_le_pow_right (by omega) (by omega)
    have h2 : 1 * 10 ^ D.length ≤ x.natAbs * 10 ^ D.length := Nat.mul_le_mul_right _ (by omega)
    obtain ⟨h5, h6⟩ := hn
    omega
theorem invOf_step {n x d : Int} {D : List Int} (h : InvOf n x D) (hx : ¬ x = 0) (hd : d = (x.natAbs % 10 : Nat)) : InvOf n (x.tdiv 10) (D ++ [d]) := by
  obtain ⟨h1, h2, h3, h4⟩ := h
  have e : (x.tdiv 10).natAbs = x.natAbs / 10 := by rw [Int.natAbs_tdiv]; rfl
  refine ⟨?_, fun h => Int.tdiv_nonneg (h2 h) (by omega), fun h => ?_, ?_⟩
  · rw [e, List.append_assoc, hd, ← h1, digs_pos (n := x.natAbs) (by omega)]
    rfl
  · have := h3 h
    have h5 : (-x).tdiv 10 = -(x.tdiv 10) := Int.neg_tdiv ..
    have h6 : 0 ≤ (-x).tdiv 10 := Int.tdiv_nonneg (by omega) (by omega)
    omega
  · rw [e]
    simp only [List.length_append, List.length_singleton, Nat.pow_succ]
    have : x.natAbs / 10 * (10 ^ D.length * 10) ≤ x.natAbs * 10 ^ D.length := by
      rw [Nat.mul_comm (10 ^ D.length) 10, ← Nat.mul_assoc]
      exact Nat.mul_le_mul_right _ (Nat.div_mul_le_self _ _)
    omega
theorem invOf_end {n x : Int} {D : List Int} (h : InvOf n x D) (hx : x = 0) : D = digs n.natAbs := by
  obtain ⟨h1, _⟩ := h
  subst hx
  simpa [digs_zero] using h1
theorem tmod10 (x : Int) : (x.tmod 10).natAbs = x.natAbs % 10 := by rw [Int.natAbs_tmod]; rfl
theorem tdiv10 (x : Int) : (x.tdiv 10).natAbs = x.natAbs / 10 := by rw [Int.natAbs_tdiv]; rfl
noncomputable def env_of (n : Int) : Env where
  P := Try.prog
  ty := tys0
  heads := fun
    | 3 => some { slots := [(4, .int .i64)], boxes := [(3, [.bool, .slc 5000 I])], keep := [2], inv := fun _ (x : Int × Bool × List Int × Unit) => x.2.1 = decide (n < 0) ∧ InvOf n x.1 x.2.2.1, measure := fun _ (x : Int × Bool × List Int × Unit) => x.1.natAbs }
    | _ => none
abbrev ann_of : Ann := { slots := numP 0 [.bool, .slc 5000 I], boxes := [], inv := fun _ _ => True }
def g_of_vc (n : Int) : Prop :=
  ((some (Obj.box [V.kb false, V.nils]) = some (Obj.box [V.kb false, V.nils]) ∧ True) ∧ decide (n < (0 : Int)) = decide (n < (0 : Int)) ∧ InvOf n n []) ∧ ∀ (x : Int × Bool × List Int × Unit), x.2.1 = decide (n < (0 : Int)) ∧ InvOf n x.1 x.2.2.1 → ((!decide (x.1 = (0 : Int))) = true → (10 : Int) ≠ (0 : Int) ∧ (decide (x.1.tmod (10 : Int) < (0 : Int)) = true → ((-9223372036854775808 : Int) ≤ (0 : Int) - x.1.tmod (10 : Int) ∧ (0 : Int) - x.1.tmod (10 : Int) ≤ (9223372036854775807 : Int)) ∧ ((x.2.2.1.length + (1 : Nat)) * (8 : Nat) ≤ (140737488355328 : Nat) ∧ x.2.2.1.length + (1 : Nat) ≤ (4611686018427387904 : Nat)) ∧ (10 : Int) ≠ (0 : Int) ∧ ((-9223372036854775808 : Int) ≤ x.1.tdiv (10 : Int) ∧ x.1.tdiv (10 : Int) ≤ (9223372036854775807 : Int)) ∧ (some (Obj.box [V.kb false, V.nils]) = some (Obj.box [V.kb false, V.nils]) ∧ True) ∧ (x.2.1 = decide (n < (0 : Int)) ∧ InvOf n (x.1.tdiv (10 : Int)) (x.2.2.1 ++ [(0 : Int) - x.1.tmod (10 : Int)])) ∧ (x.1.tdiv (10 : Int)).natAbs < x.1.natAbs) ∧ (decide (x.1.tmod (10 : Int) < (0 : Int)) = false → ((x.2.2.1.length + (1 : Nat)) * (8 : Nat) ≤ (140737488355328 : Nat) ∧ x.2.2.1.length + (1 : Nat) ≤ (4611686018427387904 : Nat)) ∧ (10 : Int) ≠ (0 : Int) ∧ ((-9223372036854775808 : Int) ≤ x.1.tdiv (10 : Int) ∧ x.1.tdiv (10 : Int) ≤ (9223372036854775807 : Int)) ∧ (some (Obj.box [V.kb false, V.nils]) = some (Obj.box [V.kb false, V.nils]) ∧ True) ∧ (x.2.1 = decide (n < (0 : Int)) ∧ InvOf n (x.1.tdiv (10 : Int)) (x.2.2.1 ++ [x.1.tmod (10 : Int)])) ∧ (x.1.tdiv (10 : Int)).natAbs < x.1.natAbs)) ∧ ((!decide (x.1 = (0 : Int))) = false → True ∧ (x.2.1, x.2.2.1, ()) = (decide (n < (0 : Int)), digs n.natAbs, ()))
theorem g_of_eq (n : Int) : CondG (env_of n) Try.f27 [.int .i64 n] [some 2] ann_of (decide (n < 0), digs n.natAbs, ()) = g_of_vc n := by kernel_rfl
theorem g_of_ok (n : Int) (h : InI n) : g_of_vc n := by
  refine ⟨⟨⟨rfl, trivial⟩, rfl, invOf_0 n⟩, ?_⟩
  rintro ⟨x, b, D, ⟨⟩⟩ ⟨rfl, hI⟩
  simp only [decide_eq_true_eq, decide_eq_false_iff_not, Bool.not_eq_true', Bool.not_eq_false'] at *
  have h10 := tmod10 x
  have hd10 := tdiv10 x
  obtain ⟨l1, l2⟩ := h
  have hb : x.natAbs ≤ n.natAbs := by
    have h4 := hI.2.2.2
    have : x.natAbs * 1 ≤ x.natAbs * 10 ^ D.length := Nat.mul_le_mul_left _ (Nat.pow_pos (by omega))
    omega
  refine ⟨fun hx => ⟨by omega, fun hm => ?_, fun hm => ?_⟩, fun hx => ⟨trivial, ?_⟩⟩
  · have hl := invOf_len hI hx ⟨l1, l2⟩
    exact ⟨by omega, by omega, by omega, by omega, ⟨trivial, trivial⟩, ⟨trivial, invOf_step hI hx (by omega)⟩, by omega⟩
  · have hl := invOf_len hI hx ⟨l1, l2⟩
    exact ⟨by omega, by omega, by omega, ⟨trivial, trivial⟩, ⟨trivial, invOf_step hI hx (by omega)⟩, by omega⟩
  · rw [invOf_end hI hx]
set_option maxRecDepth 20000
theorem of_pure (n : Int) (h : InI n) : Pure Try.prog 27 [.int .i64 n] (.agg [.bool (decide (n < 0)), .olist I (digs n.natAbs)]) :=
  by have k := Pure.of_condG (r := (.agg [.bool (decide (n < 0)), .olist I (digs n.natAbs)])) (g_of_eq n) (g_of_ok n h) rfl (specs_ok rfl [] [] rfl rfl) mixed Try.func27; exact k
noncomputable def q_of (n : Int) : Prop × V := (InI n, (.agg [.bool (decide (n < 0)), .olist I (digs n.natAbs)]))
noncomputable def sp_of : FSpec Try.prog where
 f := 27
 run := fun
  | [.int .i64 n] => some (q_of n)
  | _ => none
 ok := fun args pre r h hp => by
  split at h
  · rename_i n
    exact of_q h hp fun h => (of_pure n h).weak (.cons (.refl _) .nil)
  · cases h
end Go.Proofs.Yteaajihmfacinaa
