/-
  ref11.With; slices.Clone.
-/
import Derived.Test.YtgjpehgnagfghaaGreatStk4
namespace Go.Proofs.YtgjpehgnagfghaaGreat.Stk
open Go.Vm
noncomputable abbrev tys : TypeId → Option Ty := tys0
def Inv28 (l : List Int) (n : Int) (k : Int) : Prop := 0 ≤ k ∧ k ≤ l.length ∧ ∀ j : Nat, j < k.toNat → ∀ x, l[j]? = some x → x < n
noncomputable def env_with (l : List Int) (n : Int) : Env where
  P := Tryz.prog
  ty := tys
  heads := fun
    | 2 => some { slots := [(5, .int .i64)], boxes := [], inv := fun _ (x : Int × Unit) => Inv28 l n x.1, measure := fun _ (x : Int × Unit) => (l.length - x.1).toNat }
    | _ => none
def g_with_vc (l : List Int) (n : Int) : Prop :=
  (True ∧ Inv28 l n (0 : Int)) ∧ ∀ (x : Int × Unit), Inv28 l n x.1 → (decide (x.1 < (↑l.length : Int)) = true → ((0 : Int) ≤ x.1 ∧ x.1 < (↑l.length : Int)) ∧ ∀ (x_1 : Int), l[x.1.toNat]? = some x_1 → (decide (x_1 < n) = true → ((-9223372036854775808 : Int) ≤ x.1 + (1 : Int) ∧ x.1 + (1 : Int) ≤ (9223372036854775807 : Int)) ∧ True ∧ Inv28 l n (x.1 + (1 : Int)) ∧ ((↑l.length : Int) - (x.1 + (1 : Int))).toNat < ((↑l.length : Int) - x.1).toNat) ∧ (decide (x_1 < n) = false → (decide (x.1 < (↑l.length : Int)) = true → ((0 : Int) ≤ x.1 ∧ x.1 < (↑l.length : Int)) ∧ ∀ (x_2 : Int), l[x.1.toNat]? = some x_2 → (decide (x_2 = n) = true → (l, ()) = (withF l n, ())) ∧ (decide (x_2 = n) = false → ((0 : Int) ≤ x.1 ∧ x.1 ≤ (↑l.length : Int)) ∧ (((0 : Nat) + (List.take x.1.toNat l).length) * (8 : Nat) ≤ (140737488355328 : Nat) ∧ (0 : Nat) + (List.take x.1.toNat l).length ≤ (4611686018427387904 : Nat) ∧ ((0 : Nat) < (List.take x.1.toNat l).length ∨ (0 : Nat) = (0 : Nat))) ∧ (((List.take x.1.toNat l).length + (1 : Nat)) * (8 : Nat) ≤ (140737488355328 : Nat) ∧ (List.take x.1.toNat l).length + (1 : Nat) ≤ (4611686018427387904 : Nat)) ∧ ((0 : Int) ≤ x.1 ∧ x.1 ≤ (↑l.length : Int)) ∧ (((List.take x.1.toNat l ++ [n]).length + (List.drop x.1.toNat l).length) * (8 : Nat) ≤ (140737488355328 : Nat) ∧ (List.take x.1.toNat l ++ [n]).length + (List.drop x.1.toNat l).length ≤ (4611686018427387904 : Nat)) ∧ (List.take x.1.toNat l ++ [n] ++ List.drop x.1.toNat l, ()) = (withF l n, ()))) ∧ (decide (x.1 < (↑l.length : Int)) = !true → ((0 : Int) ≤ x.1 ∧ x.1 ≤ (↑l.length : Int)) ∧ (((0 : Nat) + (List.take x.1.toNat l).length) * (8 : Nat) ≤ (140737488355328 : Nat) ∧ (0 : Nat) + (List.take x.1.toNat l).length ≤ (4611686018427387904 : Nat) ∧ ((0 : Nat) < (List.take x.1.toNat l).length ∨ (0 : Nat) = (0 : Nat))) ∧ (((List.take x.1.toNat l).length + (1 : Nat)) * (8 : Nat) ≤ (140737488355328 : Nat) ∧ (List.take x.1.toNat l).length + (1 : Nat) ≤ (4611686018427387904 : Nat)) ∧ ((0 : Int) ≤ x.1 ∧ x.1 ≤ (↑l.length : Int)) ∧ (((List.take x.1.toNat l ++ [n]).length + (List.drop x.1.toNat l).length) * (8 : Nat) ≤ (140737488355328 : Nat) ∧ (List.take x.1.toNat l ++ [n]).length + (List.drop x.1.toNat l).length ≤ (4611686018427387904 : Nat)) ∧ (List.take x.1.toNat l ++ [n] ++ List.drop x.1.toNat l, ()) = (withF l n, ())))) ∧ (decide (x.1 < (↑l.length : Int)) = !true → (decide (x.1 < (↑l.length : Int)) = true → ((0 : Int) ≤ x.1 ∧ x.1 < (↑l.length : Int)) ∧ ∀ (x_1 : Int), l[x.1.toNat]? = some x_1 → (decide (x_1 = n) = true → (l, ()) = (withF l n, ())) ∧ (decide (x_1 = n) = false → ((0 : Int) ≤ x.1 ∧ x.1 ≤ (↑l.length : Int)) ∧ (((0 : Nat) + (List.take x.1.toNat l).length) * (8 : Nat) ≤ (140737488355328 : Nat) ∧ (0 : Nat) + (List.take x.1.toNat l).length ≤ (4611686018427387904 : Nat) ∧ ((0 : Nat) < (List.take x.1.toNat l).length ∨ (0 : Nat) = (0 : Nat))) ∧ (((List.take x.1.toNat l).length + (1 : Nat)) * (8 : Nat) ≤ (140737488355328 : Nat) ∧ (List.take x.1.toNat l).length + (1 : Nat) ≤ (4611686018427387904 : Nat)) ∧ ((0 : Int) ≤ x.1 ∧ x.1 ≤ (↑l.length : Int)) ∧ (((List.take x.1.toNat l ++ [n]).length + (List.drop x.1.toNat l).length) * (8 : Nat) ≤ (140737488355328 : Nat) ∧ (List.take x.1.toNat l ++ [n]).length + (List.drop x.1.toNat l).length ≤ (4611686018427387904 : Nat)) ∧ (List.take x.1.toNat l ++ [n] ++ List.drop x.1.toNat l, ()) = (withF l n, ()))) ∧ (decide (x.1 < (↑l.length : Int)) = !true → ((0 : Int) ≤ x.1 ∧ x.1 ≤ (↑l.length : Int)) ∧ (((0 : Nat) + (List.take x.1.toNat l).length) * (8 : Nat) ≤ (140737488355328 : Nat) ∧ (0 : Nat) + (List.take x.1.toNat l).length ≤ (4611686018427387904 : Nat) ∧ ((0 : Nat) < (List.take x.1.toNat l).length ∨ (0 : Nat) = (0 : Nat))) ∧ (((List.take x.1.toNat l).length + (1 : Nat)) * (8 : Nat) ≤ (140737488355328 : Nat) ∧ (List.take x.1.toNat l).length + (1 : Nat) ≤ (4611686018427387904 : Nat)) ∧ ((0 : Int) ≤ x.1 ∧ x.1 ≤ (↑l.length : Int)) ∧ (((List.take x.1.toNat l ++ [n]).length + (List.drop x.1.toNat l).length) * (8 : Nat) ≤ (140737488355328 : Nat) ∧ (List.take x.1.toNat l ++ [n]).length + (List.drop x.1.toNat l).length ≤ (4611686018427387904 : Nat)) ∧ (List.take x.1.toNat l ++ [n] ++ List.drop x.1.toNat l, ()) = (withF l n, ())))
theorem g_with_eq (l : List Int) (n : Int) : Cond (env_with l n) Tryz.f154 [.list .part I l, .int .i64 n] [.list .part I] (withF l n, ()) = g_with_vc l n := by kernel_rfl
noncomputable def env_clone (l : List Stk) : Env where
  P := Tryz.prog
  ty := tys
def g_clone_vc (l : List Stk) : Prop :=
  ((true = true → l.length = (0 : Nat)) → ([], ()) = (l, ())) ∧ ((false = true → l.length = (0 : Nat)) → (((0 : Nat) + l.length) * (32 : Nat) ≤ (140737488355328 : Nat) ∧ (0 : Nat) + l.length ≤ (4611686018427387904 : Nat) ∧ ((0 : Nat) < l.length ∨ (0 : Nat) = (0 : Nat))) ∧ (l, ()) = (l, ()))
theorem g_clone_eq (l : List Stk) : Cond (env_clone l) Tryz.f62 [.list .tmp STy l] [.slc 0 STy] (l, ()) = g_clone_vc l := by kernel_rfl
theorem withF_at : ∀ (l : List Int) (n : Int) (k : Nat), k ≤ l.length → (∀ j, j < k → ∀ x, l[j]? = some x → x < n) → (∀ x, l[k]? = some x → ¬ x < n) →
    withF l n = if l[k]? = some n then l else l.take k ++ [n] ++ l.drop k
  | [], n, k, hk, _, _ => by
    have : k = 0 := by simpa using hk
    subst this; simp [withF]
  | x :: r, n, 0, _, _, h => by
    have := h x (by simp)
    simp only [withF, if_neg this]
    by_cases e : x = n <;> simp [e]
  | x :: r, n, k + 1, hk, hj, h => by
    have h0 := hj 0 (by omega) x (by simp)
    have ih := withF_at r n k (by simpa using hk) (fun j hjk y hy => hj (j + 1) (by omega) y (by simpa using hy)) (fun y hy => h y (by simpa using hy))
    simp only [withF, if_pos h0, ih]
    by_cases e : r[k]? = some n <;> simp [e]
theorem g_with_ok (l : List Int) (n : Int) (h : l.length ≤ 1000000000) : g_with_vc l n := by
  unfold g_with_vc
  refine ⟨⟨trivial, by omega, by omega, fun j hj => by simp at hj⟩, ?_⟩
  rintro ⟨k, _⟩ ⟨h1, h2, h3⟩
  have fin : (∀ x, l[k.toNat]? = some x → ¬ x < n) → l[k.toNat]? ≠ some n → l.take k.toNat ++ [n] ++ l.drop k.toNat = withF l n := by
    intro a b
    rw [withF_at l n k.toNat (by omega) h3 a, if_neg b]
  have fin2 : l[k.toNat]? = some n → l = withF l n := by
    intro b
    rw [withF_at l n k.toNat (by omega) h3 (fun x hx => by rw [b] at hx; cases hx; omega), if_pos b]
  have lens : (l.take k.toNat).length ≤ l.length ∧ (l.drop k.toNat).length ≤ l.length := by simp; omega
  simp only [decide_eq_true_eq, decide_eq_false_iff_not, Bool.not_true, List.length_append, List.length_singleton] at *
  refine ⟨fun c => ⟨⟨h1, c⟩, fun x hx => ⟨fun hlt => ⟨by omega, trivial, ⟨by omega, by omega, fun j hj y hy => ?_⟩, by omega⟩, fun hge => ⟨fun _ => ⟨⟨h1, c⟩, fun y hy => ⟨fun e => ?_, fun e => ?_⟩⟩, fun hn => absurd c hn⟩⟩⟩, fun c => ⟨fun hn => absurd hn c, fun _ => ?_⟩⟩
  · by_cases hji : j < k.toNat
    · exact h3 j hji y hy
    · have : j = k.toNat := by omega
      subst this
      rw [hx] at hy; cases hy; exact hlt
  · subst e
    rw [← fin2 hy]
  · refine ⟨by omega, ⟨by omega, by omega, .inr trivial⟩, by omega, by omega, by omega, ?_⟩
    rw [fin (fun z hz => by rw [hx] at hz; cases hz; exact hge) (by rw [hy]; simpa using e)]
  · refine ⟨by omega, ⟨by omega, by omega, .inr trivial⟩, by omega, by omega, by omega, ?_⟩
    have e0 : l[k.toNat]? = none := List.getElem?_eq_none (by omega)
    rw [fin (fun z hz => by rw [e0] at hz; cases hz) (by rw [e0]; simp)]
set_option maxRecDepth 20000
theorem with_pure (l : List Int) (n : Int) (h : l.length ≤ 1000000000) : Pure Tryz.prog 154 [.list .part I l, .int .i64 n] (.list .part I (withF l n)) :=
  by have k := Pure.of_cond (g_with_eq l n) (g_with_ok l n h) (specs_ok rfl [] [] rfl rfl) mixed Tryz.func154; exact k
noncomputable def q_with (l : List Int) (n : Int) : Prop × V := (l.length ≤ 1000000000, (.list .part I (withF l n)))
noncomputable def sp_with : FSpec Tryz.prog where
 f := 154
 run := fun
  | [v0, .int .i64 n] => (asP I v0 : Option (List Int)).bind fun l => some (q_with l n)
  | _ => none
 ok := fun args pre r h hp => by
  split at h
  · rename_i v0 n
    obtain ⟨l, h0, h⟩ := Option.bind_eq_some_iff.1 h
    exact of_q h hp fun h => (with_pure l n h).weak (.cons (asP_weak h0) (.cons (.refl _) .nil))
  · cases h
theorem g_clone_ok (l : List Stk) (h : l.length ≤ 1000000000) : g_clone_vc l := by
  unfold g_clone_vc
  refine ⟨fun e => ?_, fun _ => ⟨⟨by omega, by omega, .inr rfl⟩, rfl⟩⟩
  have := List.eq_nil_of_length_eq_zero (e rfl)
  rw [this]
theorem clone_pure (l : List Stk) (h : l.length ≤ 1000000000) : Pure Tryz.prog 62 [.list .tmp STy l] (.olist STy l) :=
  by have k := Pure.of_cond (g_clone_eq l) (g_clone_ok l h) (specs_ok rfl [] [] rfl rfl) mixed Tryz.func62; exact k
noncomputable def q_clone (l : List Stk) : Prop × V := (l.length ≤ 1000000000, (.olist STy l))
noncomputable def sp_clone : FSpec Tryz.prog where
 f := 62
 run := fun
  | [v0] => (asL STy v0 : Option (List Stk)).bind fun l => some (q_clone l)
  | _ => none
 ok := fun args pre r h hp => by
  split at h
  · rename_i v0
    obtain ⟨l, h0, h⟩ := Option.bind_eq_some_iff.1 h
    exact of_q h hp fun h => (clone_pure l h).weak (.cons (asL_weak h0) .nil)
  · cases h
end Go.Proofs.YtgjpehgnagfghaaGreat.Stk
