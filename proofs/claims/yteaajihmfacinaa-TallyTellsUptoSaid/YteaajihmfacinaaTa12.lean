/-
  The document's tally: lines, those, Ids, Total, Partners.
-/
import Derived.Test.YteaajihmfacinaaTa11
import Derived.Test.YteaajihmfacinaaNum3
namespace Go.Proofs.Yteaajihmfacinaa.Ta
open Go.Vm
def InvW (l : List Int) (n : Int) (k : Int) : Prop := 0 ≤ k ∧ k ≤ l.length ∧ ∀ j : Nat, j < k.toNat → ∀ x, l[j]? = some x → x < n
noncomputable def env_with (l : List Int) (n : Int) : Env where
  P := Try.prog
  ty := tys0
  heads := fun
    | 2 => some { slots := [(5, .int .i64)], boxes := [], inv := fun _ (x : Int × Unit) => InvW l n x.1, measure := fun _ (x : Int × Unit) => (l.length - x.1).toNat }
    | _ => none
def g_with_vc (l : List Int) (n : Int) : Prop :=
  (True ∧ InvW l n (0 : Int)) ∧ ∀ (x : Int × Unit), InvW l n x.1 → (decide (x.1 < (↑l.length : Int)) = true → ((0 : Int) ≤ x.1 ∧ x.1 < (↑l.length : Int)) ∧ ∀ (x_1 : Int), l[x.1.toNat]? = some x_1 → (decide (x_1 < n) = true → ((-9223372036854775808 : Int) ≤ x.1 + (1 : Int) ∧ x.1 + (1 : Int) ≤ (9223372036854775807 : Int)) ∧ True ∧ InvW l n (x.1 + (1 : Int)) ∧ ((↑l.length : Int) - (x.1 + (1 : Int))).toNat < ((↑l.length : Int) - x.1).toNat) ∧ (decide (x_1 < n) = false → (decide (x.1 < (↑l.length : Int)) = true → ((0 : Int) ≤ x.1 ∧ x.1 < (↑l.length : Int)) ∧ ∀ (x_2 : Int), l[x.1.toNat]? = some x_2 → (decide (x_2 = n) = true → (l, ()) = (withF l n, ())) ∧ (decide (x_2 = n) = false → ((0 : Int) ≤ x.1 ∧ x.1 ≤ (↑l.length : Int)) ∧ (((0 : Nat) + (List.take x.1.toNat l).length) * (8 : Nat) ≤ (140737488355328 : Nat) ∧ (0 : Nat) + (List.take x.1.toNat l).length ≤ (4611686018427387904 : Nat) ∧ ((0 : Nat) < (List.take x.1.toNat l).length ∨ (0 : Nat) = (0 : Nat))) ∧ (((List.take x.1.toNat l).length + (1 : Nat)) * (8 : Nat) ≤ (140737488355328 : Nat) ∧ (List.take x.1.toNat l).length + (1 : Nat) ≤ (4611686018427387904 : Nat)) ∧ ((0 : Int) ≤ x.1 ∧ x.1 ≤ (↑l.length : Int)) ∧ (((List.take x.1.toNat l ++ [n]).length + (List.drop x.1.toNat l).length) * (8 : Nat) ≤ (140737488355328 : Nat) ∧ (List.take x.1.toNat l ++ [n]).length + (List.drop x.1.toNat l).length ≤ (4611686018427387904 : Nat)) ∧ (List.take x.1.toNat l ++ [n] ++ List.drop x.1.toNat l, ()) = (withF l n, ()))) ∧ (decide (x.1 < (↑l.length : Int)) = !true → ((0 : Int) ≤ x.1 ∧ x.1 ≤ (↑l.length : Int)) ∧ (((0 : Nat) + (List.take x.1.toNat l).length) * (8 : Nat) ≤ (140737488355328 : Nat) ∧ (0 : Nat) + (List.take x.1.toNat l).length ≤ (4611686018427387904 : Nat) ∧ ((0 : Nat) < (List.take x.1.toNat l).length ∨ (0 : Nat) = (0 : Nat))) ∧ (((List.take x.1.toNat l).length + (1 : Nat)) * (8 : Nat) ≤ (140737488355328 : Nat) ∧ (List.take x.1.toNat l).length + (1 : Nat) ≤ (4611686018427387904 : Nat)) ∧ ((0 : Int) ≤ x.1 ∧ x.1 ≤ (↑l.length : Int)) ∧ (((List.take x.1.toNat l ++ [n]).length + (List.drop x.1.toNat l).length) * (8 : Nat) ≤ (140737488355328 : Nat) ∧ (List.take x.1.toNat l ++ [n]).length + (List.drop x.1.toNat l).length ≤ (4611686018427387904 : Nat)) ∧ (List.take x.1.toNat l ++ [n] ++ List.drop x.1.toNat l, ()) = (withF l n, ())))) ∧ (decide (x.1 < (↑l.length : Int)) = !true → (decide (x.1 < (↑l.length : Int)) = true → ((0 : Int) ≤ x.1 ∧ x.1 < (↑l.length : Int)) ∧ ∀ (x_1 : Int), l[x.1.toNat]? = some x_1 → (decide (x_1 = n) = true → (l, ()) = (withF l n, ())) ∧ (decide (x_1 = n) = false → ((0 : Int) ≤ x.1 ∧ x.1 ≤ (↑l.length : Int)) ∧ (((0 : Nat) + (List.take x.1.toNat l).length) * (8 : Nat) ≤ (140737488355328 : Nat) ∧ (0 : Nat) + (List.take x.1.toNat l).length ≤ (4611686018427387904 : Nat) ∧ ((0 : Nat) < (List.take x.1.toNat l).length ∨ (0 : Nat) = (0 : Nat))) ∧ (((List.take x.1.toNat l).length + (1 : Nat)) * (8 : Nat) ≤ (140737488355328 : Nat) ∧ (List.take x.1.toNat l).length + (1 : Nat) ≤ (4611686018427387904 : Nat)) ∧ ((0 : Int) ≤ x.1 ∧ x.1 ≤ (↑l.length : Int)) ∧ (((List.take x.1.toNat l ++ [n]).length + (List.drop x.1.toNat l).length) * (8 : Nat) ≤ (140737488355328 : Nat) ∧ (List.take x.1.toNat l ++ [n]).length + (List.drop x.1.toNat l).length ≤ (4611686018427387904 : Nat)) ∧ (List.take x.1.toNat l ++ [n] ++ List.drop x.1.toNat l, ()) = (withF l n, ()))) ∧ (decide (x.1 < (↑l.length : Int)) = !true → ((0 : Int) ≤ x.1 ∧ x.1 ≤ (↑l.length : Int)) ∧ (((0 : Nat) + (List.take x.1.toNat l).length) * (8 : Nat) ≤ (140737488355328 : Nat) ∧ (0 : Nat) + (List.take x.1.toNat l).length ≤ (4611686018427387904 : Nat) ∧ ((0 : Nat) < (List.take x.1.toNat l).length ∨ (0 : Nat) = (0 : Nat))) ∧ (((List.take x.1.toNat l).length + (1 : Nat)) * (8 : Nat) ≤ (140737488355328 : Nat) ∧ (List.take x.1.toNat l).length + (1 : Nat) ≤ (4611686018427387904 : Nat)) ∧ ((0 : Int) ≤ x.1 ∧ x.1 ≤ (↑l.length : Int)) ∧ (((List.take x.1.toNat l ++ [n]).length + (List.drop x.1.toNat l).length) * (8 : Nat) ≤ (140737488355328 : Nat) ∧ (List.take x.1.toNat l ++ [n]).length + (List.drop x.1.toNat l).length ≤ (4611686018427387904 : Nat)) ∧ (List.take x.1.toNat l ++ [n] ++ List.drop x.1.toNat l, ()) = (withF l n, ())))
theorem g_with_eq (l : List Int) (n : Int) : Cond (env_with l n) Try.f37 [.list .part I l, .int .i64 n] [.list .part I] (withF l n, ()) = g_with_vc l n := by kernel_rfl
theorem withF_at : ∀ (l : List Int) (n : Int) (k : Nat), k ≤ l.length → (∀ j, j < k → ∀ x, l[j]? = some x → x < n) → (∀ x, l[k]? = some x → ¬ x < n) →
    withF l n = if l[k]? = some n then l else l.take k ++ [n] ++ l.drop k
  | [], n, k, hk, _, _ => by
    have : k = 0 := by simpa using hk
    subst this; simp [withF]
  | x :: r, n, 0, _, _, h => by
    have := h x (by simp)
    simp only [withF, if_neg this]
    by_cases e : x = n <;> simp [e]
  | x :: r, n, k + 1, hk, hj, h => by
    have h0 := hj 0 (by omega) x (by simp)
    have ih := withF_at r n k (by simpa using hk) (fun j hjk y hy => hj (j + 1) (by omega) y (by simpa using hy)) (fun y hy => h y (by simpa using hy))
    simp only [withF, if_pos h0, ih]
    by_cases e : r[k]? = some n <;> simp [e]
theorem g_with_ok (l : List Int) (n : Int) (h : l.length ≤ 1000000000) : g_with_vc l n := by
  unfold g_with_vc
  refine ⟨⟨trivial, by omega, by omega, fun j hj => by simp at hj⟩, ?_⟩
  rintro ⟨k, _⟩ ⟨h1, h2, h3⟩
  have fin : (∀ x, l[k.toNat]? = some x → ¬ x < n) → l[k.toNat]? ≠ some n → l.take k.toNat ++ [n] ++ l.drop k.toNat = withF l n := by
    intro a b
    rw [withF_at l n k.toNat (by omega) h3 a, if_neg b]
  have fin2 : l[k.toNat]? = some n → l = withF l n := by
    intro b
    rw [withF_at l n k.toNat (by omega) h3 (fun x hx => by rw [b] at hx; cases hx; omega), if_pos b]
  have lens : (l.take k.toNat).length ≤ l.length ∧ (l.drop k.toNat).length ≤ l.length := by simp; omega
  simp only [decide_eq_true_eq, decide_eq_false_iff_not, Bool.not_true, List.length_append, List.length_singleton] at *
  refine ⟨fun c => ⟨⟨h1, c⟩, fun x hx => ⟨fun hlt => ⟨by omega, trivial, ⟨by omega, by omega, fun j hj y hy => ?_⟩, by omega⟩, fun hge => ⟨fun _ => ⟨⟨h1, c⟩, fun y hy => ⟨fun e => ?_, fun e => ?_⟩⟩, fun hn => absurd c hn⟩⟩⟩, fun c => ⟨fun hn => absurd hn c, fun _ => ?_⟩⟩
  · by_cases hji : j < k.toNat
    · exact h3 j hji y hy
    · have : j = k.toNat := by omega
      subst this
      rw [hx] at hy; cases hy; exact hlt
  · subst e
    rw [← fin2 hy]
  · refine ⟨by omega, ⟨by omega, by omega, .inr trivial⟩, by omega, by omega, by omega, ?_⟩
    rw [fin (fun z hz => by rw [hx] at hz; cases hz; exact hge) (by rw [hy]; simpa using e)]
  · refine ⟨by omega, ⟨by omega, by omega, .inr trivial⟩, by omega, by omega, by omega, ?_⟩
    have e0 : l[k.toNat]? = none := List.getElem?_eq_none (by omega)
    rw [fin (fun z hz => by rw [e0] at hz; cases hz) (by rw [e0]; simp)]
set_option maxRecDepth 20000
theorem with_pure (l : List Int) (n : Int) (h : l.length ≤ 1000000000) : Pure Try.prog 37 [.list .part I l, .int .i64 n] (.list .part I (withF l n)) :=
  by have k := Pure.of_cond (g_with_eq l n) (g_with_ok l n h) (specs_ok rfl [] [] rfl rfl) mixed Try.func37; exact k
noncomputable def q_with (l : List Int) (n : Int) : Prop × V := (l.length ≤ 1000000000, (.list .part I (withF l n)))
noncomputable def sp_with : FSpec Try.prog where
 f := 37
 run := fun
  | [v0, .int .i64 n] => (asP I v0 : Option (List Int)).bind fun l => some (q_with l n)
  | _ => none
 ok := fun args pre r h hp => by
  split at h
  · rename_i v0 n
    obtain ⟨l, h0, h⟩ := Option.bind_eq_some_iff.1 h
    exact of_q h hp fun h => (with_pure l n h).weak (.cons (asP_weak h0) (.cons (.refl _) .nil))
  · cases h
theorem toNat_next {i : Int} (h : 0 ≤ i) : (i + 1).toNat = i.toNat + 1 := by omega
def FwE (N : List En) : Prop := N.length ≤ 100 ∧ ∀ x ∈ N, x.2.2.length ≤ 100 ∧ WordI x.1 ∧ ∀ y ∈ x.2.2, WL y
noncomputable def env_rlines (N : List En) : Env where
  P := Try.prog
  ty := tys0
  heads := fun | 3 => some { slots := [(4, .int .i64), (3, .slc 9000 PoT)], boxes := [], inv := fun _ (x : Int × List Po × Unit) => 0 ≤ x.1 ∧ x.1 ≤ N.length ∧ (x.2.1.length : Int) ≤ 1000 * x.1 ∧ linesF N = x.2.1 ++ poGo (N.drop x.1.toNat) x.1 x.2.1.length, measure := fun _ (x : Int × List Po × Unit) => (N.length - x.1).toNat } | 6 => some { slots := [(4, .int .i64), (5, .int .i64), (3, .slc 9000 PoT)], boxes := [], inv := fun st (x : Int × Int × List Po × Unit) => ∃ y, N[x.1.toNat]? = some y ∧ x.1 = st.int 4 ∧ 0 ≤ x.1 ∧ x.1 < N.length ∧ 0 ≤ x.2.1 ∧ x.2.1 ≤ y.2.2.length ∧ (x.2.2.1.length : Int) ≤ 1000 * x.1 + x.2.1 ∧ linesF N = x.2.2.1 ++ (lnGo y.1 x.1 (y.2.2.drop x.2.1.toNat) x.2.2.1.length ++ poGo (N.drop (x.1 + 1).toNat) (x.1 + 1) (x.2.2.1.length + (y.2.2.length - x.2.1.toNat))), measure := fun _ (x : Int × Int × List Po × Unit) => 1000 - x.2.1.toNat } | _ => none
def g_rlines_vc (N : List En) : Prop :=
  (True ∧ (0 : Int) ≤ (0 : Int) ∧ (0 : Int) ≤ (↑N.length : Int) ∧ (↑(0 : Nat) : Int) ≤ (1000 : Int) * (0 : Int) ∧ linesF N = poGo (List.drop (Int.toNat (0 : Int)) N) (0 : Int) (0 : Nat)) ∧ ∀ (x : Int × List (Int × Int × Int × Int × Int × Int × Int) × Unit), (0 : Int) ≤ x.1 ∧ x.1 ≤ (↑N.length : Int) ∧ (↑x.2.1.length : Int) ≤ (1000 : Int) * x.1 ∧ linesF N = x.2.1 ++ poGo (List.drop x.1.toNat N) x.1 x.2.1.length → (decide (x.1 < (↑N.length : Int)) = true → (True ∧ ∃ y, N[x.1.toNat]? = some y ∧ x.1 = x.1 ∧ (0 : Int) ≤ x.1 ∧ x.1 < (↑N.length : Int) ∧ (0 : Int) ≤ (0 : Int) ∧ (0 : Int) ≤ (↑y.2.2.length : Int) ∧ (↑x.2.1.length : Int) ≤ (1000 : Int) * x.1 + (0 : Int) ∧ linesF N = x.2.1 ++ (lnGo y.1 x.1 (List.drop (Int.toNat (0 : Int)) y.2.2) x.2.1.length ++ poGo (List.drop (x.1 + (1 : Int)).toNat N) (x.1 + (1 : Int)) (x.2.1.length + (y.2.2.length - Int.toNat (0 : Int))))) ∧ ∀ (x_1 : Int × Int × List (Int × Int × Int × Int × Int × Int × Int) × Unit), (∃ y, N[x_1.1.toNat]? = some y ∧ x_1.1 = x.1 ∧ (0 : Int) ≤ x_1.1 ∧ x_1.1 < (↑N.length : Int) ∧ (0 : Int) ≤ x_1.2.1 ∧ x_1.2.1 ≤ (↑y.2.2.length : Int) ∧ (↑x_1.2.2.1.length : Int) ≤ (1000 : Int) * x_1.1 + x_1.2.1 ∧ linesF N = x_1.2.2.1 ++ (lnGo y.1 x_1.1 (List.drop x_1.2.1.toNat y.2.2) x_1.2.2.1.length ++ poGo (List.drop (x_1.1 + (1 : Int)).toNat N) (x_1.1 + (1 : Int)) (x_1.2.2.1.length + (y.2.2.length - x_1.2.1.toNat)))) → ((0 : Int) ≤ x_1.1 ∧ x_1.1 < (↑N.length : Int)) ∧ ∀ (x_2 : Int × Int × List (Int × Int × Int × Int)), N[x_1.1.toNat]? = some x_2 → (decide (x_1.2.1 < (↑x_2.2.2.length : Int)) = true → ((-9223372036854775808 : Int) ≤ (↑x_1.2.2.1.length : Int) + (1 : Int) ∧ (↑x_1.2.2.1.length : Int) + (1 : Int) ≤ (9223372036854775807 : Int)) ∧ ((-9223372036854775808 : Int) ≤ x_1.1 + (1 : Int) ∧ x_1.1 + (1 : Int) ≤ (9223372036854775807 : Int)) ∧ ((0 : Int) ≤ x_1.1 ∧ x_1.1 < (↑N.length : Int)) ∧ ∀ (x_3 : Int × Int × List (Int × Int × Int × Int)), N[x_1.1.toNat]? = some x_3 → ((0 : Int) ≤ x_1.1 ∧ x_1.1 < (↑N.length : Int)) ∧ ∀ (x_4 : Int × Int × List (Int × Int × Int × Int)), N[x_1.1.toNat]? = some x_4 → ((0 : Int) ≤ x_1.2.1 ∧ x_1.2.1 < (↑x_4.2.2.length : Int)) ∧ ∀ (x_5 : Int × Int × Int × Int), x_4.2.2[x_1.2.1.toNat]? = some x_5 → ((x_1.2.2.1.length + (1 : Nat)) * (56 : Nat) ≤ (140737488355328 : Nat) ∧ x_1.2.2.1.length + (1 : Nat) ≤ (4611686018427387904 : Nat)) ∧ ((-9223372036854775808 : Int) ≤ x_1.2.1 + (1 : Int) ∧ x_1.2.1 + (1 : Int) ≤ (9223372036854775807 : Int)) ∧ True ∧ (∃ y, N[x_1.1.toNat]? = some y ∧ x_1.1 = x.1 ∧ (0 : Int) ≤ x_1.1 ∧ x_1.1 < (↑N.length : Int) ∧ (0 : Int) ≤ x_1.2.1 + (1 : Int) ∧ x_1.2.1 + (1 : Int) ≤ (↑y.2.2.length : Int) ∧ (↑(x_1.2.2.1 ++ [((↑x_1.2.2.1.length : Int) + (1 : Int), x_1.1 + (1 : Int), x_3.1, x_5.1, x_5.2.1, x_5.2.2.1, x_5.2.2.2)]).length : Int) ≤ (1000 : Int) * x_1.1 + (x_1.2.1 + (1 : Int)) ∧ linesF N = x_1.2.2.1 ++ [((↑x_1.2.2.1.length : Int) + (1 : Int), x_1.1 + (1 : Int), x_3.1, x_5.1, x_5.2.1, x_5.2.2.1, x_5.2.2.2)] ++ (lnGo y.1 x_1.1 (List.drop (x_1.2.1 + (1 : Int)).toNat y.2.2) (x_1.2.2.1 ++ [((↑x_1.2.2.1.length : Int) + (1 : Int), x_1.1 + (1 : Int), x_3.1, x_5.1, x_5.2.1, x_5.2.2.1, x_5.2.2.2)]).length ++ poGo (List.drop (x_1.1 + (1 : Int)).toNat N) (x_1.1 + (1 : Int)) ((x_1.2.2.1 ++ [((↑x_1.2.2.1.length : Int) + (1 : Int), x_1.1 + (1 : Int), x_3.1, x_5.1, x_5.2.1, x_5.2.2.1, x_5.2.2.2)]).length + (y.2.2.length - (x_1.2.1 + (1 : Int)).toNat)))) ∧ (1000 : Nat) - (x_1.2.1 + (1 : Int)).toNat < (1000 : Nat) - x_1.2.1.toNat) ∧ (decide (x_1.2.1 < (↑x_2.2.2.length : Int)) = false → ((-9223372036854775808 : Int) ≤ x_1.1 + (1 : Int) ∧ x_1.1 + (1 : Int) ≤ (9223372036854775807 : Int)) ∧ True ∧ ((0 : Int) ≤ x_1.1 + (1 : Int) ∧ x_1.1 + (1 : Int) ≤ (↑N.length : Int) ∧ (↑x_1.2.2.1.length : Int) ≤ (1000 : Int) * (x_1.1 + (1 : Int)) ∧ linesF N = x_1.2.2.1 ++ poGo (List.drop (x_1.1 + (1 : Int)).toNat N) (x_1.1 + (1 : Int)) x_1.2.2.1.length) ∧ ((↑N.length : Int) - (x_1.1 + (1 : Int))).toNat < ((↑N.length : Int) - x.1).toNat)) ∧ (decide (x.1 < (↑N.length : Int)) = false → (x.2.1, ()) = (linesF N, ()))
theorem g_rlines_eq (N : List En) : Cond (env_rlines N) Try.f43 [.list .tmp EnT N] [.slc 0 PoT] (linesF N, ()) = g_rlines_vc N := by kernel_rfl
theorem g_rlines_ok (N : List En) (h : FwE N) : g_rlines_vc N := by
  obtain ⟨h, hi⟩ := h
  unfold g_rlines_vc
  simp only [decide_eq_true_eq, decide_eq_false_iff_not]
  refine ⟨⟨trivial, by omega, by omega, by simp, rfl⟩, ?_⟩
  rintro ⟨i, out, ⟨⟩⟩ ⟨h0, h1, h2, hb⟩
  dsimp only at h0 h1 h2 hb ⊢
  refine ⟨fun c => ⟨⟨trivial, ?_⟩, ?_⟩, fun c => ?_⟩
  · have hx : N[i.toNat]? = some N[i.toNat] := List.getElem?_eq_getElem (by omega)
    exact ⟨_, hx, trivial, h0, c, by omega, by omega, by omega, by rw [hb, po_next h0 hx]; rfl⟩
  · clear hb h0 h1 h2 c
    rintro ⟨j, k, ys, ⟨⟩⟩ ⟨y, hy, e, j0, j1, k0, k1, k2, hb⟩
    dsimp only at hy e j0 j1 k0 k1 k2 hb ⊢
    have hly := Nat.le_trans (hi y (List.mem_of_getElem? hy)).1 (by decide : 100 ≤ 1000)
    refine ⟨⟨j0, j1⟩, fun x hx => ?_⟩
    rw [hy] at hx; cases hx
    refine ⟨fun c => ⟨by omega, by omega, ⟨j0, j1⟩, fun z hz => ?_⟩, fun c => ?_⟩
    · rw [hy] at hz; cases hz
      refine ⟨⟨j0, j1⟩, fun z hz => ?_⟩
      rw [hy] at hz; cases hz
      refine ⟨⟨k0, c⟩, fun z hz => ⟨⟨by omega, by omega⟩, by omega, trivial, ⟨y, hy, e, j0, j1, by omega, by omega, by simp only [List.length_append, List.length_singleton]; omega, ?_⟩, by omega⟩⟩
      rw [hb, ln_next k0 hz, List.append_assoc, List.length_append, List.length_singleton, show ys.length + 1 + (y.2.2.length - (k + 1).toNat) = ys.length + (y.2.2.length - k.toNat) by omega]
      rfl
    · refine ⟨by omega, trivial, ⟨by omega, by omega, by omega, ?_⟩, by omega⟩
      rw [hb, ln_end c, List.nil_append, show ys.length + (y.2.2.length - k.toNat) = ys.length by omega]
  · rw [hb, po_end c, List.append_nil]
theorem rlines_pure (N : List En) (h : FwE N) : Pure Try.prog 43 [.list .tmp EnT N] (.olist PoT (linesF N)) :=
  by have k := Pure.of_cond (g_rlines_eq N) (g_rlines_ok N h) (specs_ok rfl [] [] rfl rfl) mixed Try.func43; exact k
noncomputable def q_rlines (N : List En) : Prop × V := (FwE N, (.olist PoT (linesF N)))
noncomputable def sp_rlines : FSpec Try.prog where
 f := 43
 run := fun
  | [v0] => (asL EnT v0 : Option (List En)).bind fun N => some (q_rlines N)
  | _ => none
 ok := fun args pre r h hp => by
  split at h
  · rename_i v0
    obtain ⟨N, h0, h⟩ := Option.bind_eq_some_iff.1 h
    exact of_q h hp fun h => (rlines_pure N h).weak (.cons (asL_weak h0) .nil)
  · cases h
abbrev sumI (l : List Int) : Int := l.foldl (· + ·) 0
theorem sum_bound : ∀ (l : List Int), (∀ n ∈ l, InI n) → -((l.length : Int) * 9223372036854775808) ≤ sumI l ∧ sumI l ≤ (l.length : Int) * 9223372036854775808
  | [], _ => ⟨by simp, by simp⟩
  | a :: r, h => by
    obtain ⟨h1, h2⟩ := h a (by simp)
    obtain ⟨k1, k2⟩ := sum_bound r (fun n hn => h n (by simp [hn]))
    have e : sumI (a :: r) = a + sumI r := by
      unfold sumI
      rw [List.foldl_cons, fold_sum r (0 + a), Int.zero_add]
    rw [e, List.length_cons]
    refine ⟨by omega, by omega⟩
theorem sum_snoc (l : List Int) (a : Int) : sumI (l ++ [a]) = sumI l + a := by
  unfold sumI
  rw [List.foldl_append]
  rfl
noncomputable def env_rtotal (l : List Int) : Env where
  P := Try.prog
  ty := tys0
  specs := specsOf [sp_of, sp_bplus]
  frz := fun | 16 => true | 17 => true | _ => false
  heads := fun
    | 3 => some { slots := [(4, .int .i64)], boxes := [(3, [.bool, .list .part I])], keep := [2], inv := fun _ (x : Int × Bool × List Int × Unit) => 0 ≤ x.1 ∧ x.1 ≤ l.length ∧ x.2.1 = decide (sumI (l.take x.1.toNat) < 0) ∧ x.2.2.1 = digs (sumI (l.take x.1.toNat)).natAbs, measure := fun _ (x : Int × Bool × List Int × Unit) => (l.length - x.1).toNat }
    | _ => none
abbrev ann_rtotal : Ann := { slots := numP 0 [.bool, .list .part I], boxes := [], inv := fun _ _ => True }
def g_rtotal_vc (l : List Int) : Prop :=
  ((some (Obj.box [V.kb false, V.nils]) = some (Obj.box [V.kb false, V.nils]) ∧ True) ∧ (0 : Int) ≤ (0 : Int) ∧ (0 : Int) ≤ (↑l.length : Int) ∧ false = decide (sumI (List.take (Int.toNat (0 : Int)) l) < (0 : Int)) ∧ [] = digs (sumI (List.take (Int.toNat (0 : Int)) l)).natAbs) ∧ ∀ (x : Int × Bool × List Int × Unit), (0 : Int) ≤ x.1 ∧ x.1 ≤ (↑l.length : Int) ∧ x.2.1 = decide (sumI (List.take x.1.toNat l) < (0 : Int)) ∧ x.2.2.1 = digs (sumI (List.take x.1.toNat l)).natAbs → (decide (x.1 < (↑l.length : Int)) = true → ((0 : Int) ≤ x.1 ∧ x.1 < (↑l.length : Int)) ∧ ∀ (x_1 : Int), l[x.1.toNat]? = some x_1 → InI x_1 ∧ (Big x.2.1 x.2.2.1 ∧ Big (decide (x_1 < (0 : Int))) (digs x_1.natAbs) ∧ x.2.2.1.length ≤ (1000000 : Nat) ∧ (digs x_1.natAbs).length ≤ (1000000 : Nat)) ∧ ((-9223372036854775808 : Int) ≤ x.1 + (1 : Int) ∧ x.1 + (1 : Int) ≤ (9223372036854775807 : Int)) ∧ (some (Obj.box [V.kb false, V.nils]) = some (Obj.box [V.kb false, V.nils]) ∧ True) ∧ ((0 : Int) ≤ x.1 + (1 : Int) ∧ x.1 + (1 : Int) ≤ (↑l.length : Int) ∧ decide (Yteaajihmfacinaa.big x.2.1 x.2.2.1 + Yteaajihmfacinaa.big (decide (x_1 < (0 : Int))) (digs x_1.natAbs) < (0 : Int)) = decide (sumI (List.take (x.1 + (1 : Int)).toNat l) < (0 : Int)) ∧ digs (Yteaajihmfacinaa.big x.2.1 x.2.2.1 + Yteaajihmfacinaa.big (decide (x_1 < (0 : Int))) (digs x_1.natAbs)).natAbs = digs (sumI (List.take (x.1 + (1 : Int)).toNat l)).natAbs) ∧ ((↑l.length : Int) - (x.1 + (1 : Int))).toNat < ((↑l.length : Int) - x.1).toNat) ∧ (decide (x.1 < (↑l.length : Int)) = false → True ∧ (x.2.1, x.2.2.1, ()) = (decide (sumI l < (0 : Int)), digs (sumI l).natAbs, ()))
theorem g_rtotal_eq (l : List Int) : CondG (env_rtotal l) Try.f48 [.list .tmp I l] [some 2] ann_rtotal (decide (sumI l < 0), digs (sumI l).natAbs, ()) = g_rtotal_vc l := by kernel_rfl
theorem digI_len {n : Int} (h : InI n) : (digs n.natAbs).length ≤ 30 := by
  obtain ⟨h1, h2⟩ := h
  exact digs_len (k := 30) (by omega)
theorem sum_len {l : List Int} (h : ∀ n ∈ l, InI n) (hl : l.length ≤ 100000) (i : Nat) : (digs (sumI (l.take i)).natAbs).length ≤ 30 := by
  obtain ⟨a1, a2⟩ := sum_bound (l.take i) (fun n hn => h n (List.mem_of_mem_take hn))
  have : (l.take i).length ≤ 100000 := by rw [List.length_take]; omega
  exact digs_len (by omega)
theorem sum_next {l : List Int} {i : Nat} {y : Int} (hy : l[i]? = some y) : sumI (l.take (i + 1)) = sumI (l.take i) + y := by
  rw [List.take_add_one, hy]
  exact sum_snoc _ _
theorem g_rtotal_ok (l : List Int) (h : l.length ≤ 100000 ∧ ∀ n ∈ l, InI n) : g_rtotal_vc l := by
  obtain ⟨hl, hi⟩ := h
  unfold g_rtotal_vc
  simp only [decide_eq_true_eq, decide_eq_false_iff_not]
  refine ⟨⟨⟨trivial, trivial⟩, by omega, by omega, by simp [sumI], by simp [sumI, digs_zero]⟩, ?_⟩
  rintro ⟨i, b, d, ⟨⟩⟩ ⟨h0, h1, hb, hd⟩
  dsimp only at h0 h1 hb hd ⊢
  have hB : Big b d := by rw [hb, hd]; exact Big_digs _
  have hv : Go.Proofs.Yteaajihmfacinaa.big b d = sumI (l.take i.toNat) := by rw [hb, hd]; exact big_digs _
  have dl : d.length ≤ 30 := by rw [hd]; exact sum_len hi hl _
  rw [hv]
  refine ⟨fun c => ⟨⟨h0, c⟩, fun y hy => ?_⟩, fun c => ⟨trivial, ?_⟩⟩
  · have hy' := hi y (List.mem_of_getElem? hy)
    rw [big_digs, toNat_next h0, sum_next hy]
    exact ⟨hy', ⟨hB, Big_digs _, by omega, Nat.le_trans (digI_len hy') (by decide)⟩, by omega, ⟨trivial, trivial⟩, ⟨by omega, by omega, rfl, rfl⟩, by omega⟩
  · rw [hb, hd, List.take_of_length_le (by omega)]
theorem rtotal_pure (l : List Int) (h : l.length ≤ 100000 ∧ ∀ n ∈ l, InI n) : Pure Try.prog 48 [.list .tmp I l] (.agg [.bool (decide (sumI l < 0)), .list .part I (digs (sumI l).natAbs)]) :=
  by have k := Pure.of_condG (r := (.agg [.bool (decide (sumI l < 0)), .list .part I (digs (sumI l).natAbs)])) (g_rtotal_eq l) (g_rtotal_ok l h) rfl (specs_ok rfl [sp_of, sp_bplus] [] rfl rfl) mixed Try.func48; exact k
noncomputable def q_rtotal (l : List Int) : Prop × V := (l.length ≤ 100000 ∧ ∀ n ∈ l, InI n, (.agg [.bool (decide (sumI l < 0)), .list .part I (digs (sumI l).natAbs)]))
noncomputable def sp_rtotal : FSpec Try.prog where
 f := 48
 run := fun
  | [v0] => (asL I v0 : Option (List Int)).bind fun l => some (q_rtotal l)
  | _ => none
 ok := fun args pre r h hp => by
  split at h
  · rename_i v0
    obtain ⟨l, h0, h⟩ := Option.bind_eq_some_iff.1 h
    exact of_q h hp fun h => (rtotal_pure l h).weak (.cons (asL_weak h0) .nil)
  · cases h
noncomputable def env_rnet (l m : List Int) : Env where
  P := Try.prog
  ty := tys0
  specs := specsOf [sp_rtotal, sp_bminus, sp_told]
  frz := fun | 7 => true | 9 => true | 10 => true | 11 => true | _ => false
def g_rnet_vc (l : List Int) (m : List Int) : Prop :=
  (l.length ≤ (100000 : Nat) ∧ ∀ (n : Int), n ∈ l → InI n) ∧ (m.length ≤ (100000 : Nat) ∧ ∀ (n : Int), n ∈ m → InI n) ∧ (Big (decide (sumI l < (0 : Int))) (digs (sumI l).natAbs) ∧ Big (decide (sumI m < (0 : Int))) (digs (sumI m).natAbs) ∧ (digs (sumI l).natAbs).length ≤ (1000000 : Nat) ∧ (digs (sumI m).natAbs).length ≤ (1000000 : Nat)) ∧ (Big (decide (Yteaajihmfacinaa.big (decide (sumI l < (0 : Int))) (digs (sumI l).natAbs) - Yteaajihmfacinaa.big (decide (sumI m < (0 : Int))) (digs (sumI m).natAbs) < (0 : Int))) (digs (Yteaajihmfacinaa.big (decide (sumI l < (0 : Int))) (digs (sumI l).natAbs) - Yteaajihmfacinaa.big (decide (sumI m < (0 : Int))) (digs (sumI m).natAbs)).natAbs) ∧ (digs (Yteaajihmfacinaa.big (decide (sumI l < (0 : Int))) (digs (sumI l).natAbs) - Yteaajihmfacinaa.big (decide (sumI m < (0 : Int))) (digs (sumI m).natAbs)).natAbs).length ≤ (1000000 : Nat)) ∧ (intB (Yteaajihmfacinaa.big (decide (Yteaajihmfacinaa.big (decide (sumI l < (0 : Int))) (digs (sumI l).natAbs) - Yteaajihmfacinaa.big (decide (sumI m < (0 : Int))) (digs (sumI m).natAbs) < (0 : Int))) (digs (Yteaajihmfacinaa.big (decide (sumI l < (0 : Int))) (digs (sumI l).natAbs) - Yteaajihmfacinaa.big (decide (sumI m < (0 : Int))) (digs (sumI m).natAbs)).natAbs)), faultB (Yteaajihmfacinaa.big (decide (Yteaajihmfacinaa.big (decide (sumI l < (0 : Int))) (digs (sumI l).natAbs) - Yteaajihmfacinaa.big (decide (sumI m < (0 : Int))) (digs (sumI m).natAbs) < (0 : Int))) (digs (Yteaajihmfacinaa.big (decide (sumI l < (0 : Int))) (digs (sumI l).natAbs) - Yteaajihmfacinaa.big (decide (sumI m < (0 : Int))) (digs (sumI m).natAbs)).natAbs)), ()) = ((netF l m).1, (netF l m).2, ())
theorem g_rnet_eq (l m : List Int) : Cond (env_rnet l m) Try.f25 [.list .tmp I l, .list .tmp I m] [.int .i64, .int .i64] ((netF l m).1, (netF l m).2, ()) = g_rnet_vc l m := by kernel_rfl
theorem g_rnet_ok (l m : List Int) (h : l.length ≤ 100000 ∧ m.length ≤ 100000 ∧ (∀ n ∈ l, InI n) ∧ ∀ n ∈ m, InI n) : g_rnet_vc l m := by
  obtain ⟨h1, h2, hl, hm⟩ := h
  obtain ⟨a1, a2⟩ := sum_bound l hl
  obtain ⟨b1, b2⟩ := sum_bound m hm
  have s1 := sum_len hl h1 l.length
  have s2 := sum_len hm h2 m.length
  rw [List.take_length] at s1 s2
  unfold g_rnet_vc
  rw [netF_law hl hm (sumI l - sumI m) rfl (by omega)]
  simp only [big_digs]
  refine ⟨⟨h1, hl⟩, ⟨h2, hm⟩, ⟨Big_digs _, Big_digs _, by omega, by omega⟩, ⟨Big_digs _, Nat.le_trans (digs_len (k := 40) (by omega)) (by decide)⟩, ?_⟩
  trivial
theorem rnet_pure (l m : List Int) (h : l.length ≤ 100000 ∧ m.length ≤ 100000 ∧ (∀ n ∈ l, InI n) ∧ ∀ n ∈ m, InI n) : Pure Try.prog 25 [.list .tmp I l, .list .tmp I m] (.tuple [.int .i64 (netF l m).1, .int .i64 (netF l m).2]) :=
  by have k := Pure.of_cond (g_rnet_eq l m) (g_rnet_ok l m h) (specs_ok rfl [sp_rtotal, sp_bminus, sp_told] [] rfl rfl) mixed Try.func25; exact k
noncomputable def q_rnet (l m : List Int) : Prop × V := (l.length ≤ 100000 ∧ m.length ≤ 100000 ∧ (∀ n ∈ l, InI n) ∧ ∀ n ∈ m, InI n, (.tuple [.int .i64 (netF l m).1, .int .i64 (netF l m).2]))
noncomputable def sp_rnet : FSpec Try.prog where
 f := 25
 run := fun
  | [v0, v1] => (asL I v0 : Option (List Int)).bind fun l => (asL I v1 : Option (List Int)).bind fun m => some (q_rnet l m)
  | _ => none
 ok := fun args pre r h hp => by
  split at h
  · rename_i v0 v1
    obtain ⟨l, h0, h⟩ := Option.bind_eq_some_iff.1 h
    obtain ⟨m, h1, h⟩ := Option.bind_eq_some_iff.1 h
    exact of_q h hp fun h => (rnet_pure l m h).weak (.cons (asL_weak h0) (.cons (asL_weak h1) .nil))
  · cases h
end Go.Proofs.Yteaajihmfacinaa.Ta
