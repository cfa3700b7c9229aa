/-
  ref18.At and ref18.Same; law18.two.
-/
import Derived.Test.YtgjpehgnagfghaaGreatStk1
namespace Go.Proofs.YtgjpehgnagfghaaGreat.Stk
open Go.Vm
def Inv15 (l : List Stk) (e p : Int) (i a s f : Int) (hit : Bool) : Prop :=
  0 ≤ i ∧ i ≤ l.length ∧ match best (l.take i.toNat) e p with
    | none => hit = false ∧ a = 0 ∧ s = 10000
    | some q => hit = true ∧ a = q.2.1 ∧ s = q.2.2.1 ∧ f = q.2.2.2
noncomputable def env_refAt (l : List Stk) (e p : Int) : Env where
  P := Tryz.prog
  ty := fun | 24 => some STy | _ => none
  heads := fun
    | 3 => some { slots := [(12, .int .i64), (8, .int .i64), (9, .int .i64), (10, .int .i64), (11, .bool)], boxes := [],
                  inv := fun _ (x : Int × Int × Int × Int × Bool × Unit) => Inv15 l e p x.1 x.2.1 x.2.2.1 x.2.2.2.1 x.2.2.2.2.1,
                  measure := fun _ (x : Int × Int × Int × Int × Bool × Unit) => (l.length - x.1).toNat }
    | _ => none
def g_refAt_vc (l : List Stk) (e : Int) (p : Int) : Prop :=
  (True ∧ Inv15 l e p (0 : Int) (0 : Int) (10000 : Int) (0 : Int) false) ∧ ∀ (x : Int × Int × Int × Int × Bool × Unit), Inv15 l e p x.1 x.2.1 x.2.2.1 x.2.2.2.1 x.2.2.2.2.1 → (decide (x.1 < (↑l.length : Int)) = true → ((0 : Int) ≤ x.1 ∧ x.1 < (↑l.length : Int)) ∧ ∀ (x_1 : Int × Int × Int × Int), l[x.1.toNat]? = some x_1 → (decide (x_1.1 = e) = true → (decide (x_1.2.2.2 ≤ p) = true → ((!x.2.2.2.2.1) = false → (decide (x.2.2.2.1 ≤ x_1.2.2.2) = true → ((-9223372036854775808 : Int) ≤ x.1 + (1 : Int) ∧ x.1 + (1 : Int) ≤ (9223372036854775807 : Int)) ∧ True ∧ Inv15 l e p (x.1 + (1 : Int)) x_1.2.1 x_1.2.2.1 x_1.2.2.2 true ∧ ((↑l.length : Int) - (x.1 + (1 : Int))).toNat < ((↑l.length : Int) - x.1).toNat) ∧ (decide (x.2.2.2.1 ≤ x_1.2.2.2) = false → ((-9223372036854775808 : Int) ≤ x.1 + (1 : Int) ∧ x.1 + (1 : Int) ≤ (9223372036854775807 : Int)) ∧ True ∧ Inv15 l e p (x.1 + (1 : Int)) x.2.1 x.2.2.1 x.2.2.2.1 x.2.2.2.2.1 ∧ ((↑l.length : Int) - (x.1 + (1 : Int))).toNat < ((↑l.length : Int) - x.1).toNat)) ∧ ((!x.2.2.2.2.1) = !false → ((-9223372036854775808 : Int) ≤ x.1 + (1 : Int) ∧ x.1 + (1 : Int) ≤ (9223372036854775807 : Int)) ∧ True ∧ Inv15 l e p (x.1 + (1 : Int)) x_1.2.1 x_1.2.2.1 x_1.2.2.2 true ∧ ((↑l.length : Int) - (x.1 + (1 : Int))).toNat < ((↑l.length : Int) - x.1).toNat)) ∧ (decide (x_1.2.2.2 ≤ p) = !true → ((-9223372036854775808 : Int) ≤ x.1 + (1 : Int) ∧ x.1 + (1 : Int) ≤ (9223372036854775807 : Int)) ∧ True ∧ Inv15 l e p (x.1 + (1 : Int)) x.2.1 x.2.2.1 x.2.2.2.1 x.2.2.2.2.1 ∧ ((↑l.length : Int) - (x.1 + (1 : Int))).toNat < ((↑l.length : Int) - x.1).toNat)) ∧ (decide (x_1.1 = e) = !true → ((-9223372036854775808 : Int) ≤ x.1 + (1 : Int) ∧ x.1 + (1 : Int) ≤ (9223372036854775807 : Int)) ∧ True ∧ Inv15 l e p (x.1 + (1 : Int)) x.2.1 x.2.2.1 x.2.2.2.1 x.2.2.2.2.1 ∧ ((↑l.length : Int) - (x.1 + (1 : Int))).toNat < ((↑l.length : Int) - x.1).toNat)) ∧ (decide (x.1 < (↑l.length : Int)) = false → (x.2.1, x.2.2.1, ()) = ((atF l e p).1, (atF l e p).2, ()))
theorem g_refAt_eq (l : List Stk) (e p : Int) : Cond (env_refAt l e p) Tryz.f143 [.list .tmp STy l, .int .i64 e, .int .i64 p] [.int .i64, .int .i64] ((atF l e p).1, (atF l e p).2, ()) = g_refAt_vc l e p := by kernel_rfl
noncomputable def env_same (xs ys : List Stk) : Env where
  P := Tryz.prog
  heads := fun | 4 => some { slots := [(5, .int .i64)], boxes := [], inv := fun _ (x : Int × Unit) => 0 ≤ x.1 ∧ x.1 ≤ xs.length ∧ ∀ j : Nat, j < x.1.toNat → xs[j]? = ys[j]?, measure := fun _ (x : Int × Unit) => (xs.length - x.1).toNat } | _ => none
def g_same_vc (xs : List Stk) (ys : List Stk) : Prop :=
  ((!decide ((↑xs.length : Int) = (↑ys.length : Int))) = true → (false, ()) = (decide (xs = ys), ())) ∧ ((!decide ((↑xs.length : Int) = (↑ys.length : Int))) = false → (True ∧ (0 : Int) ≤ (0 : Int) ∧ (0 : Int) ≤ (↑xs.length : Int) ∧ ∀ (j : Nat), j < Int.toNat (0 : Int) → xs[j]? = ys[j]?) ∧ ∀ (x : Int × Unit), ((0 : Int) ≤ x.1 ∧ x.1 ≤ (↑xs.length : Int) ∧ ∀ (j : Nat), j < x.1.toNat → xs[j]? = ys[j]?) → (decide (x.1 < (↑xs.length : Int)) = true → ((0 : Int) ≤ x.1 ∧ x.1 < (↑xs.length : Int)) ∧ ∀ (x_1 : Int × Int × Int × Int), xs[x.1.toNat]? = some x_1 → ((0 : Int) ≤ x.1 ∧ x.1 < (↑ys.length : Int)) ∧ ∀ (x_2 : Int × Int × Int × Int), ys[x.1.toNat]? = some x_2 → ((!(decide (x_1.1 = x_2.1) && (decide (x_1.2.1 = x_2.2.1) && (decide (x_1.2.2.1 = x_2.2.2.1) && (decide (x_1.2.2.2 = x_2.2.2.2) && true))))) = true → (false, ()) = (decide (xs = ys), ())) ∧ ((!(decide (x_1.1 = x_2.1) && (decide (x_1.2.1 = x_2.2.1) && (decide (x_1.2.2.1 = x_2.2.2.1) && (decide (x_1.2.2.2 = x_2.2.2.2) && true))))) = false → ((-9223372036854775808 : Int) ≤ x.1 + (1 : Int) ∧ x.1 + (1 : Int) ≤ (9223372036854775807 : Int)) ∧ True ∧ ((0 : Int) ≤ x.1 + (1 : Int) ∧ x.1 + (1 : Int) ≤ (↑xs.length : Int) ∧ ∀ (j : Nat), j < (x.1 + (1 : Int)).toNat → xs[j]? = ys[j]?) ∧ ((↑xs.length : Int) - (x.1 + (1 : Int))).toNat < ((↑xs.length : Int) - x.1).toNat)) ∧ (decide (x.1 < (↑xs.length : Int)) = false → (true, ()) = (decide (xs = ys), ())))
theorem g_same_eq (xs ys : List Stk) : Cond (env_same xs ys) Tryz.f46 [.list .tmp STy xs, .list .tmp STy ys] [.bool] (decide (xs = ys), ()) = g_same_vc xs ys := by kernel_rfl
theorem g_same_ok (xs ys : List Stk) (h : xs.length ≤ 1000000000) : g_same_vc xs ys := by
  unfold g_same_vc
  simp only [Bool.not_eq_true', decide_eq_false_iff_not, Bool.not_eq_false', decide_eq_true_eq, true_and, Int.ofNat_inj, Int.toNat_zero, Nat.not_lt_zero]
  refine ⟨fun hne => ?_, fun hlen => ⟨⟨by omega, by omega, fun j hj => hj.elim⟩, ?_⟩⟩
  · have : xs ≠ ys := fun e => hne (by rw [e])
    simp [this]
  rintro ⟨i, _⟩ ⟨h1, h2, h3⟩
  simp only at *
  refine ⟨fun hlt => ⟨⟨h1, hlt⟩, fun x hx => ⟨⟨h1, by omega⟩, fun y hy => ⟨fun e => ?_, fun e => ⟨by omega, ⟨by omega, by omega, fun j hj => ?_⟩, by omega⟩⟩⟩⟩, fun hge => ?_⟩
  · have : xs ≠ ys := by
      rintro rfl
      rw [hx] at hy
      cases hy
      simp at e
    simp [this]
  · by_cases hji : j < i.toNat
    · exact h3 j hji
    · have : j = i.toNat := by omega
      subst this
      obtain ⟨a1, a2, a3, a4⟩ := x
      obtain ⟨b1, b2, b3, b4⟩ := y
      simp at e
      obtain ⟨rfl, rfl, rfl, rfl⟩ := e
      rw [hx, hy]
  · have : xs = ys := by
      apply List.ext_getElem?
      intro j
      by_cases hj : j < i.toNat
      · exact h3 j hj
      · rw [List.getElem?_eq_none (by omega), List.getElem?_eq_none (by omega)]
    simp [this]
theorem g_refAt_ok (l : List Stk) (e p : Int) (h : l.length ≤ 1000000000) : g_refAt_vc l e p := by
  unfold g_refAt_vc
  refine ⟨⟨trivial, by simp [Inv15, best]⟩, ?_⟩
  rintro ⟨i, a, s, f, hit, _⟩ hI
  have hI0 := hI
  obtain ⟨h1, h2, h3⟩ := hI0
  simp only [decide_eq_true_eq, decide_eq_false_iff_not, true_and] at *
  have step : ∀ (x : Stk) a' s' f' hit', i < l.length → l[i.toNat]? = some x → (match take e p (best (l.take i.toNat) e p) x with
    | none => hit' = false ∧ a' = 0 ∧ s' = 10000
    | some q => hit' = true ∧ a' = q.2.1 ∧ s' = q.2.2.1 ∧ f' = q.2.2.2) → Inv15 l e p (i + 1) a' s' f' hit' := by
    intro x a' s' f' hit' hi hx hm
    refine ⟨by omega, by omega, ?_⟩
    rw [toNat_next h1, best_take hx]
    exact hm
  refine ⟨fun hi => ⟨⟨h1, hi⟩, fun x hx => ?_⟩, fun hi => ?_⟩
  · have st := fun a' s' f' hit' => step x a' s' f' hit' hi hx
    clear step
    generalize best (l.take i.toNat) e p = b at h3 st
    have m1 : ((l.length : Int) - (i + 1)).toNat < ((l.length : Int) - i).toNat := by omega
    have m2 : -9223372036854775808 ≤ i + 1 ∧ i + 1 ≤ 9223372036854775807 := by omega
    simp only [m1, m2, and_true, true_and, and_self]
    simp only [take] at st
    cases b with
    | none => simp only at h3 st ⊢; grind
    | some q => simp only at h3 st ⊢; grind
  · have hl : l.take i.toNat = l := List.take_of_length_le (by omega)
    rw [hl] at h3
    unfold atF
    split at h3
    · rename_i hb; rw [hb]; simp [h3.2.1, h3.2.2]
    · rename_i q hb; rw [hb]; simp [h3.2.1, h3.2.2.1]
set_option maxRecDepth 20000
theorem same_pure (xs ys : List Stk) (h : xs.length ≤ 1000000000) : Pure Tryz.prog 46 [.list .tmp STy xs, .list .tmp STy ys] (.bool (decide (xs = ys))) :=
  by have k := Pure.of_cond (g_same_eq xs ys) (g_same_ok xs ys h) (specs_ok rfl [] [] rfl rfl) mixed Tryz.func46; exact k
noncomputable def q_same (xs ys : List Stk) : Prop × V := (xs.length ≤ 1000000000, (.bool (decide (xs = ys))))
noncomputable def sp_same : FSpec Tryz.prog where
 f := 46
 run := fun
  | [v0, v1] => (asL STy v0 : Option (List Stk)).bind fun xs => (asL STy v1 : Option (List Stk)).bind fun ys => some (q_same xs ys)
  | _ => none
 ok := fun args pre r h hp => by
  split at h
  · rename_i v0 v1
    obtain ⟨xs, h0, h⟩ := Option.bind_eq_some_iff.1 h
    obtain ⟨ys, h1, h⟩ := Option.bind_eq_some_iff.1 h
    exact of_q h hp fun h => (same_pure xs ys h).weak (.cons (asL_weak h0) (.cons (asL_weak h1) .nil))
  · cases h
theorem refAt_pure (l : List Stk) (e p : Int) (h : l.length ≤ 1000000000) : Pure Tryz.prog 143 [.list .tmp STy l, .int .i64 e, .int .i64 p] (.tuple [.int .i64 (atF l e p).1, .int .i64 (atF l e p).2]) :=
  by have k := Pure.of_cond (g_refAt_eq l e p) (g_refAt_ok l e p h) (specs_ok rfl [] [] rfl rfl) mixed Tryz.func143; exact k
noncomputable def q_refAt (l : List Stk) (e p : Int) : Prop × V := (l.length ≤ 1000000000, (.tuple [.int .i64 (atF l e p).1, .int .i64 (atF l e p).2]))
noncomputable def sp_refAt : FSpec Tryz.prog where
 f := 143
 run := fun
  | [v0, .int .i64 e, .int .i64 p] => (asL STy v0 : Option (List Stk)).bind fun l => some (q_refAt l e p)
  | _ => none
 ok := fun args pre r h hp => by
  split at h
  · rename_i v0 e p
    obtain ⟨l, h0, h⟩ := Option.bind_eq_some_iff.1 h
    exact of_q h hp fun h => (refAt_pure l e p h).weak (.cons (asL_weak h0) (.cons (.refl _) (.cons (.refl _) .nil)))
  · cases h
end Go.Proofs.YtgjpehgnagfghaaGreat.Stk
