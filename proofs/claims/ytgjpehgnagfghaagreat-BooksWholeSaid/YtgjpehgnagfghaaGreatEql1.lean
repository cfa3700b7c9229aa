/-
  What is the same: lists of plain rows.
-/
import Derived.Test.YtgjpehgnagfghaaGreatAcc2
import Derived.Test.YtgjpehgnagfghaaGreatCur1
import Derived.Test.YtgjpehgnagfghaaGreatLck1
import Derived.Test.YtgjpehgnagfghaaGreatStk1
namespace Go.Proofs.YtgjpehgnagfghaaGreat.Eql
open Go.Vm
noncomputable def env_eint (l m : List (Int)) : Env where
  P := Tryz.prog
  ty := tys0
  heads := fun | 4 => some { slots := [(13, .int .i64)], boxes := [], inv := fun _ (x : Int × Unit) => 0 ≤ x.1 ∧ x.1 ≤ l.length ∧ l.take x.1.toNat = m.take x.1.toNat, measure := fun _ (x : Int × Unit) => (l.length - x.1).toNat } | _ => none
def g_eint_vc (l : List Int) (m : List Int) : Prop :=
  ((!decide ((↑l.length : Int) = (↑m.length : Int))) = true → (false, ()) = (decide (l = m), ())) ∧ ((!decide ((↑l.length : Int) = (↑m.length : Int))) = false → (True ∧ (0 : Int) ≤ (0 : Int) ∧ (0 : Int) ≤ (↑l.length : Int) ∧ List.take (Int.toNat (0 : Int)) l = List.take (Int.toNat (0 : Int)) m) ∧ ∀ (x : Int × Unit), (0 : Int) ≤ x.1 ∧ x.1 ≤ (↑l.length : Int) ∧ List.take x.1.toNat l = List.take x.1.toNat m → (decide (x.1 < (↑l.length : Int)) = true → ((0 : Int) ≤ x.1 ∧ x.1 < (↑l.length : Int)) ∧ ∀ (x_1 : Int), l[x.1.toNat]? = some x_1 → ((0 : Int) ≤ x.1 ∧ x.1 < (↑m.length : Int)) ∧ ∀ (x_2 : Int), m[x.1.toNat]? = some x_2 → ((!decide (x_1 = x_2)) = true → (false, ()) = (decide (l = m), ())) ∧ ((!decide (x_1 = x_2)) = false → ((-9223372036854775808 : Int) ≤ x.1 + (1 : Int) ∧ x.1 + (1 : Int) ≤ (9223372036854775807 : Int)) ∧ True ∧ ((0 : Int) ≤ x.1 + (1 : Int) ∧ x.1 + (1 : Int) ≤ (↑l.length : Int) ∧ List.take (x.1 + (1 : Int)).toNat l = List.take (x.1 + (1 : Int)).toNat m) ∧ ((↑l.length : Int) - (x.1 + (1 : Int))).toNat < ((↑l.length : Int) - x.1).toNat)) ∧ (decide (x.1 < (↑l.length : Int)) = false → (true, ()) = (decide (l = m), ())))
theorem g_eint_eq (l m : List (Int)) : Cond (env_eint l m) Tryz.f54 [.list .tmp I l, .list .tmp I m] [.bool] (decide (l = m), ()) = g_eint_vc l m := by kernel_rfl
theorem g_eint_ok (l m : List (Int)) (h : l.length ≤ 1000000000) : g_eint_vc l m := by
  unfold g_eint_vc
  simp only [decide_eq_true_eq, decide_eq_false_iff_not, Bool.not_eq_true', Bool.not_eq_false', Bool.and_true, Bool.and_eq_true, Bool.and_eq_false_iff]
  refine ⟨fun k => ?_, fun k => ⟨⟨trivial, by omega, by omega, rfl⟩, ?_⟩⟩
  · rw [decide_eq_false (fun e => k (by rw [e]))]
  rintro ⟨i, ⟨⟩⟩ ⟨i0, i1, ht⟩
  dsimp only at i0 i1 ht ⊢
  refine ⟨fun c => ⟨⟨i0, c⟩, fun x hx => ⟨⟨i0, by omega⟩, fun y hy => ⟨fun d => ?_, fun d => ⟨by omega, trivial, ⟨by omega, by omega, ?_⟩, by omega⟩⟩⟩⟩, fun c => ?_⟩
  · rw [decide_eq_false]
    intro e
    subst e
    rw [hx] at hy
    cases hy
    exact d rfl
  · rw [show (i + 1).toNat = i.toNat + 1 by omega]
    exact Rts.take_eq ht hx hy d
  · rw [List.take_of_length_le (by omega), List.take_of_length_le (by omega)] at ht
    rw [decide_eq_true ht]
set_option maxRecDepth 20000
theorem eint_pure (l m : List (Int)) (h : l.length ≤ 1000000000) : Pure Tryz.prog 54 [.list .tmp I l, .list .tmp I m] (.bool (decide (l = m))) :=
  by have k := Pure.of_cond (g_eint_eq l m) (g_eint_ok l m h) (specs_ok rfl [] [] rfl rfl) mixed Tryz.func54; exact k
noncomputable def q_eint (l m : List (Int)) : Prop × V := (l.length ≤ 1000000000, (.bool (decide (l = m))))
noncomputable def sp_eint : FSpec Tryz.prog where
 f := 54
 run := fun
  | [v0, v1] => (asL I v0 : Option (List (Int))).bind fun l => (asL I v1 : Option (List (Int))).bind fun m => some (q_eint l m)
  | _ => none
 ok := fun args pre r h hp => by
  split at h
  · rename_i v0 v1
    obtain ⟨l, h0, h⟩ := Option.bind_eq_some_iff.1 h
    obtain ⟨m, h1, h⟩ := Option.bind_eq_some_iff.1 h
    exact of_q h hp fun h => (eint_pure l m h).weak (.cons (asL_weak h0) (.cons (asL_weak h1) .nil))
  · cases h
noncomputable def env_elin (l m : List (Int × Int × Int × Int)) : Env where
  P := Tryz.prog
  ty := tys0
  heads := fun | 4 => some { slots := [(13, .int .i64)], boxes := [], inv := fun _ (x : Int × Unit) => 0 ≤ x.1 ∧ x.1 ≤ l.length ∧ l.take x.1.toNat = m.take x.1.toNat, measure := fun _ (x : Int × Unit) => (l.length - x.1).toNat } | _ => none
def g_elin_vc (l : List (Int × Int × Int × Int)) (m : List (Int × Int × Int × Int)) : Prop :=
  ((!decide ((↑l.length : Int) = (↑m.length : Int))) = true → (false, ()) = (decide (l = m), ())) ∧ ((!decide ((↑l.length : Int) = (↑m.length : Int))) = false → (True ∧ (0 : Int) ≤ (0 : Int) ∧ (0 : Int) ≤ (↑l.length : Int) ∧ List.take (Int.toNat (0 : Int)) l = List.take (Int.toNat (0 : Int)) m) ∧ ∀ (x : Int × Unit), (0 : Int) ≤ x.1 ∧ x.1 ≤ (↑l.length : Int) ∧ List.take x.1.toNat l = List.take x.1.toNat m → (decide (x.1 < (↑l.length : Int)) = true → ((0 : Int) ≤ x.1 ∧ x.1 < (↑l.length : Int)) ∧ ∀ (x_1 : Int × Int × Int × Int), l[x.1.toNat]? = some x_1 → ((0 : Int) ≤ x.1 ∧ x.1 < (↑m.length : Int)) ∧ ∀ (x_2 : Int × Int × Int × Int), m[x.1.toNat]? = some x_2 → ((!(decide (x_1.1 = x_2.1) && (decide (x_1.2.1 = x_2.2.1) && (decide (x_1.2.2.1 = x_2.2.2.1) && (decide (x_1.2.2.2 = x_2.2.2.2) && true))))) = true → (false, ()) = (decide (l = m), ())) ∧ ((!(decide (x_1.1 = x_2.1) && (decide (x_1.2.1 = x_2.2.1) && (decide (x_1.2.2.1 = x_2.2.2.1) && (decide (x_1.2.2.2 = x_2.2.2.2) && true))))) = false → ((-9223372036854775808 : Int) ≤ x.1 + (1 : Int) ∧ x.1 + (1 : Int) ≤ (9223372036854775807 : Int)) ∧ True ∧ ((0 : Int) ≤ x.1 + (1 : Int) ∧ x.1 + (1 : Int) ≤ (↑l.length : Int) ∧ List.take (x.1 + (1 : Int)).toNat l = List.take (x.1 + (1 : Int)).toNat m) ∧ ((↑l.length : Int) - (x.1 + (1 : Int))).toNat < ((↑l.length : Int) - x.1).toNat)) ∧ (decide (x.1 < (↑l.length : Int)) = false → (true, ()) = (decide (l = m), ())))
theorem g_elin_eq (l m : List (Int × Int × Int × Int)) : Cond (env_elin l m) Tryz.f53 [.list .tmp LnT l, .list .tmp LnT m] [.bool] (decide (l = m), ()) = g_elin_vc l m := by kernel_rfl
theorem g_elin_ok (l m : List (Int × Int × Int × Int)) (h : l.length ≤ 1000000000) : g_elin_vc l m := by
  unfold g_elin_vc
  simp only [decide_eq_true_eq, decide_eq_false_iff_not, Bool.not_eq_true', Bool.not_eq_false', Bool.and_true, Bool.and_eq_true, Bool.and_eq_false_iff]
  refine ⟨fun k => ?_, fun k => ⟨⟨trivial, by omega, by omega, rfl⟩, ?_⟩⟩
  · rw [decide_eq_false (fun e => k (by rw [e]))]
  rintro ⟨i, ⟨⟩⟩ ⟨i0, i1, ht⟩
  dsimp only at i0 i1 ht ⊢
  refine ⟨fun c => ⟨⟨i0, c⟩, fun x hx => ⟨⟨i0, by omega⟩, fun y hy => ⟨fun d => ?_, fun d => ⟨by omega, trivial, ⟨by omega, by omega, ?_⟩, by omega⟩⟩⟩⟩, fun c => ?_⟩
  · rw [decide_eq_false]
    intro e
    subst e
    rw [hx] at hy
    cases hy
    simp at d
  · rw [show (i + 1).toNat = i.toNat + 1 by omega]
    refine Rts.take_eq ht hx hy ?_
    obtain ⟨x1, x2, x3, x4⟩ := x
    obtain ⟨y1, y2, y3, y4⟩ := y
    simp at d
    simp [d]
  · rw [List.take_of_length_le (by omega), List.take_of_length_le (by omega)] at ht
    rw [decide_eq_true ht]
theorem elin_pure (l m : List (Int × Int × Int × Int)) (h : l.length ≤ 1000000000) : Pure Tryz.prog 53 [.list .tmp LnT l, .list .tmp LnT m] (.bool (decide (l = m))) :=
  by have k := Pure.of_cond (g_elin_eq l m) (g_elin_ok l m h) (specs_ok rfl [] [] rfl rfl) mixed Tryz.func53; exact k
noncomputable def q_elin (l m : List (Int × Int × Int × Int)) : Prop × V := (l.length ≤ 1000000000, (.bool (decide (l = m))))
noncomputable def sp_elin : FSpec Tryz.prog where
 f := 53
 run := fun
  | [v0, v1] => (asL LnT v0 : Option (List (Int × Int × Int × Int))).bind fun l => (asL LnT v1 : Option (List (Int × Int × Int × Int))).bind fun m => some (q_elin l m)
  | _ => none
 ok := fun args pre r h hp => by
  split at h
  · rename_i v0 v1
    obtain ⟨l, h0, h⟩ := Option.bind_eq_some_iff.1 h
    obtain ⟨m, h1, h⟩ := Option.bind_eq_some_iff.1 h
    exact of_q h hp fun h => (elin_pure l m h).weak (.cons (asL_weak h0) (.cons (asL_weak h1) .nil))
  · cases h
noncomputable def env_eacc (l m : List (Int × Int × Bool × Bool)) : Env where
  P := Tryz.prog
  ty := tys0
  heads := fun | 4 => some { slots := [(13, .int .i64)], boxes := [], inv := fun _ (x : Int × Unit) => 0 ≤ x.1 ∧ x.1 ≤ l.length ∧ l.take x.1.toNat = m.take x.1.toNat, measure := fun _ (x : Int × Unit) => (l.length - x.1).toNat } | _ => none
def g_eacc_vc (l : List (Int × Int × Bool × Bool)) (m : List (Int × Int × Bool × Bool)) : Prop :=
  ((!decide ((↑l.length : Int) = (↑m.length : Int))) = true → (false, ()) = (decide (l = m), ())) ∧ ((!decide ((↑l.length : Int) = (↑m.length : Int))) = false → (True ∧ (0 : Int) ≤ (0 : Int) ∧ (0 : Int) ≤ (↑l.length : Int) ∧ List.take (Int.toNat (0 : Int)) l = List.take (Int.toNat (0 : Int)) m) ∧ ∀ (x : Int × Unit), (0 : Int) ≤ x.1 ∧ x.1 ≤ (↑l.length : Int) ∧ List.take x.1.toNat l = List.take x.1.toNat m → (decide (x.1 < (↑l.length : Int)) = true → ((0 : Int) ≤ x.1 ∧ x.1 < (↑l.length : Int)) ∧ ∀ (x_1 : Int × Int × Bool × Bool), l[x.1.toNat]? = some x_1 → ((0 : Int) ≤ x.1 ∧ x.1 < (↑m.length : Int)) ∧ ∀ (x_2 : Int × Int × Bool × Bool), m[x.1.toNat]? = some x_2 → ((!(decide (x_1.1 = x_2.1) && (decide (x_1.2.1 = x_2.2.1) && (x_1.2.2.1 == x_2.2.2.1 && (x_1.2.2.2 == x_2.2.2.2 && true))))) = true → (false, ()) = (decide (l = m), ())) ∧ ((!(decide (x_1.1 = x_2.1) && (decide (x_1.2.1 = x_2.2.1) && (x_1.2.2.1 == x_2.2.2.1 && (x_1.2.2.2 == x_2.2.2.2 && true))))) = false → ((-9223372036854775808 : Int) ≤ x.1 + (1 : Int) ∧ x.1 + (1 : Int) ≤ (9223372036854775807 : Int)) ∧ True ∧ ((0 : Int) ≤ x.1 + (1 : Int) ∧ x.1 + (1 : Int) ≤ (↑l.length : Int) ∧ List.take (x.1 + (1 : Int)).toNat l = List.take (x.1 + (1 : Int)).toNat m) ∧ ((↑l.length : Int) - (x.1 + (1 : Int))).toNat < ((↑l.length : Int) - x.1).toNat)) ∧ (decide (x.1 < (↑l.length : Int)) = false → (true, ()) = (decide (l = m), ())))
theorem g_eacc_eq (l m : List (Int × Int × Bool × Bool)) : Cond (env_eacc l m) Tryz.f55 [.list .tmp AcT l, .list .tmp AcT m] [.bool] (decide (l = m), ()) = g_eacc_vc l m := by kernel_rfl
theorem g_eacc_ok (l m : List (Int × Int × Bool × Bool)) (h : l.length ≤ 1000000000) : g_eacc_vc l m := by
  unfold g_eacc_vc
  simp only [decide_eq_true_eq, decide_eq_false_iff_not, Bool.not_eq_true', Bool.not_eq_false', Bool.and_true, Bool.and_eq_true, Bool.and_eq_false_iff]
  refine ⟨fun k => ?_, fun k => ⟨⟨trivial, by omega, by omega, rfl⟩, ?_⟩⟩
  · rw [decide_eq_false (fun e => k (by rw [e]))]
  rintro ⟨i, ⟨⟩⟩ ⟨i0, i1, ht⟩
  dsimp only at i0 i1 ht ⊢
  refine ⟨fun c => ⟨⟨i0, c⟩, fun x hx => ⟨⟨i0, by omega⟩, fun y hy => ⟨fun d => ?_, fun d => ⟨by omega, trivial, ⟨by omega, by omega, ?_⟩, by omega⟩⟩⟩⟩, fun c => ?_⟩
  · rw [decide_eq_false]
    intro e
    subst e
    rw [hx] at hy
    cases hy
    simp at d
  · rw [show (i + 1).toNat = i.toNat + 1 by omega]
    refine Rts.take_eq ht hx hy ?_
    obtain ⟨x1, x2, x3, x4⟩ := x
    obtain ⟨y1, y2, y3, y4⟩ := y
    simp at d
    simp [d]
  · rw [List.take_of_length_le (by omega), List.take_of_length_le (by omega)] at ht
    rw [decide_eq_true ht]
theorem eacc_pure (l m : List (Int × Int × Bool × Bool)) (h : l.length ≤ 1000000000) : Pure Tryz.prog 55 [.list .tmp AcT l, .list .tmp AcT m] (.bool (decide (l = m))) :=
  by have k := Pure.of_cond (g_eacc_eq l m) (g_eacc_ok l m h) (specs_ok rfl [] [] rfl rfl) mixed Tryz.func55; exact k
noncomputable def q_eacc (l m : List (Int × Int × Bool × Bool)) : Prop × V := (l.length ≤ 1000000000, (.bool (decide (l = m))))
noncomputable def sp_eacc : FSpec Tryz.prog where
 f := 55
 run := fun
  | [v0, v1] => (asL AcT v0 : Option (List (Int × Int × Bool × Bool))).bind fun l => (asL AcT v1 : Option (List (Int × Int × Bool × Bool))).bind fun m => some (q_eacc l m)
  | _ => none
 ok := fun args pre r h hp => by
  split at h
  · rename_i v0 v1
    obtain ⟨l, h0, h⟩ := Option.bind_eq_some_iff.1 h
    obtain ⟨m, h1, h⟩ := Option.bind_eq_some_iff.1 h
    exact of_q h hp fun h => (eacc_pure l m h).weak (.cons (asL_weak h0) (.cons (asL_weak h1) .nil))
  · cases h
noncomputable def env_estk (l m : List (Int × Int × Int × Int)) : Env where
  P := Tryz.prog
  ty := tys0
  heads := fun | 4 => some { slots := [(13, .int .i64)], boxes := [], inv := fun _ (x : Int × Unit) => 0 ≤ x.1 ∧ x.1 ≤ l.length ∧ l.take x.1.toNat = m.take x.1.toNat, measure := fun _ (x : Int × Unit) => (l.length - x.1).toNat } | _ => none
def g_estk_vc (l : List (Int × Int × Int × Int)) (m : List (Int × Int × Int × Int)) : Prop :=
  ((!decide ((↑l.length : Int) = (↑m.length : Int))) = true → (false, ()) = (decide (l = m), ())) ∧ ((!decide ((↑l.length : Int) = (↑m.length : Int))) = false → (True ∧ (0 : Int) ≤ (0 : Int) ∧ (0 : Int) ≤ (↑l.length : Int) ∧ List.take (Int.toNat (0 : Int)) l = List.take (Int.toNat (0 : Int)) m) ∧ ∀ (x : Int × Unit), (0 : Int) ≤ x.1 ∧ x.1 ≤ (↑l.length : Int) ∧ List.take x.1.toNat l = List.take x.1.toNat m → (decide (x.1 < (↑l.length : Int)) = true → ((0 : Int) ≤ x.1 ∧ x.1 < (↑l.length : Int)) ∧ ∀ (x_1 : Int × Int × Int × Int), l[x.1.toNat]? = some x_1 → ((0 : Int) ≤ x.1 ∧ x.1 < (↑m.length : Int)) ∧ ∀ (x_2 : Int × Int × Int × Int), m[x.1.toNat]? = some x_2 → ((!(decide (x_1.1 = x_2.1) && (decide (x_1.2.1 = x_2.2.1) && (decide (x_1.2.2.1 = x_2.2.2.1) && (decide (x_1.2.2.2 = x_2.2.2.2) && true))))) = true → (false, ()) = (decide (l = m), ())) ∧ ((!(decide (x_1.1 = x_2.1) && (decide (x_1.2.1 = x_2.2.1) && (decide (x_1.2.2.1 = x_2.2.2.1) && (decide (x_1.2.2.2 = x_2.2.2.2) && true))))) = false → ((-9223372036854775808 : Int) ≤ x.1 + (1 : Int) ∧ x.1 + (1 : Int) ≤ (9223372036854775807 : Int)) ∧ True ∧ ((0 : Int) ≤ x.1 + (1 : Int) ∧ x.1 + (1 : Int) ≤ (↑l.length : Int) ∧ List.take (x.1 + (1 : Int)).toNat l = List.take (x.1 + (1 : Int)).toNat m) ∧ ((↑l.length : Int) - (x.1 + (1 : Int))).toNat < ((↑l.length : Int) - x.1).toNat)) ∧ (decide (x.1 < (↑l.length : Int)) = false → (true, ()) = (decide (l = m), ())))
theorem g_estk_eq (l m : List (Int × Int × Int × Int)) : Cond (env_estk l m) Tryz.f56 [.list .tmp LnT l, .list .tmp LnT m] [.bool] (decide (l = m), ()) = g_estk_vc l m := by kernel_rfl
theorem g_estk_ok (l m : List (Int × Int × Int × Int)) (h : l.length ≤ 1000000000) : g_estk_vc l m := by
  unfold g_estk_vc
  simp only [decide_eq_true_eq, decide_eq_false_iff_not, Bool.not_eq_true', Bool.not_eq_false', Bool.and_true, Bool.and_eq_true, Bool.and_eq_false_iff]
  refine ⟨fun k => ?_, fun k => ⟨⟨trivial, by omega, by omega, rfl⟩, ?_⟩⟩
  · rw [decide_eq_false (fun e => k (by rw [e]))]
  rintro ⟨i, ⟨⟩⟩ ⟨i0, i1, ht⟩
  dsimp only at i0 i1 ht ⊢
  refine ⟨fun c => ⟨⟨i0, c⟩, fun x hx => ⟨⟨i0, by omega⟩, fun y hy => ⟨fun d => ?_, fun d => ⟨by omega, trivial, ⟨by omega, by omega, ?_⟩, by omega⟩⟩⟩⟩, fun c => ?_⟩
  · rw [decide_eq_false]
    intro e
    subst e
    rw [hx] at hy
    cases hy
    simp at d
  · rw [show (i + 1).toNat = i.toNat + 1 by omega]
    refine Rts.take_eq ht hx hy ?_
    obtain ⟨x1, x2, x3, x4⟩ := x
    obtain ⟨y1, y2, y3, y4⟩ := y
    simp at d
    simp [d]
  · rw [List.take_of_length_le (by omega), List.take_of_length_le (by omega)] at ht
    rw [decide_eq_true ht]
theorem estk_pure (l m : List (Int × Int × Int × Int)) (h : l.length ≤ 1000000000) : Pure Tryz.prog 56 [.list .tmp LnT l, .list .tmp LnT m] (.bool (decide (l = m))) :=
  by have k := Pure.of_cond (g_estk_eq l m) (g_estk_ok l m h) (specs_ok rfl [] [] rfl rfl) mixed Tryz.func56; exact k
noncomputable def q_estk (l m : List (Int × Int × Int × Int)) : Prop × V := (l.length ≤ 1000000000, (.bool (decide (l = m))))
noncomputable def sp_estk : FSpec Tryz.prog where
 f := 56
 run := fun
  | [v0, v1] => (asL LnT v0 : Option (List (Int × Int × Int × Int))).bind fun l => (asL LnT v1 : Option (List (Int × Int × Int × Int))).bind fun m => some (q_estk l m)
  | _ => none
 ok := fun args pre r h hp => by
  split at h
  · rename_i v0 v1
    obtain ⟨l, h0, h⟩ := Option.bind_eq_some_iff.1 h
    obtain ⟨m, h1, h⟩ := Option.bind_eq_some_iff.1 h
    exact of_q h hp fun h => (estk_pure l m h).weak (.cons (asL_weak h0) (.cons (asL_weak h1) .nil))
  · cases h
noncomputable def env_erat (l m : List (Int × Int × Int × Int × Int × Int)) : Env where
  P := Tryz.prog
  ty := tys0
  heads := fun | 4 => some { slots := [(13, .int .i64)], boxes := [], inv := fun _ (x : Int × Unit) => 0 ≤ x.1 ∧ x.1 ≤ l.length ∧ l.take x.1.toNat = m.take x.1.toNat, measure := fun _ (x : Int × Unit) => (l.length - x.1).toNat } | _ => none
def g_erat_vc (l : List (Int × Int × Int × Int × Int × Int)) (m : List (Int × Int × Int × Int × Int × Int)) : Prop :=
  ((!decide ((↑l.length : Int) = (↑m.length : Int))) = true → (false, ()) = (decide (l = m), ())) ∧ ((!decide ((↑l.length : Int) = (↑m.length : Int))) = false → (True ∧ (0 : Int) ≤ (0 : Int) ∧ (0 : Int) ≤ (↑l.length : Int) ∧ List.take (Int.toNat (0 : Int)) l = List.take (Int.toNat (0 : Int)) m) ∧ ∀ (x : Int × Unit), (0 : Int) ≤ x.1 ∧ x.1 ≤ (↑l.length : Int) ∧ List.take x.1.toNat l = List.take x.1.toNat m → (decide (x.1 < (↑l.length : Int)) = true → ((0 : Int) ≤ x.1 ∧ x.1 < (↑l.length : Int)) ∧ ∀ (x_1 : Int × Int × Int × Int × Int × Int), l[x.1.toNat]? = some x_1 → ((0 : Int) ≤ x.1 ∧ x.1 < (↑m.length : Int)) ∧ ∀ (x_2 : Int × Int × Int × Int × Int × Int), m[x.1.toNat]? = some x_2 → ((!(decide (x_1.1 = x_2.1) && (decide (x_1.2.1 = x_2.2.1) && (decide (x_1.2.2.1 = x_2.2.2.1) && (decide (x_1.2.2.2.1 = x_2.2.2.2.1) && (decide (x_1.2.2.2.2.1 = x_2.2.2.2.2.1) && (decide (x_1.2.2.2.2.2 = x_2.2.2.2.2.2) && true) && true)))))) = true → (false, ()) = (decide (l = m), ())) ∧ ((!(decide (x_1.1 = x_2.1) && (decide (x_1.2.1 = x_2.2.1) && (decide (x_1.2.2.1 = x_2.2.2.1) && (decide (x_1.2.2.2.1 = x_2.2.2.2.1) && (decide (x_1.2.2.2.2.1 = x_2.2.2.2.2.1) && (decide (x_1.2.2.2.2.2 = x_2.2.2.2.2.2) && true) && true)))))) = false → ((-9223372036854775808 : Int) ≤ x.1 + (1 : Int) ∧ x.1 + (1 : Int) ≤ (9223372036854775807 : Int)) ∧ True ∧ ((0 : Int) ≤ x.1 + (1 : Int) ∧ x.1 + (1 : Int) ≤ (↑l.length : Int) ∧ List.take (x.1 + (1 : Int)).toNat l = List.take (x.1 + (1 : Int)).toNat m) ∧ ((↑l.length : Int) - (x.1 + (1 : Int))).toNat < ((↑l.length : Int) - x.1).toNat)) ∧ (decide (x.1 < (↑l.length : Int)) = false → (true, ()) = (decide (l = m), ())))
theorem g_erat_eq (l m : List (Int × Int × Int × Int × Int × Int)) : Cond (env_erat l m) Tryz.f57 [.list .tmp RTy l, .list .tmp RTy m] [.bool] (decide (l = m), ()) = g_erat_vc l m := by kernel_rfl
theorem g_erat_ok (l m : List (Int × Int × Int × Int × Int × Int)) (h : l.length ≤ 1000000000) : g_erat_vc l m := by
  unfold g_erat_vc
  simp only [decide_eq_true_eq, decide_eq_false_iff_not, Bool.not_eq_true', Bool.not_eq_false', Bool.and_true, Bool.and_eq_true, Bool.and_eq_false_iff]
  refine ⟨fun k => ?_, fun k => ⟨⟨trivial, by omega, by omega, rfl⟩, ?_⟩⟩
  · rw [decide_eq_false (fun e => k (by rw [e]))]
  rintro ⟨i, ⟨⟩⟩ ⟨i0, i1, ht⟩
  dsimp only at i0 i1 ht ⊢
  refine ⟨fun c => ⟨⟨i0, c⟩, fun x hx => ⟨⟨i0, by omega⟩, fun y hy => ⟨fun d => ?_, fun d => ⟨by omega, trivial, ⟨by omega, by omega, ?_⟩, by omega⟩⟩⟩⟩, fun c => ?_⟩
  · rw [decide_eq_false]
    intro e
    subst e
    rw [hx] at hy
    cases hy
    simp at d
  · rw [show (i + 1).toNat = i.toNat + 1 by omega]
    refine Rts.take_eq ht hx hy ?_
    obtain ⟨x1, x2, x3, x4, x5, x6⟩ := x
    obtain ⟨y1, y2, y3, y4, y5, y6⟩ := y
    simp at d
    simp [d]
  · rw [List.take_of_length_le (by omega), List.take_of_length_le (by omega)] at ht
    rw [decide_eq_true ht]
theorem erat_pure (l m : List (Int × Int × Int × Int × Int × Int)) (h : l.length ≤ 1000000000) : Pure Tryz.prog 57 [.list .tmp RTy l, .list .tmp RTy m] (.bool (decide (l = m))) :=
  by have k := Pure.of_cond (g_erat_eq l m) (g_erat_ok l m h) (specs_ok rfl [] [] rfl rfl) mixed Tryz.func57; exact k
noncomputable def q_erat (l m : List (Int × Int × Int × Int × Int × Int)) : Prop × V := (l.length ≤ 1000000000, (.bool (decide (l = m))))
noncomputable def sp_erat : FSpec Tryz.prog where
 f := 57
 run := fun
  | [v0, v1] => (asL RTy v0 : Option (List (Int × Int × Int × Int × Int × Int))).bind fun l => (asL RTy v1 : Option (List (Int × Int × Int × Int × Int × Int))).bind fun m => some (q_erat l m)
  | _ => none
 ok := fun args pre r h hp => by
  split at h
  · rename_i v0 v1
    obtain ⟨l, h0, h⟩ := Option.bind_eq_some_iff.1 h
    obtain ⟨m, h1, h⟩ := Option.bind_eq_some_iff.1 h
    exact of_q h hp fun h => (erat_pure l m h).weak (.cons (asL_weak h0) (.cons (asL_weak h1) .nil))
  · cases h
noncomputable def env_elck (l m : List (Int × Int)) : Env where
  P := Tryz.prog
  ty := tys0
  heads := fun | 4 => some { slots := [(13, .int .i64)], boxes := [], inv := fun _ (x : Int × Unit) => 0 ≤ x.1 ∧ x.1 ≤ l.length ∧ l.take x.1.toNat = m.take x.1.toNat, measure := fun _ (x : Int × Unit) => (l.length - x.1).toNat } | _ => none
def g_elck_vc (l : List (Int × Int)) (m : List (Int × Int)) : Prop :=
  ((!decide ((↑l.length : Int) = (↑m.length : Int))) = true → (false, ()) = (decide (l = m), ())) ∧ ((!decide ((↑l.length : Int) = (↑m.length : Int))) = false → (True ∧ (0 : Int) ≤ (0 : Int) ∧ (0 : Int) ≤ (↑l.length : Int) ∧ List.take (Int.toNat (0 : Int)) l = List.take (Int.toNat (0 : Int)) m) ∧ ∀ (x : Int × Unit), (0 : Int) ≤ x.1 ∧ x.1 ≤ (↑l.length : Int) ∧ List.take x.1.toNat l = List.take x.1.toNat m → (decide (x.1 < (↑l.length : Int)) = true → ((0 : Int) ≤ x.1 ∧ x.1 < (↑l.length : Int)) ∧ ∀ (x_1 : Int × Int), l[x.1.toNat]? = some x_1 → ((0 : Int) ≤ x.1 ∧ x.1 < (↑m.length : Int)) ∧ ∀ (x_2 : Int × Int), m[x.1.toNat]? = some x_2 → ((!(decide (x_1.1 = x_2.1) && (decide (x_1.2 = x_2.2) && true))) = true → (false, ()) = (decide (l = m), ())) ∧ ((!(decide (x_1.1 = x_2.1) && (decide (x_1.2 = x_2.2) && true))) = false → ((-9223372036854775808 : Int) ≤ x.1 + (1 : Int) ∧ x.1 + (1 : Int) ≤ (9223372036854775807 : Int)) ∧ True ∧ ((0 : Int) ≤ x.1 + (1 : Int) ∧ x.1 + (1 : Int) ≤ (↑l.length : Int) ∧ List.take (x.1 + (1 : Int)).toNat l = List.take (x.1 + (1 : Int)).toNat m) ∧ ((↑l.length : Int) - (x.1 + (1 : Int))).toNat < ((↑l.length : Int) - x.1).toNat)) ∧ (decide (x.1 < (↑l.length : Int)) = false → (true, ()) = (decide (l = m), ())))
theorem g_elck_eq (l m : List (Int × Int)) : Cond (env_elck l m) Tryz.f58 [.list .tmp Vl l, .list .tmp Vl m] [.bool] (decide (l = m), ()) = g_elck_vc l m := by kernel_rfl
theorem g_elck_ok (l m : List (Int × Int)) (h : l.length ≤ 1000000000) : g_elck_vc l m := by
  unfold g_elck_vc
  simp only [decide_eq_true_eq, decide_eq_false_iff_not, Bool.not_eq_true', Bool.not_eq_false', Bool.and_true, Bool.and_eq_true, Bool.and_eq_false_iff]
  refine ⟨fun k => ?_, fun k => ⟨⟨trivial, by omega, by omega, rfl⟩, ?_⟩⟩
  · rw [decide_eq_false (fun e => k (by rw [e]))]
  rintro ⟨i, ⟨⟩⟩ ⟨i0, i1, ht⟩
  dsimp only at i0 i1 ht ⊢
  refine ⟨fun c => ⟨⟨i0, c⟩, fun x hx => ⟨⟨i0, by omega⟩, fun y hy => ⟨fun d => ?_, fun d => ⟨by omega, trivial, ⟨by omega, by omega, ?_⟩, by omega⟩⟩⟩⟩, fun c => ?_⟩
  · rw [decide_eq_false]
    intro e
    subst e
    rw [hx] at hy
    cases hy
    simp at d
  · rw [show (i + 1).toNat = i.toNat + 1 by omega]
    refine Rts.take_eq ht hx hy ?_
    obtain ⟨x1, x2⟩ := x
    obtain ⟨y1, y2⟩ := y
    simp at d
    simp [d]
  · rw [List.take_of_length_le (by omega), List.take_of_length_le (by omega)] at ht
    rw [decide_eq_true ht]
theorem elck_pure (l m : List (Int × Int)) (h : l.length ≤ 1000000000) : Pure Tryz.prog 58 [.list .tmp Vl l, .list .tmp Vl m] (.bool (decide (l = m))) :=
  by have k := Pure.of_cond (g_elck_eq l m) (g_elck_ok l m h) (specs_ok rfl [] [] rfl rfl) mixed Tryz.func58; exact k
noncomputable def q_elck (l m : List (Int × Int)) : Prop × V := (l.length ≤ 1000000000, (.bool (decide (l = m))))
noncomputable def sp_elck : FSpec Tryz.prog where
 f := 58
 run := fun
  | [v0, v1] => (asL Vl v0 : Option (List (Int × Int))).bind fun l => (asL Vl v1 : Option (List (Int × Int))).bind fun m => some (q_elck l m)
  | _ => none
 ok := fun args pre r h hp => by
  split at h
  · rename_i v0 v1
    obtain ⟨l, h0, h⟩ := Option.bind_eq_some_iff.1 h
    obtain ⟨m, h1, h⟩ := Option.bind_eq_some_iff.1 h
    exact of_q h hp fun h => (elck_pure l m h).weak (.cons (asL_weak h0) (.cons (asL_weak h1) .nil))
  · cases h
noncomputable def env_racc (l m : List (Int × Int × Bool × Bool)) : Env where
  P := Tryz.prog
  ty := tys0
  heads := fun | 4 => some { slots := [(5, .int .i64)], boxes := [], inv := fun _ (x : Int × Unit) => 0 ≤ x.1 ∧ x.1 ≤ l.length ∧ l.take x.1.toNat = m.take x.1.toNat, measure := fun _ (x : Int × Unit) => (l.length - x.1).toNat } | _ => none
def g_racc_vc (l : List (Int × Int × Bool × Bool)) (m : List (Int × Int × Bool × Bool)) : Prop :=
  ((!decide ((↑l.length : Int) = (↑m.length : Int))) = true → (false, ()) = (decide (l = m), ())) ∧ ((!decide ((↑l.length : Int) = (↑m.length : Int))) = false → (True ∧ (0 : Int) ≤ (0 : Int) ∧ (0 : Int) ≤ (↑l.length : Int) ∧ List.take (Int.toNat (0 : Int)) l = List.take (Int.toNat (0 : Int)) m) ∧ ∀ (x : Int × Unit), (0 : Int) ≤ x.1 ∧ x.1 ≤ (↑l.length : Int) ∧ List.take x.1.toNat l = List.take x.1.toNat m → (decide (x.1 < (↑l.length : Int)) = true → ((0 : Int) ≤ x.1 ∧ x.1 < (↑l.length : Int)) ∧ ∀ (x_1 : Int × Int × Bool × Bool), l[x.1.toNat]? = some x_1 → ((0 : Int) ≤ x.1 ∧ x.1 < (↑m.length : Int)) ∧ ∀ (x_2 : Int × Int × Bool × Bool), m[x.1.toNat]? = some x_2 → ((!(decide (x_1.1 = x_2.1) && (decide (x_1.2.1 = x_2.2.1) && (x_1.2.2.1 == x_2.2.2.1 && (x_1.2.2.2 == x_2.2.2.2 && true))))) = true → (false, ()) = (decide (l = m), ())) ∧ ((!(decide (x_1.1 = x_2.1) && (decide (x_1.2.1 = x_2.2.1) && (x_1.2.2.1 == x_2.2.2.1 && (x_1.2.2.2 == x_2.2.2.2 && true))))) = false → ((-9223372036854775808 : Int) ≤ x.1 + (1 : Int) ∧ x.1 + (1 : Int) ≤ (9223372036854775807 : Int)) ∧ True ∧ ((0 : Int) ≤ x.1 + (1 : Int) ∧ x.1 + (1 : Int) ≤ (↑l.length : Int) ∧ List.take (x.1 + (1 : Int)).toNat l = List.take (x.1 + (1 : Int)).toNat m) ∧ ((↑l.length : Int) - (x.1 + (1 : Int))).toNat < ((↑l.length : Int) - x.1).toNat)) ∧ (decide (x.1 < (↑l.length : Int)) = false → (true, ()) = (decide (l = m), ())))
theorem g_racc_eq (l m : List (Int × Int × Bool × Bool)) : Cond (env_racc l m) Tryz.f45 [.list .tmp AcT l, .list .tmp AcT m] [.bool] (decide (l = m), ()) = g_racc_vc l m := by kernel_rfl
theorem g_racc_ok (l m : List (Int × Int × Bool × Bool)) (h : l.length ≤ 1000000000) : g_racc_vc l m := by
  unfold g_racc_vc
  simp only [decide_eq_true_eq, decide_eq_false_iff_not, Bool.not_eq_true', Bool.not_eq_false', Bool.and_true, Bool.and_eq_true, Bool.and_eq_false_iff]
  refine ⟨fun k => ?_, fun k => ⟨⟨trivial, by omega, by omega, rfl⟩, ?_⟩⟩
  · rw [decide_eq_false (fun e => k (by rw [e]))]
  rintro ⟨i, ⟨⟩⟩ ⟨i0, i1, ht⟩
  dsimp only at i0 i1 ht ⊢
  refine ⟨fun c => ⟨⟨i0, c⟩, fun x hx => ⟨⟨i0, by omega⟩, fun y hy => ⟨fun d => ?_, fun d => ⟨by omega, trivial, ⟨by omega, by omega, ?_⟩, by omega⟩⟩⟩⟩, fun c => ?_⟩
  · rw [decide_eq_false]
    intro e
    subst e
    rw [hx] at hy
    cases hy
    simp at d
  · rw [show (i + 1).toNat = i.toNat + 1 by omega]
    refine Rts.take_eq ht hx hy ?_
    obtain ⟨x1, x2, x3, x4⟩ := x
    obtain ⟨y1, y2, y3, y4⟩ := y
    simp at d
    simp [d]
  · rw [List.take_of_length_le (by omega), List.take_of_length_le (by omega)] at ht
    rw [decide_eq_true ht]
theorem racc_pure (l m : List (Int × Int × Bool × Bool)) (h : l.length ≤ 1000000000) : Pure Tryz.prog 45 [.list .tmp AcT l, .list .tmp AcT m] (.bool (decide (l = m))) :=
  by have k := Pure.of_cond (g_racc_eq l m) (g_racc_ok l m h) (specs_ok rfl [] [] rfl rfl) mixed Tryz.func45; exact k
noncomputable def q_racc (l m : List (Int × Int × Bool × Bool)) : Prop × V := (l.length ≤ 1000000000, (.bool (decide (l = m))))
noncomputable def sp_racc : FSpec Tryz.prog where
 f := 45
 run := fun
  | [v0, v1] => (asL AcT v0 : Option (List (Int × Int × Bool × Bool))).bind fun l => (asL AcT v1 : Option (List (Int × Int × Bool × Bool))).bind fun m => some (q_racc l m)
  | _ => none
 ok := fun args pre r h hp => by
  split at h
  · rename_i v0 v1
    obtain ⟨l, h0, h⟩ := Option.bind_eq_some_iff.1 h
    obtain ⟨m, h1, h⟩ := Option.bind_eq_some_iff.1 h
    exact of_q h hp fun h => (racc_pure l m h).weak (.cons (asL_weak h0) (.cons (asL_weak h1) .nil))
  · cases h
noncomputable def env_rlck (l m : List (Int × Int)) : Env where
  P := Tryz.prog
  ty := tys0
  heads := fun | 4 => some { slots := [(5, .int .i64)], boxes := [], inv := fun _ (x : Int × Unit) => 0 ≤ x.1 ∧ x.1 ≤ l.length ∧ l.take x.1.toNat = m.take x.1.toNat, measure := fun _ (x : Int × Unit) => (l.length - x.1).toNat } | _ => none
def g_rlck_vc (l : List (Int × Int)) (m : List (Int × Int)) : Prop :=
  ((!decide ((↑l.length : Int) = (↑m.length : Int))) = true → (false, ()) = (decide (l = m), ())) ∧ ((!decide ((↑l.length : Int) = (↑m.length : Int))) = false → (True ∧ (0 : Int) ≤ (0 : Int) ∧ (0 : Int) ≤ (↑l.length : Int) ∧ List.take (Int.toNat (0 : Int)) l = List.take (Int.toNat (0 : Int)) m) ∧ ∀ (x : Int × Unit), (0 : Int) ≤ x.1 ∧ x.1 ≤ (↑l.length : Int) ∧ List.take x.1.toNat l = List.take x.1.toNat m → (decide (x.1 < (↑l.length : Int)) = true → ((0 : Int) ≤ x.1 ∧ x.1 < (↑l.length : Int)) ∧ ∀ (x_1 : Int × Int), l[x.1.toNat]? = some x_1 → ((0 : Int) ≤ x.1 ∧ x.1 < (↑m.length : Int)) ∧ ∀ (x_2 : Int × Int), m[x.1.toNat]? = some x_2 → ((!(decide (x_1.1 = x_2.1) && (decide (x_1.2 = x_2.2) && true))) = true → (false, ()) = (decide (l = m), ())) ∧ ((!(decide (x_1.1 = x_2.1) && (decide (x_1.2 = x_2.2) && true))) = false → ((-9223372036854775808 : Int) ≤ x.1 + (1 : Int) ∧ x.1 + (1 : Int) ≤ (9223372036854775807 : Int)) ∧ True ∧ ((0 : Int) ≤ x.1 + (1 : Int) ∧ x.1 + (1 : Int) ≤ (↑l.length : Int) ∧ List.take (x.1 + (1 : Int)).toNat l = List.take (x.1 + (1 : Int)).toNat m) ∧ ((↑l.length : Int) - (x.1 + (1 : Int))).toNat < ((↑l.length : Int) - x.1).toNat)) ∧ (decide (x.1 < (↑l.length : Int)) = false → (true, ()) = (decide (l = m), ())))
theorem g_rlck_eq (l m : List (Int × Int)) : Cond (env_rlck l m) Tryz.f48 [.list .tmp Vl l, .list .tmp Vl m] [.bool] (decide (l = m), ()) = g_rlck_vc l m := by kernel_rfl
theorem g_rlck_ok (l m : List (Int × Int)) (h : l.length ≤ 1000000000) : g_rlck_vc l m := by
  unfold g_rlck_vc
  simp only [decide_eq_true_eq, decide_eq_false_iff_not, Bool.not_eq_true', Bool.not_eq_false', Bool.and_true, Bool.and_eq_true, Bool.and_eq_false_iff]
  refine ⟨fun k => ?_, fun k => ⟨⟨trivial, by omega, by omega, rfl⟩, ?_⟩⟩
  · rw [decide_eq_false (fun e => k (by rw [e]))]
  rintro ⟨i, ⟨⟩⟩ ⟨i0, i1, ht⟩
  dsimp only at i0 i1 ht ⊢
  refine ⟨fun c => ⟨⟨i0, c⟩, fun x hx => ⟨⟨i0, by omega⟩, fun y hy => ⟨fun d => ?_, fun d => ⟨by omega, trivial, ⟨by omega, by omega, ?_⟩, by omega⟩⟩⟩⟩, fun c => ?_⟩
  · rw [decide_eq_false]
    intro e
    subst e
    rw [hx] at hy
    cases hy
    simp at d
  · rw [show (i + 1).toNat = i.toNat + 1 by omega]
    refine Rts.take_eq ht hx hy ?_
    obtain ⟨x1, x2⟩ := x
    obtain ⟨y1, y2⟩ := y
    simp at d
    simp [d]
  · rw [List.take_of_length_le (by omega), List.take_of_length_le (by omega)] at ht
    rw [decide_eq_true ht]
theorem rlck_pure (l m : List (Int × Int)) (h : l.length ≤ 1000000000) : Pure Tryz.prog 48 [.list .tmp Vl l, .list .tmp Vl m] (.bool (decide (l = m))) :=
  by have k := Pure.of_cond (g_rlck_eq l m) (g_rlck_ok l m h) (specs_ok rfl [] [] rfl rfl) mixed Tryz.func48; exact k
noncomputable def q_rlck (l m : List (Int × Int)) : Prop × V := (l.length ≤ 1000000000, (.bool (decide (l = m))))
noncomputable def sp_rlck : FSpec Tryz.prog where
 f := 48
 run := fun
  | [v0, v1] => (asL Vl v0 : Option (List (Int × Int))).bind fun l => (asL Vl v1 : Option (List (Int × Int))).bind fun m => some (q_rlck l m)
  | _ => none
 ok := fun args pre r h hp => by
  split at h
  · rename_i v0 v1
    obtain ⟨l, h0, h⟩ := Option.bind_eq_some_iff.1 h
    obtain ⟨m, h1, h⟩ := Option.bind_eq_some_iff.1 h
    exact of_q h hp fun h => (rlck_pure l m h).weak (.cons (asL_weak h0) (.cons (asL_weak h1) .nil))
  · cases h
end Go.Proofs.YtgjpehgnagfghaaGreat.Eql
