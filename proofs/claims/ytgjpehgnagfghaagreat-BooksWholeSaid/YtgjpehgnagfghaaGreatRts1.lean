/-
  rate, part of it: whether rates may be; whether they are the same.
-/
import Derived.Test.YtgjpehgnagfghaaGreatSeat
namespace Go.Proofs.YtgjpehgnagfghaaGreat.Rts
open Go.Vm
theorem weakL_len {cs cs' : List V} (h : WeakL cs cs') : cs.length = cs'.length := by
  induction h with
  | nil => rfl
  | cons _ _ ih => simp [ih]
theorem weakL_at {cs cs' : List V} (h : WeakL cs cs') : ∀ (j : Nat) c', cs'[j]? = some c' → ∃ c, cs[j]? = some c ∧ Weak c c' := by
  induction h with
  | nil => intro j c' h; simp at h
  | cons h1 _ ih =>
    intro j c' h
    cases j with
    | zero =>
      simp only [List.getElem?_cons_zero, Option.some.injEq] at h
      subst h
      exact ⟨_, rfl, h1⟩
    | succ j => exact ih j c' (by simpa using h)
theorem weak_fptr {cs cs' : List V} (h : WeakL cs cs') : Weak (.fptr cs) (.fptr cs') := fun X u hr => by
  obtain ⟨b, o, f, rfl, hT, hc, hrc⟩ := hr.fptr_inv
  refine .fptr f (fun h0 => hT (by rw [weakL_len h]; exact h0)) (fun j c' hj => ?_) (fun j c' hj => ?_)
  · obtain ⟨c, k1, _⟩ := weakL_at h j c' hj
    exact hc j c k1
  · obtain ⟨c, k1, k2⟩ := weakL_at h j c' hj
    exact k2 X _ (hrc j c k1)
abbrev Rt := Int × Int × Int × Int × Int × Int
def ratioF (a b : Int) : Int := if 1 ≤ a ∧ 1 ≤ b ∧ a ≤ 1000000000000 ∧ b ≤ 1000000000000 then 0 else 11
noncomputable def env_rcheck (a b : Int) : Env where
  P := Tryz.prog
  ty := tys0
def g_rcheck_vc (a : Int) (b : Int) : Prop :=
  (decide (mmI false a b < (1 : Int)) = false → (decide ((1000000000000 : Int) < mmI true a b) = true → ((11 : Int), ()) = (ratioF a b, ())) ∧ (decide ((1000000000000 : Int) < mmI true a b) = false → ((0 : Int), ()) = (ratioF a b, ()))) ∧ (decide (mmI false a b < (1 : Int)) = !false → ((11 : Int), ()) = (ratioF a b, ()))
theorem g_rcheck_eq (a b : Int) : Cond (env_rcheck a b) Tryz.f101 [.agg [.int .i64 a, .int .i64 b]] [.int .i64] (ratioF a b, ()) = g_rcheck_vc a b := by kernel_rfl
theorem g_rcheck_ok (a b : Int) : g_rcheck_vc a b := by
  unfold g_rcheck_vc ratioF mmI
  simp only [decide_eq_true_eq, decide_eq_false_iff_not, if_true, Bool.false_eq_true, if_false, Bool.not_false, Prod.mk.injEq, and_true]
  refine ⟨fun h1 => ⟨fun h2 => ?_, fun h2 => ?_⟩, fun h1 => ?_⟩ <;> split <;> omega
set_option maxRecDepth 20000
theorem rcheck_pure (a b : Int) : Pure Tryz.prog 101 [.agg [.int .i64 a, .int .i64 b]] (.int .i64 (ratioF a b)) :=
  by have k := Pure.of_cond (g_rcheck_eq a b) (g_rcheck_ok a b) (specs_ok rfl [] [] rfl rfl) mixed Tryz.func101; exact k
noncomputable def q_rcheck (a b : Int) : Prop × V := (True, (.int .i64 (ratioF a b)))
noncomputable def sp_rcheck : FSpec Tryz.prog where
 f := 101
 run := fun
  | [.agg [.int .i64 a, .int .i64 b]] => some (q_rcheck a b)
  | _ => none
 ok := fun args pre r h hp => by
  split at h
  · rename_i a b
    exact of_q h hp fun h => (rcheck_pure a b).weak (.cons (.refl _) .nil)
  · cases h
def moneyB (c : Int) : Bool := decide (1 ≤ c ∧ c ≤ 8)
noncomputable def env_money (c : Int) : Env where
  P := Tryz.prog
  ty := tys0
def g_money_vc (c : Int) : Prop :=
  (decide ((1 : Int) ≤ c) = true → (decide (c ≤ (8 : Int)), ()) = (moneyB c, ())) ∧ (decide ((1 : Int) ≤ c) = !true → (false, ()) = (moneyB c, ()))
theorem g_money_eq (c : Int) : Cond (env_money c) Tryz.f100 [.int .i64 c] [.bool] (moneyB c, ()) = g_money_vc c := by kernel_rfl
noncomputable def env_rmoney (c : Int) : Env where
  P := Tryz.prog
  ty := tys0
def g_rmoney_vc (c : Int) : Prop :=
  (decide ((1 : Int) ≤ c) = true → (decide (c ≤ (8 : Int)), ()) = (moneyB c, ())) ∧ (decide ((1 : Int) ≤ c) = !true → (false, ()) = (moneyB c, ()))
theorem g_rmoney_eq (c : Int) : Cond (env_rmoney c) Tryz.f86 [.int .i64 c] [.bool] (moneyB c, ()) = g_rmoney_vc c := by kernel_rfl
theorem g_money_ok (c : Int) : g_money_vc c := by
  unfold g_money_vc moneyB
  simp only [decide_eq_true_eq, decide_eq_false_iff_not, Bool.not_true, Prod.mk.injEq, and_true]
  refine ⟨fun h => decide_eq_decide.2 (by omega), fun h => ?_⟩
  rw [decide_eq_false (by omega)]
theorem money_pure (c : Int) : Pure Tryz.prog 100 [.int .i64 c] (.bool (moneyB c)) :=
  by have k := Pure.of_cond (g_money_eq c) (g_money_ok c) (specs_ok rfl [] [] rfl rfl) mixed Tryz.func100; exact k
noncomputable def q_money (c : Int) : Prop × V := (True, (.bool (moneyB c)))
noncomputable def sp_money : FSpec Tryz.prog where
 f := 100
 run := fun
  | [.int .i64 c] => some (q_money c)
  | _ => none
 ok := fun args pre r h hp => by
  split at h
  · rename_i c
    exact of_q h hp fun h => (money_pure c).weak (.cons (.refl _) .nil)
  · cases h
theorem g_rmoney_ok (c : Int) : g_rmoney_vc c := by
  unfold g_rmoney_vc moneyB
  simp only [decide_eq_true_eq, decide_eq_false_iff_not, Bool.not_true, Prod.mk.injEq, and_true]
  refine ⟨fun h => decide_eq_decide.2 (by omega), fun h => ?_⟩
  rw [decide_eq_false (by omega)]
theorem rmoney_pure (c : Int) : Pure Tryz.prog 86 [.int .i64 c] (.bool (moneyB c)) :=
  by have k := Pure.of_cond (g_rmoney_eq c) (g_rmoney_ok c) (specs_ok rfl [] [] rfl rfl) mixed Tryz.func86; exact k
noncomputable def q_rmoney (c : Int) : Prop × V := (True, (.bool (moneyB c)))
noncomputable def sp_rmoney : FSpec Tryz.prog where
 f := 86
 run := fun
  | [.int .i64 c] => some (q_rmoney c)
  | _ => none
 ok := fun args pre r h hp => by
  split at h
  · rename_i c
    exact of_q h hp fun h => (rmoney_pure c).weak (.cons (.refl _) .nil)
  · cases h
def mayR (x : Rt) : Int :=
  if ¬ (moneyB x.1 = true ∧ moneyB x.2.1 = true ∧ x.1 ≠ x.2.1) then 23 else if ¬ (1 ≤ x.2.2.1 ∧ x.2.2.1 ≤ 3) then 25 else if ¬ (0 ≤ x.2.2.2.1 ∧ x.2.2.2.1 ≤ 23) then 22 else ratioF x.2.2.2.2.1 x.2.2.2.2.2
noncomputable def env_may (a b c p n d : Int) : Env where
  P := Tryz.prog
  ty := tys0
  specs := specsOf [sp_money, sp_rcheck]
def g_may_vc (a : Int) (b : Int) (c : Int) (p : Int) (n : Int) (d : Int) : Prop :=
  True ∧ ((!moneyB a) = false → True ∧ ((!moneyB b) = false → (decide (a = b) = true → ((23 : Int), ()) = (mayR (a, b, c, p, n, d), ())) ∧ (decide (a = b) = false → (decide (c < (1 : Int)) = false → (decide ((3 : Int) < c) = true → ((25 : Int), ()) = (mayR (a, b, c, p, n, d), ())) ∧ (decide ((3 : Int) < c) = false → (decide (p < (0 : Int)) = false → (decide ((24 : Int) ≤ p) = true → ((22 : Int), ()) = (mayR (a, b, c, p, n, d), ())) ∧ (decide ((24 : Int) ≤ p) = false → True ∧ (ratioF n d, ()) = (mayR (a, b, c, p, n, d), ()))) ∧ (decide (p < (0 : Int)) = !false → ((22 : Int), ()) = (mayR (a, b, c, p, n, d), ())))) ∧ (decide (c < (1 : Int)) = !false → ((25 : Int), ()) = (mayR (a, b, c, p, n, d), ())))) ∧ ((!moneyB b) = !false → ((23 : Int), ()) = (mayR (a, b, c, p, n, d), ()))) ∧ ((!moneyB a) = !false → ((23 : Int), ()) = (mayR (a, b, c, p, n, d), ()))
theorem g_may_eq (a b c p n d : Int) : Cond (env_may a b c p n d) Tryz.f80 [.agg [.int .i64 a, .int .i64 b, .int .i64 c, .int .i64 p, .int .i64 n, .int .i64 d]] [.int .i64] (mayR (a, b, c, p, n, d), ()) = g_may_vc a b c p n d := by kernel_rfl
theorem may_23 {x : Rt} (h : ¬ (moneyB x.1 = true ∧ moneyB x.2.1 = true ∧ x.1 ≠ x.2.1)) : mayR x = 23 := by unfold mayR; rw [if_pos h]
theorem may_25 {x : Rt} (h : moneyB x.1 = true ∧ moneyB x.2.1 = true ∧ x.1 ≠ x.2.1) (k : ¬ (1 ≤ x.2.2.1 ∧ x.2.2.1 ≤ 3)) : mayR x = 25 := by unfold mayR; rw [if_neg (fun c => c h), if_pos k]
theorem may_22 {x : Rt} (h : moneyB x.1 = true ∧ moneyB x.2.1 = true ∧ x.1 ≠ x.2.1) (k : 1 ≤ x.2.2.1 ∧ x.2.2.1 ≤ 3) (m : ¬ (0 ≤ x.2.2.2.1 ∧ x.2.2.2.1 ≤ 23)) : mayR x = 22 := by
  unfold mayR; rw [if_neg (fun c => c h), if_neg (fun c => c k), if_pos m]
theorem may_ok {x : Rt} (h : moneyB x.1 = true ∧ moneyB x.2.1 = true ∧ x.1 ≠ x.2.1) (k : 1 ≤ x.2.2.1 ∧ x.2.2.1 ≤ 3) (m : 0 ≤ x.2.2.2.1 ∧ x.2.2.2.1 ≤ 23) : mayR x = ratioF x.2.2.2.2.1 x.2.2.2.2.2 := by
  unfold mayR; rw [if_neg (fun c => c h), if_neg (fun c => c k), if_neg (fun c => c m)]
theorem g_may_ok (a b c p n d : Int) : g_may_vc a b c p n d := by
  unfold g_may_vc
  simp only [decide_eq_true_eq, decide_eq_false_iff_not, Bool.not_eq_true', Bool.not_eq_false', Bool.not_false]
  refine ⟨trivial, fun h1 => ⟨trivial, fun h2 => ⟨fun h3 => ?_, fun h3 => ⟨fun h4 => ⟨fun h5 => ?_, fun h5 => ⟨fun h6 => ⟨fun h7 => ?_, fun h7 => ⟨trivial, ?_⟩⟩, fun h6 => ?_⟩⟩, fun h4 => ?_⟩⟩, fun h2 => ?_⟩, fun h1 => ?_⟩
  · rw [may_23 (fun k => k.2.2 h3)]
  · rw [may_25 ⟨h1, h2, h3⟩ (fun k => by have := k.2; dsimp only at this; omega)]
  · rw [may_22 ⟨h1, h2, h3⟩ (by dsimp only; omega) (fun k => by have := k.2; dsimp only at this; omega)]
  · rw [may_ok ⟨h1, h2, h3⟩ (by dsimp only; omega) (by dsimp only; omega)]
  · rw [may_22 ⟨h1, h2, h3⟩ (by dsimp only; omega) (fun k => by have := k.1; dsimp only at this; omega)]
  · rw [may_25 ⟨h1, h2, h3⟩ (fun k => by have := k.1; dsimp only at this; omega)]
  · rw [may_23 (fun k => by have := k.2.1; dsimp only at this; rw [h2] at this; cases this)]
  · rw [may_23 (fun k => by have := k.1; dsimp only at this; rw [h1] at this; cases this)]
theorem may_pure (a b c p n d : Int) : Pure Tryz.prog 80 [.agg [.int .i64 a, .int .i64 b, .int .i64 c, .int .i64 p, .int .i64 n, .int .i64 d]] (.int .i64 (mayR (a, b, c, p, n, d))) :=
  by have k := Pure.of_cond (g_may_eq a b c p n d) (g_may_ok a b c p n d) (specs_ok rfl [sp_money, sp_rcheck] [] rfl rfl) mixed Tryz.func80; exact k
noncomputable def q_may (a b c p n d : Int) : Prop × V := (True, (.int .i64 (mayR (a, b, c, p, n, d))))
noncomputable def sp_may : FSpec Tryz.prog where
 f := 80
 run := fun
  | [.agg [.int .i64 a, .int .i64 b, .int .i64 c, .int .i64 p, .int .i64 n, .int .i64 d]] => some (q_may a b c p n d)
  | _ => none
 ok := fun args pre r h hp => by
  split at h
  · rename_i a b c p n d
    exact of_q h hp fun h => (may_pure a b c p n d).weak (.cons (.refl _) .nil)
  · cases h
noncomputable def env_rrcheck (a b : Int) : Env where
  P := Tryz.prog
  ty := tys0
def g_rrcheck_vc (a : Int) (b : Int) : Prop :=
  (decide (a < (1 : Int)) = false → (decide (b < (1 : Int)) = false → (decide ((1000000000000 : Int) < a) = false → (decide ((1000000000000 : Int) < b) = true → ((11 : Int), ()) = (ratioF a b, ())) ∧ (decide ((1000000000000 : Int) < b) = false → ((0 : Int), ()) = (ratioF a b, ()))) ∧ (decide ((1000000000000 : Int) < a) = !false → ((11 : Int), ()) = (ratioF a b, ()))) ∧ (decide (b < (1 : Int)) = !false → ((11 : Int), ()) = (ratioF a b, ()))) ∧ (decide (a < (1 : Int)) = !false → ((11 : Int), ()) = (ratioF a b, ()))
theorem g_rrcheck_eq (a b : Int) : Cond (env_rrcheck a b) Tryz.f114 [.agg [.int .i64 a, .int .i64 b]] [.int .i64] (ratioF a b, ()) = g_rrcheck_vc a b := by kernel_rfl
theorem g_rrcheck_ok (a b : Int) : g_rrcheck_vc a b := by
  unfold g_rrcheck_vc ratioF
  simp only [decide_eq_true_eq, decide_eq_false_iff_not, Bool.not_false, Prod.mk.injEq, and_true]
  refine ⟨fun h1 => ⟨fun h2 => ⟨fun h3 => ⟨fun h4 => ?_, fun h4 => ?_⟩, fun h3 => ?_⟩, fun h2 => ?_⟩, fun h1 => ?_⟩ <;> split <;> omega
theorem rrcheck_pure (a b : Int) : Pure Tryz.prog 114 [.agg [.int .i64 a, .int .i64 b]] (.int .i64 (ratioF a b)) :=
  by have k := Pure.of_cond (g_rrcheck_eq a b) (g_rrcheck_ok a b) (specs_ok rfl [] [] rfl rfl) mixed Tryz.func114; exact k
noncomputable def q_rrcheck (a b : Int) : Prop × V := (True, (.int .i64 (ratioF a b)))
noncomputable def sp_rrcheck : FSpec Tryz.prog where
 f := 114
 run := fun
  | [.agg [.int .i64 a, .int .i64 b]] => some (q_rrcheck a b)
  | _ => none
 ok := fun args pre r h hp => by
  split at h
  · rename_i a b
    exact of_q h hp fun h => (rrcheck_pure a b).weak (.cons (.refl _) .nil)
  · cases h
noncomputable def env_rmay (a b c p n d : Int) : Env where
  P := Tryz.prog
  ty := tys0
  specs := specsOf [sp_rmoney, sp_rrcheck]
def g_rmay_vc (a : Int) (b : Int) (c : Int) (p : Int) (n : Int) (d : Int) : Prop :=
  True ∧ ((!moneyB a) = false → True ∧ ((!moneyB b) = false → (decide (a = b) = true → ((23 : Int), ()) = (mayR (a, b, c, p, n, d), ())) ∧ (decide (a = b) = false → (decide (c < (1 : Int)) = false → (decide ((3 : Int) < c) = true → ((25 : Int), ()) = (mayR (a, b, c, p, n, d), ())) ∧ (decide ((3 : Int) < c) = false → (decide (p < (0 : Int)) = false → (decide ((23 : Int) < p) = true → ((22 : Int), ()) = (mayR (a, b, c, p, n, d), ())) ∧ (decide ((23 : Int) < p) = false → True ∧ (ratioF n d, ()) = (mayR (a, b, c, p, n, d), ()))) ∧ (decide (p < (0 : Int)) = !false → ((22 : Int), ()) = (mayR (a, b, c, p, n, d), ())))) ∧ (decide (c < (1 : Int)) = !false → ((25 : Int), ()) = (mayR (a, b, c, p, n, d), ())))) ∧ ((!moneyB b) = !false → ((23 : Int), ()) = (mayR (a, b, c, p, n, d), ()))) ∧ ((!moneyB a) = !false → ((23 : Int), ()) = (mayR (a, b, c, p, n, d), ()))
theorem g_rmay_eq (a b c p n d : Int) : Cond (env_rmay a b c p n d) Tryz.f90 [.agg [.int .i64 a, .int .i64 b, .int .i64 c, .int .i64 p, .int .i64 n, .int .i64 d]] [.int .i64] (mayR (a, b, c, p, n, d), ()) = g_rmay_vc a b c p n d := by kernel_rfl
theorem g_rmay_ok (a b c p n d : Int) : g_rmay_vc a b c p n d := by
  unfold g_rmay_vc
  simp only [decide_eq_true_eq, decide_eq_false_iff_not, Bool.not_eq_true', Bool.not_eq_false', Bool.not_false]
  refine ⟨trivial, fun h1 => ⟨trivial, fun h2 => ⟨fun h3 => ?_, fun h3 => ⟨fun h4 => ⟨fun h5 => ?_, fun h5 => ⟨fun h6 => ⟨fun h7 => ?_, fun h7 => ⟨trivial, ?_⟩⟩, fun h6 => ?_⟩⟩, fun h4 => ?_⟩⟩, fun h2 => ?_⟩, fun h1 => ?_⟩
  · rw [may_23 (fun k => k.2.2 h3)]
  · rw [may_25 ⟨h1, h2, h3⟩ (fun k => by have := k.2; dsimp only at this; omega)]
  · rw [may_22 ⟨h1, h2, h3⟩ (by dsimp only; omega) (fun k => by have := k.2; dsimp only at this; omega)]
  · rw [may_ok ⟨h1, h2, h3⟩ (by dsimp only; omega) (by dsimp only; omega)]
  · rw [may_22 ⟨h1, h2, h3⟩ (by dsimp only; omega) (fun k => by have := k.1; dsimp only at this; omega)]
  · rw [may_25 ⟨h1, h2, h3⟩ (fun k => by have := k.1; dsimp only at this; omega)]
  · rw [may_23 (fun k => by have := k.2.1; dsimp only at this; rw [h2] at this; cases this)]
  · rw [may_23 (fun k => by have := k.1; dsimp only at this; rw [h1] at this; cases this)]
theorem rmay_pure (a b c p n d : Int) : Pure Tryz.prog 90 [.agg [.int .i64 a, .int .i64 b, .int .i64 c, .int .i64 p, .int .i64 n, .int .i64 d]] (.int .i64 (mayR (a, b, c, p, n, d))) :=
  by have k := Pure.of_cond (g_rmay_eq a b c p n d) (g_rmay_ok a b c p n d) (specs_ok rfl [sp_rmoney, sp_rrcheck] [] rfl rfl) mixed Tryz.func90; exact k
noncomputable def q_rmay (a b c p n d : Int) : Prop × V := (True, (.int .i64 (mayR (a, b, c, p, n, d))))
noncomputable def sp_rmay : FSpec Tryz.prog where
 f := 90
 run := fun
  | [.agg [.int .i64 a, .int .i64 b, .int .i64 c, .int .i64 p, .int .i64 n, .int .i64 d]] => some (q_rmay a b c p n d)
  | _ => none
 ok := fun args pre r h hp => by
  split at h
  · rename_i a b c p n d
    exact of_q h hp fun h => (rmay_pure a b c p n d).weak (.cons (.refl _) .nil)
  · cases h
def badL : List Rt → Int → Int × Int
  | [], i => (i, 0)
  | x :: r, i => if mayR x = 0 then badL r (i + 1) else (i, mayR x)
def checkF (l : List Rt) : Int × Int := if 2000 < (l.length : Int) then (0, 3) else badL l 0
noncomputable def env_check (l : List Rt) : Env where
  P := Tryz.prog
  ty := tys0
  specs := specsOf [sp_may]
  heads := fun
    | 4 => some { slots := [(12, .int .i64)], boxes := [], inv := fun _ (x : Int × Unit) => 0 ≤ x.1 ∧ x.1 ≤ l.length ∧ badL l 0 = badL (l.drop x.1.toNat) x.1, measure := fun _ (x : Int × Unit) => (l.length - x.1).toNat }
    | _ => none
def g_check_vc (l : List Rt) : Prop :=
  (decide ((2000 : Int) < (↑l.length : Int)) = true → ((0 : Int), (3 : Int), ()) = ((checkF l).1, (checkF l).2, ())) ∧ (decide ((2000 : Int) < (↑l.length : Int)) = false → (True ∧ (0 : Int) ≤ (0 : Int) ∧ (0 : Int) ≤ (↑l.length : Int) ∧ badL l (0 : Int) = badL (List.drop (Int.toNat (0 : Int)) l) (0 : Int)) ∧ ∀ (x : Int × Unit), (0 : Int) ≤ x.1 ∧ x.1 ≤ (↑l.length : Int) ∧ badL l (0 : Int) = badL (List.drop x.1.toNat l) x.1 → (decide (x.1 < (↑l.length : Int)) = true → ((0 : Int) ≤ x.1 ∧ x.1 < (↑l.length : Int)) ∧ ∀ (x_1 : Int × Int × Int × Int × Int × Int), l[x.1.toNat]? = some x_1 → True ∧ ((!decide (mayR (x_1.1, x_1.2.1, x_1.2.2.1, x_1.2.2.2.1, x_1.2.2.2.2.1, x_1.2.2.2.2.2) = (0 : Int))) = true → (x.1, mayR (x_1.1, x_1.2.1, x_1.2.2.1, x_1.2.2.2.1, x_1.2.2.2.2.1, x_1.2.2.2.2.2), ()) = ((checkF l).1, (checkF l).2, ())) ∧ ((!decide (mayR (x_1.1, x_1.2.1, x_1.2.2.1, x_1.2.2.2.1, x_1.2.2.2.2.1, x_1.2.2.2.2.2) = (0 : Int))) = false → ((-9223372036854775808 : Int) ≤ x.1 + (1 : Int) ∧ x.1 + (1 : Int) ≤ (9223372036854775807 : Int)) ∧ True ∧ ((0 : Int) ≤ x.1 + (1 : Int) ∧ x.1 + (1 : Int) ≤ (↑l.length : Int) ∧ badL l (0 : Int) = badL (List.drop (x.1 + (1 : Int)).toNat l) (x.1 + (1 : Int))) ∧ ((↑l.length : Int) - (x.1 + (1 : Int))).toNat < ((↑l.length : Int) - x.1).toNat)) ∧ (decide (x.1 < (↑l.length : Int)) = false → ((↑l.length : Int), (0 : Int), ()) = ((checkF l).1, (checkF l).2, ())))
theorem g_check_eq (l : List Rt) : Cond (env_check l) Tryz.f31 [.list .tmp RTy l] [.int .i64, .int .i64] ((checkF l).1, (checkF l).2, ()) = g_check_vc l := by kernel_rfl
noncomputable def env_rcheckl (l : List Rt) : Env where
  P := Tryz.prog
  ty := tys0
  specs := specsOf [sp_rmay]
  heads := fun
    | 4 => some { slots := [(4, .int .i64)], boxes := [], inv := fun _ (x : Int × Unit) => 0 ≤ x.1 ∧ x.1 ≤ l.length ∧ badL l 0 = badL (l.drop x.1.toNat) x.1, measure := fun _ (x : Int × Unit) => (l.length - x.1).toNat }
    | _ => none
def g_rcheckl_vc (l : List Rt) : Prop :=
  (decide ((2000 : Int) < (↑l.length : Int)) = true → ((0 : Int), (3 : Int), ()) = ((checkF l).1, (checkF l).2, ())) ∧ (decide ((2000 : Int) < (↑l.length : Int)) = false → (True ∧ (0 : Int) ≤ (0 : Int) ∧ (0 : Int) ≤ (↑l.length : Int) ∧ badL l (0 : Int) = badL (List.drop (Int.toNat (0 : Int)) l) (0 : Int)) ∧ ∀ (x : Int × Unit), (0 : Int) ≤ x.1 ∧ x.1 ≤ (↑l.length : Int) ∧ badL l (0 : Int) = badL (List.drop x.1.toNat l) x.1 → (decide (x.1 < (↑l.length : Int)) = true → ((0 : Int) ≤ x.1 ∧ x.1 < (↑l.length : Int)) ∧ ∀ (x_1 : Int × Int × Int × Int × Int × Int), l[x.1.toNat]? = some x_1 → True ∧ ((!decide (mayR (x_1.1, x_1.2.1, x_1.2.2.1, x_1.2.2.2.1, x_1.2.2.2.2.1, x_1.2.2.2.2.2) = (0 : Int))) = true → (x.1, mayR (x_1.1, x_1.2.1, x_1.2.2.1, x_1.2.2.2.1, x_1.2.2.2.2.1, x_1.2.2.2.2.2), ()) = ((checkF l).1, (checkF l).2, ())) ∧ ((!decide (mayR (x_1.1, x_1.2.1, x_1.2.2.1, x_1.2.2.2.1, x_1.2.2.2.2.1, x_1.2.2.2.2.2) = (0 : Int))) = false → ((-9223372036854775808 : Int) ≤ x.1 + (1 : Int) ∧ x.1 + (1 : Int) ≤ (9223372036854775807 : Int)) ∧ True ∧ ((0 : Int) ≤ x.1 + (1 : Int) ∧ x.1 + (1 : Int) ≤ (↑l.length : Int) ∧ badL l (0 : Int) = badL (List.drop (x.1 + (1 : Int)).toNat l) (x.1 + (1 : Int))) ∧ ((↑l.length : Int) - (x.1 + (1 : Int))).toNat < ((↑l.length : Int) - x.1).toNat)) ∧ (decide (x.1 < (↑l.length : Int)) = false → ((↑l.length : Int), (0 : Int), ()) = ((checkF l).1, (checkF l).2, ())))
theorem g_rcheckl_eq (l : List Rt) : Cond (env_rcheckl l) Tryz.f39 [.list .tmp RTy l] [.int .i64, .int .i64] ((checkF l).1, (checkF l).2, ()) = g_rcheckl_vc l := by kernel_rfl
theorem bad_next {l : List Rt} {i : Int} {x : Rt} (h0 : 0 ≤ i) (hx : l[i.toNat]? = some x) : badL (l.drop i.toNat) i = if mayR x = 0 then badL (l.drop (i + 1).toNat) (i + 1) else (i, mayR x) := by
  obtain ⟨h1, h2⟩ := List.getElem?_eq_some_iff.1 hx
  rw [List.drop_eq_getElem_cons h1, h2, show (i + 1).toNat = i.toNat + 1 by omega]
  rfl
theorem check_big {l : List Rt} (h : 2000 < (l.length : Int)) : checkF l = (0, 3) := by unfold checkF; rw [if_pos h]
theorem check_small {l : List Rt} (h : ¬ 2000 < (l.length : Int)) : checkF l = badL l 0 := by unfold checkF; rw [if_neg h]
theorem g_check_ok (l : List Rt) : g_check_vc l := by
  unfold g_check_vc
  simp only [decide_eq_true_eq, decide_eq_false_iff_not, Bool.not_eq_true', Bool.not_eq_false']
  refine ⟨fun c => by rw [check_big c], fun c => ⟨⟨trivial, by omega, by omega, rfl⟩, ?_⟩⟩
  rw [check_small c]
  rintro ⟨i, ⟨⟩⟩ ⟨h0, h1, hb⟩
  dsimp only at h0 h1 hb ⊢
  rw [hb]
  refine ⟨fun d => ⟨⟨h0, d⟩, fun x hx => ⟨trivial, fun k => ?_, fun k => ⟨by omega, trivial, ⟨by omega, by omega, ?_⟩, by omega⟩⟩⟩, fun d => ?_⟩
  · rw [bad_next h0 hx, if_neg k]
  · rw [bad_next h0 hx, if_pos k]
  · rw [List.drop_of_length_le (by omega)]
    have : i = l.length := by omega
    rw [this]
    rfl
theorem check_pure (l : List Rt) : Pure Tryz.prog 31 [.list .tmp RTy l] (.tuple [.int .i64 (checkF l).1, .int .i64 (checkF l).2]) :=
  by have k := Pure.of_cond (g_check_eq l) (g_check_ok l) (specs_ok rfl [sp_may] [] rfl rfl) mixed Tryz.func31; exact k
noncomputable def q_check (l : List Rt) : Prop × V := (True, (.tuple [.int .i64 (checkF l).1, .int .i64 (checkF l).2]))
noncomputable def sp_check : FSpec Tryz.prog where
 f := 31
 run := fun
  | [v0] => (asL RTy v0 : Option (List Rt)).bind fun l => some (q_check l)
  | _ => none
 ok := fun args pre r h hp => by
  split at h
  · rename_i v0
    obtain ⟨l, h0, h⟩ := Option.bind_eq_some_iff.1 h
    exact of_q h hp fun h => (check_pure l).weak (.cons (asL_weak h0) .nil)
  · cases h
theorem g_rcheckl_ok (l : List Rt) : g_rcheckl_vc l := by
  unfold g_rcheckl_vc
  simp only [decide_eq_true_eq, decide_eq_false_iff_not, Bool.not_eq_true', Bool.not_eq_false']
  refine ⟨fun c => by rw [check_big c], fun c => ⟨⟨trivial, by omega, by omega, rfl⟩, ?_⟩⟩
  rw [check_small c]
  rintro ⟨i, ⟨⟩⟩ ⟨h0, h1, hb⟩
  dsimp only at h0 h1 hb ⊢
  rw [hb]
  refine ⟨fun d => ⟨⟨h0, d⟩, fun x hx => ⟨trivial, fun k => ?_, fun k => ⟨by omega, trivial, ⟨by omega, by omega, ?_⟩, by omega⟩⟩⟩, fun d => ?_⟩
  · rw [bad_next h0 hx, if_neg k]
  · rw [bad_next h0 hx, if_pos k]
  · rw [List.drop_of_length_le (by omega)]
    have : i = l.length := by omega
    rw [this]
    rfl
theorem rcheckl_pure (l : List Rt) : Pure Tryz.prog 39 [.list .tmp RTy l] (.tuple [.int .i64 (checkF l).1, .int .i64 (checkF l).2]) :=
  by have k := Pure.of_cond (g_rcheckl_eq l) (g_rcheckl_ok l) (specs_ok rfl [sp_rmay] [] rfl rfl) mixed Tryz.func39; exact k
noncomputable def q_rcheckl (l : List Rt) : Prop × V := (True, (.tuple [.int .i64 (checkF l).1, .int .i64 (checkF l).2]))
noncomputable def sp_rcheckl : FSpec Tryz.prog where
 f := 39
 run := fun
  | [v0] => (asL RTy v0 : Option (List Rt)).bind fun l => some (q_rcheckl l)
  | _ => none
 ok := fun args pre r h hp => by
  split at h
  · rename_i v0
    obtain ⟨l, h0, h⟩ := Option.bind_eq_some_iff.1 h
    exact of_q h hp fun h => (rcheckl_pure l).weak (.cons (asL_weak h0) .nil)
  · cases h
noncomputable def env_clone (l : List Rt) : Env where
  P := Tryz.prog
  ty := tys0
def g_clone_vc (l : List Rt) : Prop :=
  ((true = true → l.length = (0 : Nat)) → ([], ()) = (l, ())) ∧ ((false = true → l.length = (0 : Nat)) → (((0 : Nat) + l.length) * (48 : Nat) ≤ (140737488355328 : Nat) ∧ (0 : Nat) + l.length ≤ (4611686018427387904 : Nat) ∧ ((0 : Nat) < l.length ∨ (0 : Nat) = (0 : Nat))) ∧ (l, ()) = (l, ()))
theorem g_clone_eq (l : List Rt) : Cond (env_clone l) Tryz.f63 [.list .tmp RTy l] [.slc 0 RTy] (l, ()) = g_clone_vc l := by kernel_rfl
theorem g_clone_ok (l : List Rt) (h : l.length ≤ 1000000) : g_clone_vc l := by
  unfold g_clone_vc
  refine ⟨fun e => ?_, fun _ => ⟨⟨by omega, by omega, .inr rfl⟩, rfl⟩⟩
  have := List.eq_nil_of_length_eq_zero (e rfl)
  rw [this]
theorem clone_pure (l : List Rt) (h : l.length ≤ 1000000) : Pure Tryz.prog 63 [.list .tmp RTy l] (.olist RTy l) :=
  by have k := Pure.of_cond (g_clone_eq l) (g_clone_ok l h) (specs_ok rfl [] [] rfl rfl) mixed Tryz.func63; exact k
noncomputable def q_clone (l : List Rt) : Prop × V := (l.length ≤ 1000000, (.olist RTy l))
noncomputable def sp_clone : FSpec Tryz.prog where
 f := 63
 run := fun
  | [v0] => (asL RTy v0 : Option (List Rt)).bind fun l => some (q_clone l)
  | _ => none
 ok := fun args pre r h hp => by
  split at h
  · rename_i v0
    obtain ⟨l, h0, h⟩ := Option.bind_eq_some_iff.1 h
    exact of_q h hp fun h => (clone_pure l h).weak (.cons (asL_weak h0) .nil)
  · cases h
noncomputable def env_rsame (l m : List Rt) : Env where
  P := Tryz.prog
  ty := tys0
  heads := fun
    | 4 => some { slots := [(5, .int .i64)], boxes := [], inv := fun _ (x : Int × Unit) => 0 ≤ x.1 ∧ x.1 ≤ l.length ∧ l.take x.1.toNat = m.take x.1.toNat, measure := fun _ (x : Int × Unit) => (l.length - x.1).toNat }
    | _ => none
def g_rsame_vc (l : List Rt) (m : List Rt) : Prop :=
  ((!decide ((↑l.length : Int) = (↑m.length : Int))) = true → (false, ()) = (decide (l = m), ())) ∧ ((!decide ((↑l.length : Int) = (↑m.length : Int))) = false → (True ∧ (0 : Int) ≤ (0 : Int) ∧ (0 : Int) ≤ (↑l.length : Int) ∧ List.take (Int.toNat (0 : Int)) l = List.take (Int.toNat (0 : Int)) m) ∧ ∀ (x : Int × Unit), (0 : Int) ≤ x.1 ∧ x.1 ≤ (↑l.length : Int) ∧ List.take x.1.toNat l = List.take x.1.toNat m → (decide (x.1 < (↑l.length : Int)) = true → ((0 : Int) ≤ x.1 ∧ x.1 < (↑l.length : Int)) ∧ ∀ (x_1 : Int × Int × Int × Int × Int × Int), l[x.1.toNat]? = some x_1 → ((0 : Int) ≤ x.1 ∧ x.1 < (↑m.length : Int)) ∧ ∀ (x_2 : Int × Int × Int × Int × Int × Int), m[x.1.toNat]? = some x_2 → ((!(decide (x_1.1 = x_2.1) && (decide (x_1.2.1 = x_2.2.1) && (decide (x_1.2.2.1 = x_2.2.2.1) && (decide (x_1.2.2.2.1 = x_2.2.2.2.1) && (decide (x_1.2.2.2.2.1 = x_2.2.2.2.2.1) && (decide (x_1.2.2.2.2.2 = x_2.2.2.2.2.2) && true) && true)))))) = true → (false, ()) = (decide (l = m), ())) ∧ ((!(decide (x_1.1 = x_2.1) && (decide (x_1.2.1 = x_2.2.1) && (decide (x_1.2.2.1 = x_2.2.2.1) && (decide (x_1.2.2.2.1 = x_2.2.2.2.1) && (decide (x_1.2.2.2.2.1 = x_2.2.2.2.2.1) && (decide (x_1.2.2.2.2.2 = x_2.2.2.2.2.2) && true) && true)))))) = false → ((-9223372036854775808 : Int) ≤ x.1 + (1 : Int) ∧ x.1 + (1 : Int) ≤ (9223372036854775807 : Int)) ∧ True ∧ ((0 : Int) ≤ x.1 + (1 : Int) ∧ x.1 + (1 : Int) ≤ (↑l.length : Int) ∧ List.take (x.1 + (1 : Int)).toNat l = List.take (x.1 + (1 : Int)).toNat m) ∧ ((↑l.length : Int) - (x.1 + (1 : Int))).toNat < ((↑l.length : Int) - x.1).toNat)) ∧ (decide (x.1 < (↑l.length : Int)) = false → (true, ()) = (decide (l = m), ())))
theorem g_rsame_eq (l m : List Rt) : Cond (env_rsame l m) Tryz.f47 [.list .tmp RTy l, .list .tmp RTy m] [.bool] (decide (l = m), ()) = g_rsame_vc l m := by kernel_rfl
theorem take_eq {α : Type} {l m : List α} {i : Nat} {x y : α} (h : l.take i = m.take i) (hx : l[i]? = some x) (hy : m[i]? = some y) (e : x = y) : l.take (i + 1) = m.take (i + 1) := by
  rw [List.take_add_one, List.take_add_one, hx, hy, h, e]
theorem g_rsame_ok (l m : List Rt) (h : l.length ≤ 1000000 ∧ m.length ≤ 1000000) : g_rsame_vc l m := by
  obtain ⟨h1, h2⟩ := h
  unfold g_rsame_vc
  simp only [decide_eq_true_eq, decide_eq_false_iff_not, Bool.not_eq_true', Bool.not_eq_false', Bool.and_true, Bool.and_eq_true, Bool.and_eq_false_iff]
  refine ⟨fun k => ?_, fun k => ⟨⟨trivial, by omega, by omega, rfl⟩, ?_⟩⟩
  · rw [decide_eq_false (fun e => k (by rw [e]))]
  rintro ⟨i, ⟨⟩⟩ ⟨i0, i1, ht⟩
  dsimp only at i0 i1 ht ⊢
  refine ⟨fun c => ⟨⟨i0, c⟩, fun x hx => ⟨⟨i0, by omega⟩, fun y hy => ⟨fun d => ?_, fun d => ⟨by omega, trivial, ⟨by omega, by omega, ?_⟩, by omega⟩⟩⟩⟩, fun c => ?_⟩
  · rw [decide_eq_false]
    intro e
    subst e
    rw [hx] at hy
    cases hy
    rcases d with d | d | d | d | d | d <;> exact d rfl
  · rw [show (i + 1).toNat = i.toNat + 1 by omega]
    obtain ⟨x1, x2, x3, x4, x5, x6⟩ := x
    obtain ⟨y1, y2, y3, y4, y5, y6⟩ := y
    obtain ⟨d1, d2, d3, d4, d5, d6⟩ := d
    dsimp only at d1 d2 d3 d4 d5 d6
    exact take_eq ht hx hy (by rw [d1, d2, d3, d4, d5, d6])
  · rw [List.take_of_length_le (by omega), List.take_of_length_le (by omega)] at ht
    rw [decide_eq_true ht]
theorem rsame_pure (l m : List Rt) (h : l.length ≤ 1000000 ∧ m.length ≤ 1000000) : Pure Tryz.prog 47 [.list .tmp RTy l, .list .tmp RTy m] (.bool (decide (l = m))) :=
  by have k := Pure.of_cond (g_rsame_eq l m) (g_rsame_ok l m h) (specs_ok rfl [] [] rfl rfl) mixed Tryz.func47; exact k
noncomputable def q_rsame (l m : List Rt) : Prop × V := (l.length ≤ 1000000 ∧ m.length ≤ 1000000, (.bool (decide (l = m))))
noncomputable def sp_rsame : FSpec Tryz.prog where
 f := 47
 run := fun
  | [v0, v1] => (asL RTy v0 : Option (List Rt)).bind fun l => (asL RTy v1 : Option (List Rt)).bind fun m => some (q_rsame l m)
  | _ => none
 ok := fun args pre r h hp => by
  split at h
  · rename_i v0 v1
    obtain ⟨l, h0, h⟩ := Option.bind_eq_some_iff.1 h
    obtain ⟨m, h1, h⟩ := Option.bind_eq_some_iff.1 h
    exact of_q h hp fun h => (rsame_pure l m h).weak (.cons (asL_weak h0) (.cons (asL_weak h1) .nil))
  · cases h
end Go.Proofs.YtgjpehgnagfghaaGreat.Rts
