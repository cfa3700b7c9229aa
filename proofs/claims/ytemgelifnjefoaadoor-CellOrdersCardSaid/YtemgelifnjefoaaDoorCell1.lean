/-
  cell: whether a key may be, and which of two stands ahead: the walks.
-/
import Derived.Test.YtemgelifnjefoaaDoorSeat
namespace Go.Proofs.YtemgelifnjefoaaDoor
open Go.Vm

abbrev CeD : Type := Int × Int × Int × Int × Int × Int
/-- Whether a key may be. -/
def okC (c : CeD) : Prop :=
  1 ≤ c.1 ∧ c.1 ≤ 7 ∧ 1 ≤ c.2.1 ∧ c.2.1 ≤ 40 ∧ 1 ≤ c.2.2.1 ∧ c.2.2.1 ≤ 60 ∧ 0 ≤ c.2.2.2.1 ∧ c.2.2.2.1 ≤ 23 ∧
    (c.1 ≤ 2 → c.2.2.2.2.1 = 0) ∧ (2 < c.1 → 1 ≤ c.2.2.2.2.1 ∧ c.2.2.2.2.1 ≤ 8) ∧ 0 ≤ c.2.2.2.2.2 ∧ c.2.2.2.2.2 ≤ 40 ∧ (3 < c.1 → c.2.2.2.2.2 = 0) ∧ c.2.2.2.2.2 ≠ c.2.1
instance (c : CeD) : Decidable (okC c) := by unfold okC; infer_instance
def ckF (c : CeD) : Int := if okC c then 0 else 41
def inF (c : CeD) (n m : Int) : Int := if okC c then (if c.2.1 > n ∨ c.2.2.2.2.2 > n then 20 else if c.2.2.1 > m then 21 else 0) else 41

noncomputable def env_within (n lo hi : Int) : Env where
  P := Tryd.prog
  ty := tys0
noncomputable def g_within (n lo hi : Int) : Prop := vc (env_within n lo hi) (codeOf Tryd.f20) (start0 Tryd.f20 [.int .i64 n, .int .i64 lo, .int .i64 hi]) (exitK (tsOf Tryd.f20) [.bool] (decide (lo ≤ n ∧ n ≤ hi), ()))
def g_within_vc (n : Int) (lo : Int) (hi : Int) : Prop :=
  (decide (lo ≤ n) = true → (decide (n ≤ hi), ()) = (decide (lo ≤ n ∧ n ≤ hi), ())) ∧ (decide (lo ≤ n) = !true → (false, ()) = (decide (lo ≤ n ∧ n ≤ hi), ()))
theorem g_within_eq (n lo hi : Int) : g_within n lo hi = g_within_vc n lo hi := by kernel_rfl
theorem g_within_ok (n lo hi : Int) : g_within_vc n lo hi := by
  unfold g_within_vc
  by_cases h1 : lo ≤ n <;> by_cases h2 : n ≤ hi <;> simp [h1, h2]
set_option maxRecDepth 20000 in
theorem within_pure (n lo hi : Int) : Pure Tryd.prog 20 [.int .i64 n, .int .i64 lo, .int .i64 hi] (.bool (decide (lo ≤ n ∧ n ≤ hi))) :=
  Pure.of_g (E := env_within n lo hi) (ts := tsOf Tryd.f20) (ps := [.bool]) (r := (decide (lo ≤ n ∧ n ≤ hi), ())) (fn := Tryd.f20) (c := codeOf Tryd.f20) (specs_ok (P := Tryd.prog) rfl [] [] rfl rfl) mixed Tryd.func20 rfl rfl (g := g_within n lo hi) (by delta g_within start0; first | with_reducible exact Eq.refl _ | exact Eq.refl _) (by rw [g_within_eq n lo hi]; exact g_within_ok n lo hi)
noncomputable def q_within (n lo hi : Int) : Prop × V := (True, (.bool (decide (lo ≤ n ∧ n ≤ hi))))
noncomputable def sp_within : FSpec Tryd.prog where
  f := 20
  run := fun args => match args with
    | [.int .i64 n, .int .i64 lo, .int .i64 hi] => some (q_within n lo hi)
    | _ => none
  ok := fun args pre r h hp => by
    try dsimp only at h
    split at h
    · rename_i n lo hi
      have h := Option.some.inj h
      unfold q_within at h
      cases h
      exact (within_pure n lo hi).weak (.cons (Weak.refl _) (.cons (Weak.refl _) (.cons (Weak.refl _) .nil)))
    · cases h

noncomputable def env_check (r e a p c q : Int) : Env where
  P := Tryd.prog
  ty := tys0
  specs := specsOf [sp_within]
  heads := fun
    | _ => none
noncomputable def g_check (r e a p c q : Int) : Prop := vc (env_check r e a p c q) (codeOf Tryd.f7) (start0 Tryd.f7 [.agg [.int .i64 r, .int .i64 e, .int .i64 a, .int .i64 p, .int .i64 c, .int .i64 q]]) (exitK (tsOf Tryd.f7) [.int .i64] (ckF (r, e, a, p, c, q), ()))
def g_check_vc (r : Int) (e : Int) (a : Int) (p : Int) (c : Int) (q : Int) : Prop :=
  (decide (r = (1 : Int)) = false → (decide (r = (2 : Int)) = true → (decide (r ≤ (3 : Int)) = true → True ∧ (decide ((1 : Int) ≤ r ∧ r ≤ (7 : Int)) = true → True ∧ (decide ((1 : Int) ≤ e ∧ e ≤ (40 : Int)) = true → True ∧ (decide ((1 : Int) ≤ a ∧ a ≤ (60 : Int)) = true → True ∧ (decide ((0 : Int) ≤ p ∧ p ≤ (23 : Int)) = true → True ∧ ((!decide ((0 : Int) ≤ c ∧ c ≤ (0 : Int))) = false → True ∧ ((!decide ((0 : Int) ≤ q ∧ q ≤ (40 : Int))) = false → (decide (q = e) = true → ((41 : Int), ()) = (ckF (r, e, a, p, c, q), ())) ∧ (decide (q = e) = false → ((0 : Int), ()) = (ckF (r, e, a, p, c, q), ()))) ∧ ((!decide ((0 : Int) ≤ q ∧ q ≤ (40 : Int))) = !false → ((41 : Int), ()) = (ckF (r, e, a, p, c, q), ()))) ∧ ((!decide ((0 : Int) ≤ c ∧ c ≤ (0 : Int))) = !false → ((41 : Int), ()) = (ckF (r, e, a, p, c, q), ()))) ∧ (decide ((0 : Int) ≤ p ∧ p ≤ (23 : Int)) = !true → ((41 : Int), ()) = (ckF (r, e, a, p, c, q), ()))) ∧ (decide ((1 : Int) ≤ a ∧ a ≤ (60 : Int)) = !true → ((41 : Int), ()) = (ckF (r, e, a, p, c, q), ()))) ∧ (decide ((1 : Int) ≤ e ∧ e ≤ (40 : Int)) = !true → ((41 : Int), ()) = (ckF (r, e, a, p, c, q), ()))) ∧ (decide ((1 : Int) ≤ r ∧ r ≤ (7 : Int)) = !true → ((41 : Int), ()) = (ckF (r, e, a, p, c, q), ()))) ∧ (decide (r ≤ (3 : Int)) = false → True ∧ (decide ((1 : Int) ≤ r ∧ r ≤ (7 : Int)) = true → True ∧ (decide ((1 : Int) ≤ e ∧ e ≤ (40 : Int)) = true → True ∧ (decide ((1 : Int) ≤ a ∧ a ≤ (60 : Int)) = true → True ∧ (decide ((0 : Int) ≤ p ∧ p ≤ (23 : Int)) = true → True ∧ ((!decide ((0 : Int) ≤ c ∧ c ≤ (0 : Int))) = false → True ∧ ((!decide ((0 : Int) ≤ q ∧ q ≤ (0 : Int))) = false → (decide (q = e) = true → ((41 : Int), ()) = (ckF (r, e, a, p, c, q), ())) ∧ (decide (q = e) = false → ((0 : Int), ()) = (ckF (r, e, a, p, c, q), ()))) ∧ ((!decide ((0 : Int) ≤ q ∧ q ≤ (0 : Int))) = !false → ((41 : Int), ()) = (ckF (r, e, a, p, c, q), ()))) ∧ ((!decide ((0 : Int) ≤ c ∧ c ≤ (0 : Int))) = !false → ((41 : Int), ()) = (ckF (r, e, a, p, c, q), ()))) ∧ (decide ((0 : Int) ≤ p ∧ p ≤ (23 : Int)) = !true → ((41 : Int), ()) = (ckF (r, e, a, p, c, q), ()))) ∧ (decide ((1 : Int) ≤ a ∧ a ≤ (60 : Int)) = !true → ((41 : Int), ()) = (ckF (r, e, a, p, c, q), ()))) ∧ (decide ((1 : Int) ≤ e ∧ e ≤ (40 : Int)) = !true → ((41 : Int), ()) = (ckF (r, e, a, p, c, q), ()))) ∧ (decide ((1 : Int) ≤ r ∧ r ≤ (7 : Int)) = !true → ((41 : Int), ()) = (ckF (r, e, a, p, c, q), ())))) ∧ (decide (r = (2 : Int)) = false → (decide (r ≤ (3 : Int)) = true → True ∧ (decide ((1 : Int) ≤ r ∧ r ≤ (7 : Int)) = true → True ∧ (decide ((1 : Int) ≤ e ∧ e ≤ (40 : Int)) = true → True ∧ (decide ((1 : Int) ≤ a ∧ a ≤ (60 : Int)) = true → True ∧ (decide ((0 : Int) ≤ p ∧ p ≤ (23 : Int)) = true → True ∧ ((!decide ((1 : Int) ≤ c ∧ c ≤ (8 : Int))) = false → True ∧ ((!decide ((0 : Int) ≤ q ∧ q ≤ (40 : Int))) = false → (decide (q = e) = true → ((41 : Int), ()) = (ckF (r, e, a, p, c, q), ())) ∧ (decide (q = e) = false → ((0 : Int), ()) = (ckF (r, e, a, p, c, q), ()))) ∧ ((!decide ((0 : Int) ≤ q ∧ q ≤ (40 : Int))) = !false → ((41 : Int), ()) = (ckF (r, e, a, p, c, q), ()))) ∧ ((!decide ((1 : Int) ≤ c ∧ c ≤ (8 : Int))) = !false → ((41 : Int), ()) = (ckF (r, e, a, p, c, q), ()))) ∧ (decide ((0 : Int) ≤ p ∧ p ≤ (23 : Int)) = !true → ((41 : Int), ()) = (ckF (r, e, a, p, c, q), ()))) ∧ (decide ((1 : Int) ≤ a ∧ a ≤ (60 : Int)) = !true → ((41 : Int), ()) = (ckF (r, e, a, p, c, q), ()))) ∧ (decide ((1 : Int) ≤ e ∧ e ≤ (40 : Int)) = !true → ((41 : Int), ()) = (ckF (r, e, a, p, c, q), ()))) ∧ (decide ((1 : Int) ≤ r ∧ r ≤ (7 : Int)) = !true → ((41 : Int), ()) = (ckF (r, e, a, p, c, q), ()))) ∧ (decide (r ≤ (3 : Int)) = false → True ∧ (decide ((1 : Int) ≤ r ∧ r ≤ (7 : Int)) = true → True ∧ (decide ((1 : Int) ≤ e ∧ e ≤ (40 : Int)) = true → True ∧ (decide ((1 : Int) ≤ a ∧ a ≤ (60 : Int)) = true → True ∧ (decide ((0 : Int) ≤ p ∧ p ≤ (23 : Int)) = true → True ∧ ((!decide ((1 : Int) ≤ c ∧ c ≤ (8 : Int))) = false → True ∧ ((!decide ((0 : Int) ≤ q ∧ q ≤ (0 : Int))) = false → (decide (q = e) = true → ((41 : Int), ()) = (ckF (r, e, a, p, c, q), ())) ∧ (decide (q = e) = false → ((0 : Int), ()) = (ckF (r, e, a, p, c, q), ()))) ∧ ((!decide ((0 : Int) ≤ q ∧ q ≤ (0 : Int))) = !false → ((41 : Int), ()) = (ckF (r, e, a, p, c, q), ()))) ∧ ((!decide ((1 : Int) ≤ c ∧ c ≤ (8 : Int))) = !false → ((41 : Int), ()) = (ckF (r, e, a, p, c, q), ()))) ∧ (decide ((0 : Int) ≤ p ∧ p ≤ (23 : Int)) = !true → ((41 : Int), ()) = (ckF (r, e, a, p, c, q), ()))) ∧ (decide ((1 : Int) ≤ a ∧ a ≤ (60 : Int)) = !true → ((41 : Int), ()) = (ckF (r, e, a, p, c, q), ()))) ∧ (decide ((1 : Int) ≤ e ∧ e ≤ (40 : Int)) = !true → ((41 : Int), ()) = (ckF (r, e, a, p, c, q), ()))) ∧ (decide ((1 : Int) ≤ r ∧ r ≤ (7 : Int)) = !true → ((41 : Int), ()) = (ckF (r, e, a, p, c, q), ()))))) ∧ (decide (r = (1 : Int)) = !false → (decide (r ≤ (3 : Int)) = true → True ∧ (decide ((1 : Int) ≤ r ∧ r ≤ (7 : Int)) = true → True ∧ (decide ((1 : Int) ≤ e ∧ e ≤ (40 : Int)) = true → True ∧ (decide ((1 : Int) ≤ a ∧ a ≤ (60 : Int)) = true → True ∧ (decide ((0 : Int) ≤ p ∧ p ≤ (23 : Int)) = true → True ∧ ((!decide ((0 : Int) ≤ c ∧ c ≤ (0 : Int))) = false → True ∧ ((!decide ((0 : Int) ≤ q ∧ q ≤ (40 : Int))) = false → (decide (q = e) = true → ((41 : Int), ()) = (ckF (r, e, a, p, c, q), ())) ∧ (decide (q = e) = false → ((0 : Int), ()) = (ckF (r, e, a, p, c, q), ()))) ∧ ((!decide ((0 : Int) ≤ q ∧ q ≤ (40 : Int))) = !false → ((41 : Int), ()) = (ckF (r, e, a, p, c, q), ()))) ∧ ((!decide ((0 : Int) ≤ c ∧ c ≤ (0 : Int))) = !false → ((41 : Int), ()) = (ckF (r, e, a, p, c, q), ()))) ∧ (decide ((0 : Int) ≤ p ∧ p ≤ (23 : Int)) = !true → ((41 : Int), ()) = (ckF (r, e, a, p, c, q), ()))) ∧ (decide ((1 : Int) ≤ a ∧ a ≤ (60 : Int)) = !true → ((41 : Int), ()) = (ckF (r, e, a, p, c, q), ()))) ∧ (decide ((1 : Int) ≤ e ∧ e ≤ (40 : Int)) = !true → ((41 : Int), ()) = (ckF (r, e, a, p, c, q), ()))) ∧ (decide ((1 : Int) ≤ r ∧ r ≤ (7 : Int)) = !true → ((41 : Int), ()) = (ckF (r, e, a, p, c, q), ()))) ∧ (decide (r ≤ (3 : Int)) = false → True ∧ (decide ((1 : Int) ≤ r ∧ r ≤ (7 : Int)) = true → True ∧ (decide ((1 : Int) ≤ e ∧ e ≤ (40 : Int)) = true → True ∧ (decide ((1 : Int) ≤ a ∧ a ≤ (60 : Int)) = true → True ∧ (decide ((0 : Int) ≤ p ∧ p ≤ (23 : Int)) = true → True ∧ ((!decide ((0 : Int) ≤ c ∧ c ≤ (0 : Int))) = false → True ∧ ((!decide ((0 : Int) ≤ q ∧ q ≤ (0 : Int))) = false → (decide (q = e) = true → ((41 : Int), ()) = (ckF (r, e, a, p, c, q), ())) ∧ (decide (q = e) = false → ((0 : Int), ()) = (ckF (r, e, a, p, c, q), ()))) ∧ ((!decide ((0 : Int) ≤ q ∧ q ≤ (0 : Int))) = !false → ((41 : Int), ()) = (ckF (r, e, a, p, c, q), ()))) ∧ ((!decide ((0 : Int) ≤ c ∧ c ≤ (0 : Int))) = !false → ((41 : Int), ()) = (ckF (r, e, a, p, c, q), ()))) ∧ (decide ((0 : Int) ≤ p ∧ p ≤ (23 : Int)) = !true → ((41 : Int), ()) = (ckF (r, e, a, p, c, q), ()))) ∧ (decide ((1 : Int) ≤ a ∧ a ≤ (60 : Int)) = !true → ((41 : Int), ()) = (ckF (r, e, a, p, c, q), ()))) ∧ (decide ((1 : Int) ≤ e ∧ e ≤ (40 : Int)) = !true → ((41 : Int), ()) = (ckF (r, e, a, p, c, q), ()))) ∧ (decide ((1 : Int) ≤ r ∧ r ≤ (7 : Int)) = !true → ((41 : Int), ()) = (ckF (r, e, a, p, c, q), ()))))
theorem g_check_eq (r e a p c q : Int) : g_check r e a p c q = g_check_vc r e a p c q := by kernel_rfl
theorem g_check_ok (r e a p c q : Int) : g_check_vc r e a p c q := by
  unfold g_check_vc
  simp only [decide_eq_true_eq, decide_eq_false_iff_not, Bool.not_eq_true', Bool.not_eq_false', Bool.not_true, Bool.not_false]
  repeat' (first | with_reducible apply And.intro | intro _)
  all_goals try (first | trivial | rfl | omega)
  all_goals (refine Prod.ext ?_ rfl; show _ = ckF _; unfold ckF; first | rw [if_pos (show okC _ by unfold okC; dsimp only; omega)] | rw [if_neg (show ¬ okC _ by unfold okC; dsimp only; omega)])
set_option maxRecDepth 20000 in
theorem check_pure (r e a p c q : Int) : Pure Tryd.prog 7 [.agg [.int .i64 r, .int .i64 e, .int .i64 a, .int .i64 p, .int .i64 c, .int .i64 q]] (.int .i64 (ckF (r, e, a, p, c, q))) :=
  Pure.of_g (E := env_check r e a p c q) (ts := tsOf Tryd.f7) (ps := [.int .i64]) (r := (ckF (r, e, a, p, c, q), ())) (fn := Tryd.f7) (c := codeOf Tryd.f7) (specs_ok (P := Tryd.prog) rfl [sp_within] [] rfl rfl) mixed Tryd.func7 rfl rfl (g := g_check r e a p c q) (by delta g_check start0; first | with_reducible exact Eq.refl _ | exact Eq.refl _) (by rw [g_check_eq r e a p c q]; exact g_check_ok r e a p c q)
noncomputable def q_check (r e a p c q : Int) : Prop × V := (True, (.int .i64 (ckF (r, e, a, p, c, q))))
noncomputable def sp_check : FSpec Tryd.prog where
  f := 7
  run := fun args => match args with
    | [.agg [.int .i64 r, .int .i64 e, .int .i64 a, .int .i64 p, .int .i64 c, .int .i64 q]] => some (q_check r e a p c q)
    | _ => none
  ok := fun args pre r h hp => by
    try dsimp only at h
    split at h
    · rename_i r e a p c q
      have h := Option.some.inj h
      unfold q_check at h
      cases h
      exact (check_pure r e a p c q).weak (.cons (Weak.refl _) .nil)
    · cases h

noncomputable def env_rcheck (r e a p c q : Int) : Env where
  P := Tryd.prog
  ty := tys0
noncomputable def g_rcheck (r e a p c q : Int) : Prop := vc (env_rcheck r e a p c q) (codeOf Tryd.f8) (start0 Tryd.f8 [.agg [.int .i64 r, .int .i64 e, .int .i64 a, .int .i64 p, .int .i64 c, .int .i64 q]]) (exitK (tsOf Tryd.f8) [.int .i64] (ckF (r, e, a, p, c, q), ()))
def g_rcheck_vc (r : Int) (e : Int) (a : Int) (p : Int) (c : Int) (q : Int) : Prop :=
  (decide (r < (1 : Int)) = false → (decide ((7 : Int) < r) = false → (decide (e < (1 : Int)) = false → (decide ((40 : Int) < e) = false → (decide (a < (1 : Int)) = false → (decide ((60 : Int) < a) = false → (decide (p < (0 : Int)) = false → (decide ((23 : Int) < p) = true → ((41 : Int), ()) = (ckF (r, e, a, p, c, q), ())) ∧ (decide ((23 : Int) < p) = false → (decide (r ≤ (2 : Int)) = true → ((!decide (c = (0 : Int))) = false → (decide ((2 : Int) < r) = true → (decide (c < (1 : Int)) = false → (decide ((8 : Int) < c) = true → ((41 : Int), ()) = (ckF (r, e, a, p, c, q), ())) ∧ (decide ((8 : Int) < c) = false → (decide ((3 : Int) < r) = true → ((!decide (q = (0 : Int))) = false → (decide (q < (0 : Int)) = false → (decide ((40 : Int) < q) = false → (decide (q = e) = true → ((41 : Int), ()) = (ckF (r, e, a, p, c, q), ())) ∧ (decide (q = e) = false → ((0 : Int), ()) = (ckF (r, e, a, p, c, q), ()))) ∧ (decide ((40 : Int) < q) = !false → ((41 : Int), ()) = (ckF (r, e, a, p, c, q), ()))) ∧ (decide (q < (0 : Int)) = !false → ((41 : Int), ()) = (ckF (r, e, a, p, c, q), ()))) ∧ ((!decide (q = (0 : Int))) = !false → ((41 : Int), ()) = (ckF (r, e, a, p, c, q), ()))) ∧ (decide ((3 : Int) < r) = !true → (decide (q < (0 : Int)) = false → (decide ((40 : Int) < q) = false → (decide (q = e) = true → ((41 : Int), ()) = (ckF (r, e, a, p, c, q), ())) ∧ (decide (q = e) = false → ((0 : Int), ()) = (ckF (r, e, a, p, c, q), ()))) ∧ (decide ((40 : Int) < q) = !false → ((41 : Int), ()) = (ckF (r, e, a, p, c, q), ()))) ∧ (decide (q < (0 : Int)) = !false → ((41 : Int), ()) = (ckF (r, e, a, p, c, q), ()))))) ∧ (decide (c < (1 : Int)) = !false → ((41 : Int), ()) = (ckF (r, e, a, p, c, q), ()))) ∧ (decide ((2 : Int) < r) = !true → (decide ((3 : Int) < r) = true → ((!decide (q = (0 : Int))) = false → (decide (q < (0 : Int)) = false → (decide ((40 : Int) < q) = false → (decide (q = e) = true → ((41 : Int), ()) = (ckF (r, e, a, p, c, q), ())) ∧ (decide (q = e) = false → ((0 : Int), ()) = (ckF (r, e, a, p, c, q), ()))) ∧ (decide ((40 : Int) < q) = !false → ((41 : Int), ()) = (ckF (r, e, a, p, c, q), ()))) ∧ (decide (q < (0 : Int)) = !false → ((41 : Int), ()) = (ckF (r, e, a, p, c, q), ()))) ∧ ((!decide (q = (0 : Int))) = !false → ((41 : Int), ()) = (ckF (r, e, a, p, c, q), ()))) ∧ (decide ((3 : Int) < r) = !true → (decide (q < (0 : Int)) = false → (decide ((40 : Int) < q) = false → (decide (q = e) = true → ((41 : Int), ()) = (ckF (r, e, a, p, c, q), ())) ∧ (decide (q = e) = false → ((0 : Int), ()) = (ckF (r, e, a, p, c, q), ()))) ∧ (decide ((40 : Int) < q) = !false → ((41 : Int), ()) = (ckF (r, e, a, p, c, q), ()))) ∧ (decide (q < (0 : Int)) = !false → ((41 : Int), ()) = (ckF (r, e, a, p, c, q), ()))))) ∧ ((!decide (c = (0 : Int))) = !false → ((41 : Int), ()) = (ckF (r, e, a, p, c, q), ()))) ∧ (decide (r ≤ (2 : Int)) = !true → (decide ((2 : Int) < r) = true → (decide (c < (1 : Int)) = false → (decide ((8 : Int) < c) = true → ((41 : Int), ()) = (ckF (r, e, a, p, c, q), ())) ∧ (decide ((8 : Int) < c) = false → (decide ((3 : Int) < r) = true → ((!decide (q = (0 : Int))) = false → (decide (q < (0 : Int)) = false → (decide ((40 : Int) < q) = false → (decide (q = e) = true → ((41 : Int), ()) = (ckF (r, e, a, p, c, q), ())) ∧ (decide (q = e) = false → ((0 : Int), ()) = (ckF (r, e, a, p, c, q), ()))) ∧ (decide ((40 : Int) < q) = !false → ((41 : Int), ()) = (ckF (r, e, a, p, c, q), ()))) ∧ (decide (q < (0 : Int)) = !false → ((41 : Int), ()) = (ckF (r, e, a, p, c, q), ()))) ∧ ((!decide (q = (0 : Int))) = !false → ((41 : Int), ()) = (ckF (r, e, a, p, c, q), ()))) ∧ (decide ((3 : Int) < r) = !true → (decide (q < (0 : Int)) = false → (decide ((40 : Int) < q) = false → (decide (q = e) = true → ((41 : Int), ()) = (ckF (r, e, a, p, c, q), ())) ∧ (decide (q = e) = false → ((0 : Int), ()) = (ckF (r, e, a, p, c, q), ()))) ∧ (decide ((40 : Int) < q) = !false → ((41 : Int), ()) = (ckF (r, e, a, p, c, q), ()))) ∧ (decide (q < (0 : Int)) = !false → ((41 : Int), ()) = (ckF (r, e, a, p, c, q), ()))))) ∧ (decide (c < (1 : Int)) = !false → ((41 : Int), ()) = (ckF (r, e, a, p, c, q), ()))) ∧ (decide ((2 : Int) < r) = !true → (decide ((3 : Int) < r) = true → ((!decide (q = (0 : Int))) = false → (decide (q < (0 : Int)) = false → (decide ((40 : Int) < q) = false → (decide (q = e) = true → ((41 : Int), ()) = (ckF (r, e, a, p, c, q), ())) ∧ (decide (q = e) = false → ((0 : Int), ()) = (ckF (r, e, a, p, c, q), ()))) ∧ (decide ((40 : Int) < q) = !false → ((41 : Int), ()) = (ckF (r, e, a, p, c, q), ()))) ∧ (decide (q < (0 : Int)) = !false → ((41 : Int), ()) = (ckF (r, e, a, p, c, q), ()))) ∧ ((!decide (q = (0 : Int))) = !false → ((41 : Int), ()) = (ckF (r, e, a, p, c, q), ()))) ∧ (decide ((3 : Int) < r) = !true → (decide (q < (0 : Int)) = false → (decide ((40 : Int) < q) = false → (decide (q = e) = true → ((41 : Int), ()) = (ckF (r, e, a, p, c, q), ())) ∧ (decide (q = e) = false → ((0 : Int), ()) = (ckF (r, e, a, p, c, q), ()))) ∧ (decide ((40 : Int) < q) = !false → ((41 : Int), ()) = (ckF (r, e, a, p, c, q), ()))) ∧ (decide (q < (0 : Int)) = !false → ((41 : Int), ()) = (ckF (r, e, a, p, c, q), ()))))))) ∧ (decide (p < (0 : Int)) = !false → ((41 : Int), ()) = (ckF (r, e, a, p, c, q), ()))) ∧ (decide ((60 : Int) < a) = !false → ((41 : Int), ()) = (ckF (r, e, a, p, c, q), ()))) ∧ (decide (a < (1 : Int)) = !false → ((41 : Int), ()) = (ckF (r, e, a, p, c, q), ()))) ∧ (decide ((40 : Int) < e) = !false → ((41 : Int), ()) = (ckF (r, e, a, p, c, q), ()))) ∧ (decide (e < (1 : Int)) = !false → ((41 : Int), ()) = (ckF (r, e, a, p, c, q), ()))) ∧ (decide ((7 : Int) < r) = !false → ((41 : Int), ()) = (ckF (r, e, a, p, c, q), ()))) ∧ (decide (r < (1 : Int)) = !false → ((41 : Int), ()) = (ckF (r, e, a, p, c, q), ()))
theorem g_rcheck_eq (r e a p c q : Int) : g_rcheck r e a p c q = g_rcheck_vc r e a p c q := by kernel_rfl
theorem g_rcheck_ok (r e a p c q : Int) : g_rcheck_vc r e a p c q := by
  unfold g_rcheck_vc
  simp only [decide_eq_true_eq, decide_eq_false_iff_not, Bool.not_eq_true', Bool.not_eq_false', Bool.not_true, Bool.not_false]
  repeat' (first | with_reducible apply And.intro | intro _)
  all_goals try (first | trivial | rfl | omega)
  all_goals (refine Prod.ext ?_ rfl; show _ = ckF _; unfold ckF; first | rw [if_pos (show okC _ by unfold okC; dsimp only; omega)] | rw [if_neg (show ¬ okC _ by unfold okC; dsimp only; omega)])
set_option maxRecDepth 20000 in
theorem rcheck_pure (r e a p c q : Int) : Pure Tryd.prog 8 [.agg [.int .i64 r, .int .i64 e, .int .i64 a, .int .i64 p, .int .i64 c, .int .i64 q]] (.int .i64 (ckF (r, e, a, p, c, q))) :=
  Pure.of_g (E := env_rcheck r e a p c q) (ts := tsOf Tryd.f8) (ps := [.int .i64]) (r := (ckF (r, e, a, p, c, q), ())) (fn := Tryd.f8) (c := codeOf Tryd.f8) (specs_ok (P := Tryd.prog) rfl [] [] rfl rfl) mixed Tryd.func8 rfl rfl (g := g_rcheck r e a p c q) (by delta g_rcheck start0; first | with_reducible exact Eq.refl _ | exact Eq.refl _) (by rw [g_rcheck_eq r e a p c q]; exact g_rcheck_ok r e a p c q)
noncomputable def q_rcheck (r e a p c q : Int) : Prop × V := (True, (.int .i64 (ckF (r, e, a, p, c, q))))
noncomputable def sp_rcheck : FSpec Tryd.prog where
  f := 8
  run := fun args => match args with
    | [.agg [.int .i64 r, .int .i64 e, .int .i64 a, .int .i64 p, .int .i64 c, .int .i64 q]] => some (q_rcheck r e a p c q)
    | _ => none
  ok := fun args pre r h hp => by
    try dsimp only at h
    split at h
    · rename_i r e a p c q
      have h := Option.some.inj h
      unfold q_rcheck at h
      cases h
      exact (rcheck_pure r e a p c q).weak (.cons (Weak.refl _) .nil)
    · cases h

noncomputable def env_cin (r e a p c q n m : Int) : Env where
  P := Tryd.prog
  ty := tys0
  specs := specsOf [sp_check]
noncomputable def g_cin (r e a p c q n m : Int) : Prop := vc (env_cin r e a p c q n m) (codeOf Tryd.f9) (start0 Tryd.f9 [.agg [.int .i64 r, .int .i64 e, .int .i64 a, .int .i64 p, .int .i64 c, .int .i64 q], .int .i64 n, .int .i64 m]) (exitK (tsOf Tryd.f9) [.int .i64] (inF (r, e, a, p, c, q) n m, ()))
def g_cin_vc (r : Int) (e : Int) (a : Int) (p : Int) (c : Int) (q : Int) (n : Int) (m : Int) : Prop :=
  True ∧ ((!decide (ckF (r, e, a, p, c, q) = (0 : Int))) = true → (ckF (r, e, a, p, c, q), ()) = (inF (r, e, a, p, c, q) n m, ())) ∧ ((!decide (ckF (r, e, a, p, c, q) = (0 : Int))) = false → (decide (n < mmI true e q) = true → ((20 : Int), ()) = (inF (r, e, a, p, c, q) n m, ())) ∧ (decide (n < mmI true e q) = false → (decide (m < a) = true → ((21 : Int), ()) = (inF (r, e, a, p, c, q) n m, ())) ∧ (decide (m < a) = false → ((0 : Int), ()) = (inF (r, e, a, p, c, q) n m, ()))))
theorem g_cin_eq (r e a p c q n m : Int) : g_cin r e a p c q n m = g_cin_vc r e a p c q n m := by kernel_rfl
theorem g_cin_ok (r e a p c q n m : Int) : g_cin_vc r e a p c q n m := by
  unfold g_cin_vc
  have hm : n < mmI true e q ↔ (e > n ∨ q > n) := by
    show n < (if e < q then q else e) ↔ _
    split <;> omega
  simp only [decide_eq_true_eq, decide_eq_false_iff_not, Bool.not_eq_true', Bool.not_eq_false', Bool.not_true, Bool.not_false, hm]
  repeat' (first | with_reducible apply And.intro | intro _)
  all_goals try (first | trivial | rfl | omega)
  all_goals (refine Prod.ext ?_ rfl; show _ = inF _ _ _; unfold inF; unfold ckF at *; dsimp only; repeat' split)
  all_goals (first | rfl | omega | (exfalso; simp_all; done) | (simp_all; omega))
set_option maxRecDepth 20000 in
theorem cin_pure (r e a p c q n m : Int) : Pure Tryd.prog 9 [.agg [.int .i64 r, .int .i64 e, .int .i64 a, .int .i64 p, .int .i64 c, .int .i64 q], .int .i64 n, .int .i64 m] (.int .i64 (inF (r, e, a, p, c, q) n m)) :=
  Pure.of_g (E := env_cin r e a p c q n m) (ts := tsOf Tryd.f9) (ps := [.int .i64]) (r := (inF (r, e, a, p, c, q) n m, ())) (fn := Tryd.f9) (c := codeOf Tryd.f9) (specs_ok (P := Tryd.prog) rfl [sp_check] [] rfl rfl) mixed Tryd.func9 rfl rfl (g := g_cin r e a p c q n m) (by delta g_cin start0; first | with_reducible exact Eq.refl _ | exact Eq.refl _) (by rw [g_cin_eq r e a p c q n m]; exact g_cin_ok r e a p c q n m)
noncomputable def q_cin (r e a p c q n m : Int) : Prop × V := (True, (.int .i64 (inF (r, e, a, p, c, q) n m)))
noncomputable def sp_cin : FSpec Tryd.prog where
  f := 9
  run := fun args => match args with
    | [.agg [.int .i64 r, .int .i64 e, .int .i64 a, .int .i64 p, .int .i64 c, .int .i64 q], .int .i64 n, .int .i64 m] => some (q_cin r e a p c q n m)
    | _ => none
  ok := fun args pre r h hp => by
    try dsimp only at h
    split at h
    · rename_i r e a p c q n m
      have h := Option.some.inj h
      unfold q_cin at h
      cases h
      exact (cin_pure r e a p c q n m).weak (.cons (Weak.refl _) (.cons (Weak.refl _) (.cons (Weak.refl _) .nil)))
    · cases h

noncomputable def env_rcin (r e a p c q n m : Int) : Env where
  P := Tryd.prog
  ty := tys0
  specs := specsOf [sp_rcheck]
noncomputable def g_rcin (r e a p c q n m : Int) : Prop := vc (env_rcin r e a p c q n m) (codeOf Tryd.f10) (start0 Tryd.f10 [.agg [.int .i64 r, .int .i64 e, .int .i64 a, .int .i64 p, .int .i64 c, .int .i64 q], .int .i64 n, .int .i64 m]) (exitK (tsOf Tryd.f10) [.int .i64] (inF (r, e, a, p, c, q) n m, ()))
def g_rcin_vc (r : Int) (e : Int) (a : Int) (p : Int) (c : Int) (q : Int) (n : Int) (m : Int) : Prop :=
  True ∧ ((!decide (ckF (r, e, a, p, c, q) = (0 : Int))) = true → ((41 : Int), ()) = (inF (r, e, a, p, c, q) n m, ())) ∧ ((!decide (ckF (r, e, a, p, c, q) = (0 : Int))) = false → (decide (n < e) = false → (decide (n < q) = true → ((20 : Int), ()) = (inF (r, e, a, p, c, q) n m, ())) ∧ (decide (n < q) = false → (decide (m < a) = true → ((21 : Int), ()) = (inF (r, e, a, p, c, q) n m, ())) ∧ (decide (m < a) = false → ((0 : Int), ()) = (inF (r, e, a, p, c, q) n m, ())))) ∧ (decide (n < e) = !false → ((20 : Int), ()) = (inF (r, e, a, p, c, q) n m, ())))
theorem g_rcin_eq (r e a p c q n m : Int) : g_rcin r e a p c q n m = g_rcin_vc r e a p c q n m := by kernel_rfl
theorem g_rcin_ok (r e a p c q n m : Int) : g_rcin_vc r e a p c q n m := by
  unfold g_rcin_vc
  simp only [decide_eq_true_eq, decide_eq_false_iff_not, Bool.not_eq_true', Bool.not_eq_false', Bool.not_true, Bool.not_false]
  repeat' (first | with_reducible apply And.intro | intro _)
  all_goals try (first | trivial | rfl | omega)
  all_goals (refine Prod.ext ?_ rfl; show _ = inF _ _ _; unfold inF; unfold ckF at *; dsimp only; repeat' split)
  all_goals (first | rfl | omega | (exfalso; simp_all; done) | (simp_all; omega))
set_option maxRecDepth 20000 in
theorem rcin_pure (r e a p c q n m : Int) : Pure Tryd.prog 10 [.agg [.int .i64 r, .int .i64 e, .int .i64 a, .int .i64 p, .int .i64 c, .int .i64 q], .int .i64 n, .int .i64 m] (.int .i64 (inF (r, e, a, p, c, q) n m)) :=
  Pure.of_g (E := env_rcin r e a p c q n m) (ts := tsOf Tryd.f10) (ps := [.int .i64]) (r := (inF (r, e, a, p, c, q) n m, ())) (fn := Tryd.f10) (c := codeOf Tryd.f10) (specs_ok (P := Tryd.prog) rfl [sp_rcheck] [] rfl rfl) mixed Tryd.func10 rfl rfl (g := g_rcin r e a p c q n m) (by delta g_rcin start0; first | with_reducible exact Eq.refl _ | exact Eq.refl _) (by rw [g_rcin_eq r e a p c q n m]; exact g_rcin_ok r e a p c q n m)
noncomputable def q_rcin (r e a p c q n m : Int) : Prop × V := (True, (.int .i64 (inF (r, e, a, p, c, q) n m)))
noncomputable def sp_rcin : FSpec Tryd.prog where
  f := 10
  run := fun args => match args with
    | [.agg [.int .i64 r, .int .i64 e, .int .i64 a, .int .i64 p, .int .i64 c, .int .i64 q], .int .i64 n, .int .i64 m] => some (q_rcin r e a p c q n m)
    | _ => none
  ok := fun args pre r h hp => by
    try dsimp only at h
    split at h
    · rename_i r e a p c q n m
      have h := Option.some.inj h
      unfold q_rcin at h
      cases h
      exact (rcin_pure r e a p c q n m).weak (.cons (Weak.refl _) (.cons (Weak.refl _) (.cons (Weak.refl _) .nil)))
    · cases h

/-! Which of two stands ahead. -/
noncomputable def env_isnan (x : Int) : Env where
  P := Tryd.prog
  ty := tys0
noncomputable def g_isnan (x : Int) : Prop := vc (env_isnan x) (codeOf Tryd.f41) (start0 Tryd.f41 [.int .i64 x]) (exitK (tsOf Tryd.f41) [.bool] (false, ()))
def g_isnan_vc (x : Int) : Prop :=
  (!decide (x = x), ()) = (false, ())
theorem g_isnan_eq (x : Int) : g_isnan x = g_isnan_vc x := by kernel_rfl
theorem g_isnan_ok (x : Int) : g_isnan_vc x := by
  unfold g_isnan_vc
  simp
set_option maxRecDepth 20000 in
theorem isnan_pure (x : Int) : Pure Tryd.prog 41 [.int .i64 x] (.bool false) :=
  Pure.of_g (E := env_isnan x) (ts := tsOf Tryd.f41) (ps := [.bool]) (r := (false, ())) (fn := Tryd.f41) (c := codeOf Tryd.f41) (specs_ok (P := Tryd.prog) rfl [] [] rfl rfl) mixed Tryd.func41 rfl rfl (g := g_isnan x) (by delta g_isnan start0; first | with_reducible exact Eq.refl _ | exact Eq.refl _) (by rw [g_isnan_eq x]; exact g_isnan_ok x)
noncomputable def q_isnan (x : Int) : Prop × V := (True, (.bool false))
noncomputable def sp_isnan : FSpec Tryd.prog where
  f := 41
  run := fun args => match args with
    | [.int .i64 x] => some (q_isnan x)
    | _ => none
  ok := fun args pre r h hp => by
    try dsimp only at h
    split at h
    · rename_i x
      have h := Option.some.inj h
      unfold q_isnan at h
      cases h
      exact (isnan_pure x).weak (.cons (Weak.refl _) .nil)
    · cases h
def cmpI (x y : Int) : Int := if x < y then -1 else if y < x then 1 else 0
noncomputable def env_ccmp (x y : Int) : Env where
  P := Tryd.prog
  ty := tys0
  specs := specsOf [sp_isnan]
noncomputable def g_ccmp (x y : Int) : Prop := vc (env_ccmp x y) (codeOf Tryd.f34) (start0 Tryd.f34 [.int .i64 x, .int .i64 y]) (exitK (tsOf Tryd.f34) [.int .i64] (cmpI x y, ()))
def g_ccmp_vc (x : Int) (y : Int) : Prop :=
  True ∧ True ∧ (false = true → (false = true → ((0 : Int), ()) = (cmpI x y, ())) ∧ (false = false → ((-1 : Int), ()) = (cmpI x y, ()))) ∧ (false = false → (false = true → ((1 : Int), ()) = (cmpI x y, ())) ∧ (false = false → (decide (x < y) = true → ((-1 : Int), ()) = (cmpI x y, ())) ∧ (decide (x < y) = false → (decide (y < x) = true → ((1 : Int), ()) = (cmpI x y, ())) ∧ (decide (y < x) = false → ((0 : Int), ()) = (cmpI x y, ())))))
theorem g_ccmp_eq (x y : Int) : g_ccmp x y = g_ccmp_vc x y := by kernel_rfl
theorem g_ccmp_ok (x y : Int) : g_ccmp_vc x y := by
  unfold g_ccmp_vc cmpI
  simp only [decide_eq_true_eq, decide_eq_false_iff_not, Bool.not_eq_true', Bool.not_eq_false', Bool.not_true, Bool.not_false]
  repeat' (first | with_reducible apply And.intro | intro _)
  all_goals try (first | trivial | rfl | omega)
  all_goals (refine Prod.ext ?_ rfl; show _ = (ite _ _ _ : Int); repeat' split)
  all_goals (first | rfl | omega)
set_option maxRecDepth 20000 in
theorem ccmp_pure (x y : Int) : Pure Tryd.prog 34 [.int .i64 x, .int .i64 y] (.int .i64 (cmpI x y)) :=
  Pure.of_g (E := env_ccmp x y) (ts := tsOf Tryd.f34) (ps := [.int .i64]) (r := (cmpI x y, ())) (fn := Tryd.f34) (c := codeOf Tryd.f34) (specs_ok (P := Tryd.prog) rfl [sp_isnan] [] rfl rfl) mixed Tryd.func34 rfl rfl (g := g_ccmp x y) (by delta g_ccmp start0; first | with_reducible exact Eq.refl _ | exact Eq.refl _) (by rw [g_ccmp_eq x y]; exact g_ccmp_ok x y)
noncomputable def q_ccmp (x y : Int) : Prop × V := (True, (.int .i64 (cmpI x y)))
noncomputable def sp_ccmp : FSpec Tryd.prog where
  f := 34
  run := fun args => match args with
    | [.int .i64 x, .int .i64 y] => some (q_ccmp x y)
    | _ => none
  ok := fun args pre r h hp => by
    try dsimp only at h
    split at h
    · rename_i x y
      have h := Option.some.inj h
      unfold q_ccmp at h
      cases h
      exact (ccmp_pure x y).weak (.cons (Weak.refl _) (.cons (Weak.refl _) .nil))
    · cases h

/-- The first that is not nothing. -/
def orL : List Int → Int
  | [] => 0
  | x :: r => if x = 0 then orL r else x
theorem orL_at {l : List Int} {i : Nat} {x : Int} (h : l[i]? = some x) : orL (l.drop i) = if x = 0 then orL (l.drop (i + 1)) else x := by
  obtain ⟨h1, h2⟩ := List.getElem?_eq_some_iff.1 h
  rw [List.drop_eq_getElem_cons h1, h2]
  rfl
noncomputable def env_cor (l : List Int) : Env where
  P := Tryd.prog
  ty := tys0
  heads := fun
    | 3 => some { slots := [(5, .any), (8, .int .i64)], boxes := [], keep := [], inv := fun _ (x : Unit × Int × Unit) => 0 ≤ x.2.1 ∧ x.2.1 ≤ l.length ∧ orL l = orL (l.drop x.2.1.toNat), measure := fun _ (x : Unit × Int × Unit) => (l.length - x.2.1).toNat }
    | _ => none
noncomputable def g_cor (l : List Int) : Prop := vc (env_cor l) (codeOf Tryd.f33) (start0 Tryd.f33 [.list .tmp I l]) (exitK (tsOf Tryd.f33) [.int .i64] (orL l, ()))
def g_cor_vc (l : List Int) : Prop :=
  (True ∧ (0 : Int) ≤ (0 : Int) ∧ (0 : Int) ≤ (↑l.length : Int) ∧ orL l = orL (List.drop (Int.toNat (0 : Int)) l)) ∧ ∀ (x : Unit × Int × Unit), (0 : Int) ≤ x.snd.fst ∧ x.snd.fst ≤ (↑l.length : Int) ∧ orL l = orL (List.drop x.snd.fst.toNat l) → (decide (x.snd.fst < (↑l.length : Int)) = true → ((0 : Int) ≤ x.snd.fst ∧ x.snd.fst < (↑l.length : Int)) ∧ ∀ (x_1 : Int), l[x.snd.fst.toNat]? = some x_1 → ((!decide (x_1 = (0 : Int))) = true → (x_1, ()) = (orL l, ())) ∧ ((!decide (x_1 = (0 : Int))) = false → ((-9223372036854775808 : Int) ≤ x.snd.fst + (1 : Int) ∧ x.snd.fst + (1 : Int) ≤ (9223372036854775807 : Int)) ∧ True ∧ ((0 : Int) ≤ x.snd.fst + (1 : Int) ∧ x.snd.fst + (1 : Int) ≤ (↑l.length : Int) ∧ orL l = orL (List.drop (x.snd.fst + (1 : Int)).toNat l)) ∧ ((↑l.length : Int) - (x.snd.fst + (1 : Int))).toNat < ((↑l.length : Int) - x.snd.fst).toNat)) ∧ (decide (x.snd.fst < (↑l.length : Int)) = false → ((0 : Int), ()) = (orL l, ()))
theorem g_cor_eq (l : List Int) : g_cor l = g_cor_vc l := by kernel_rfl
theorem g_cor_ok (l : List Int) (h : l.length ≤ 1000000) : g_cor_vc l := by
  unfold g_cor_vc
  simp only [decide_eq_true_eq, decide_eq_false_iff_not, Bool.not_eq_true', Bool.not_eq_false', Bool.not_true, Bool.not_false]
  repeat' (first | with_reducible apply And.intro | (intro (x : Unit × Int × Unit); obtain ⟨⟨⟩, i, ⟨⟩⟩ := x; rintro ⟨h0, h1, h2⟩; dsimp only at h0 h1 h2 ⊢) | intro _)
  all_goals try (first | trivial | rfl | omega)
  · rename_i c x hx e
    rw [h2, orL_at hx, if_neg e]
  · rename_i c x hx e
    rw [h2, orL_at hx, if_pos e, show (i + 1).toNat = i.toNat + 1 by omega]
  · rename_i c
    rw [h2, List.drop_of_length_le (by omega)]
    rfl
set_option maxRecDepth 20000 in
theorem cor_pure (l : List Int) (h : l.length ≤ 1000000) : Pure Tryd.prog 33 [.list .tmp I l] (.int .i64 (orL l)) :=
  Pure.of_g (E := env_cor l) (ts := tsOf Tryd.f33) (ps := [.int .i64]) (r := (orL l, ())) (fn := Tryd.f33) (c := codeOf Tryd.f33) (specs_ok (P := Tryd.prog) rfl [] [] rfl rfl) mixed Tryd.func33 rfl rfl (g := g_cor l) (by delta g_cor start0; first | with_reducible exact Eq.refl _ | exact Eq.refl _) (by rw [g_cor_eq l]; exact g_cor_ok l h)
noncomputable def q_cor (l : List Int) : Prop × V := (l.length ≤ 1000000, (.int .i64 (orL l)))
noncomputable def sp_cor : FSpec Tryd.prog where
  f := 33
  run := fun args => match args with
    | [v0] => (match (asL I v0 : Option (List Int)) with | some l => some (q_cor l) | none => none)
    | _ => none
  ok := fun args pre r h hp => by
    try dsimp only at h
    split at h
    · rename_i v0
      cases h0 : (asL I v0 : Option (List Int)) with
      | none => rw [h0] at h; cases h
      | some l =>
      rw [h0] at h
      try dsimp only at h
      have h := Option.some.inj h
      unfold q_cor at h
      cases h
      exact (cor_pure l hp).weak (.cons (asL_weak h0) .nil)
    · cases h

def flds (c : CeD) : List Int := [c.1, c.2.1, c.2.2.1, c.2.2.2.1, c.2.2.2.2.1, c.2.2.2.2.2]
def cmpC (x y : CeD) : Int := orL [cmpI x.1 y.1, cmpI x.2.1 y.2.1, cmpI x.2.2.1 y.2.2.1, cmpI x.2.2.2.1 y.2.2.2.1, cmpI x.2.2.2.2.1 y.2.2.2.2.1, cmpI x.2.2.2.2.2 y.2.2.2.2.2]
def lexL : List Int → List Int → Bool
  | x :: r, y :: s => if x = y then lexL r s else decide (x < y)
  | _, _ => false
def lessF (x y : CeD) : Bool := lexL (flds x) (flds y)
theorem cmpI_neg (x y : Int) : cmpI x y < 0 ↔ x < y := by unfold cmpI; split <;> (try split) <;> omega
theorem cmpI_zero (x y : Int) : cmpI x y = 0 ↔ x = y := by unfold cmpI; split <;> (try split) <;> omega
theorem cmpC_less (x y : CeD) : decide (cmpC x y < 0) = lessF x y := by
  unfold cmpC lessF flds
  simp only [orL, lexL, cmpI_zero]
  repeat' split
  all_goals simp [cmpI_neg]
noncomputable def env_compare (r e a p c q r' e' a' p' c' q' : Int) : Env where
  P := Tryd.prog
  ty := tys0
  specs := specsOf [sp_ccmp, sp_cor]
noncomputable def g_compare (r e a p c q r' e' a' p' c' q' : Int) : Prop := vc (env_compare r e a p c q r' e' a' p' c' q') (codeOf Tryd.f21) (start0 Tryd.f21 [.agg [.int .i64 r, .int .i64 e, .int .i64 a, .int .i64 p, .int .i64 c, .int .i64 q], .agg [.int .i64 r', .int .i64 e', .int .i64 a', .int .i64 p', .int .i64 c', .int .i64 q']]) (exitK (tsOf Tryd.f21) [.int .i64] (cmpC (r, e, a, p, c, q) (r', e', a', p', c', q'), ()))
def g_compare_vc (r : Int) (e : Int) (a : Int) (p : Int) (c : Int) (q : Int) (r' : Int) (e' : Int) (a' : Int) (p' : Int) (c' : Int) (q' : Int) : Prop :=
  True ∧ True ∧ True ∧ True ∧ True ∧ True ∧ (6 : Nat) ≤ (1000000 : Nat) ∧ (orL [cmpI r r', cmpI e e', cmpI a a', cmpI p p', cmpI c c', cmpI q q'], ()) = (cmpC (r, e, a, p, c, q) (r', e', a', p', c', q'), ())
theorem g_compare_eq (r e a p c q r' e' a' p' c' q' : Int) : g_compare r e a p c q r' e' a' p' c' q' = g_compare_vc r e a p c q r' e' a' p' c' q' := by kernel_rfl
theorem g_compare_ok (r e a p c q r' e' a' p' c' q' : Int) : g_compare_vc r e a p c q r' e' a' p' c' q' := by
  unfold g_compare_vc
  repeat' (first | with_reducible apply And.intro | intro _)
  all_goals try (first | trivial | rfl | omega)
set_option maxRecDepth 20000 in
theorem compare_pure (r e a p c q r' e' a' p' c' q' : Int) : Pure Tryd.prog 21 [.agg [.int .i64 r, .int .i64 e, .int .i64 a, .int .i64 p, .int .i64 c, .int .i64 q], .agg [.int .i64 r', .int .i64 e', .int .i64 a', .int .i64 p', .int .i64 c', .int .i64 q']] (.int .i64 (cmpC (r, e, a, p, c, q) (r', e', a', p', c', q'))) :=
  Pure.of_g (E := env_compare r e a p c q r' e' a' p' c' q') (ts := tsOf Tryd.f21) (ps := [.int .i64]) (r := (cmpC (r, e, a, p, c, q) (r', e', a', p', c', q'), ())) (fn := Tryd.f21) (c := codeOf Tryd.f21) (specs_ok (P := Tryd.prog) rfl [sp_ccmp, sp_cor] [] rfl rfl) mixed Tryd.func21 rfl rfl (g := g_compare r e a p c q r' e' a' p' c' q') (by delta g_compare start0; first | with_reducible exact Eq.refl _ | exact Eq.refl _) (by rw [g_compare_eq r e a p c q r' e' a' p' c' q']; exact g_compare_ok r e a p c q r' e' a' p' c' q')
noncomputable def q_compare (r e a p c q r' e' a' p' c' q' : Int) : Prop × V := (True, (.int .i64 (cmpC (r, e, a, p, c, q) (r', e', a', p', c', q'))))
noncomputable def sp_compare : FSpec Tryd.prog where
  f := 21
  run := fun args => match args with
    | [.agg [.int .i64 r, .int .i64 e, .int .i64 a, .int .i64 p, .int .i64 c, .int .i64 q], .agg [.int .i64 r', .int .i64 e', .int .i64 a', .int .i64 p', .int .i64 c', .int .i64 q']] => some (q_compare r e a p c q r' e' a' p' c' q')
    | _ => none
  ok := fun args pre r h hp => by
    try dsimp only at h
    split at h
    · rename_i r e a p c q r' e' a' p' c' q'
      have h := Option.some.inj h
      unfold q_compare at h
      cases h
      exact (compare_pure r e a p c q _ _ _ _ _ _).weak (.cons (Weak.refl _) (.cons (Weak.refl _) .nil))
    · cases h
noncomputable def env_less (r e a p c q r' e' a' p' c' q' : Int) : Env where
  P := Tryd.prog
  ty := tys0
  specs := specsOf [sp_compare]
noncomputable def g_less (r e a p c q r' e' a' p' c' q' : Int) : Prop := vc (env_less r e a p c q r' e' a' p' c' q') (codeOf Tryd.f11) (start0 Tryd.f11 [.agg [.int .i64 r, .int .i64 e, .int .i64 a, .int .i64 p, .int .i64 c, .int .i64 q], .agg [.int .i64 r', .int .i64 e', .int .i64 a', .int .i64 p', .int .i64 c', .int .i64 q']]) (exitK (tsOf Tryd.f11) [.bool] (lessF (r, e, a, p, c, q) (r', e', a', p', c', q'), ()))
def g_less_vc (r : Int) (e : Int) (a : Int) (p : Int) (c : Int) (q : Int) (r' : Int) (e' : Int) (a' : Int) (p' : Int) (c' : Int) (q' : Int) : Prop :=
  True ∧ (decide (cmpC (r, e, a, p, c, q) (r', e', a', p', c', q') < (0 : Int)), ()) = (lessF (r, e, a, p, c, q) (r', e', a', p', c', q'), ())
theorem g_less_eq (r e a p c q r' e' a' p' c' q' : Int) : g_less r e a p c q r' e' a' p' c' q' = g_less_vc r e a p c q r' e' a' p' c' q' := by kernel_rfl
theorem g_less_ok (r e a p c q r' e' a' p' c' q' : Int) : g_less_vc r e a p c q r' e' a' p' c' q' := by
  unfold g_less_vc
  exact ⟨trivial, by rw [cmpC_less]⟩
set_option maxRecDepth 20000 in
theorem less_pure (r e a p c q r' e' a' p' c' q' : Int) : Pure Tryd.prog 11 [.agg [.int .i64 r, .int .i64 e, .int .i64 a, .int .i64 p, .int .i64 c, .int .i64 q], .agg [.int .i64 r', .int .i64 e', .int .i64 a', .int .i64 p', .int .i64 c', .int .i64 q']] (.bool (lessF (r, e, a, p, c, q) (r', e', a', p', c', q'))) :=
  Pure.of_g (E := env_less r e a p c q r' e' a' p' c' q') (ts := tsOf Tryd.f11) (ps := [.bool]) (r := (lessF (r, e, a, p, c, q) (r', e', a', p', c', q'), ())) (fn := Tryd.f11) (c := codeOf Tryd.f11) (specs_ok (P := Tryd.prog) rfl [sp_compare] [] rfl rfl) mixed Tryd.func11 rfl rfl (g := g_less r e a p c q r' e' a' p' c' q') (by delta g_less start0; first | with_reducible exact Eq.refl _ | exact Eq.refl _) (by rw [g_less_eq r e a p c q r' e' a' p' c' q']; exact g_less_ok r e a p c q r' e' a' p' c' q')
noncomputable def q_less (r e a p c q r' e' a' p' c' q' : Int) : Prop × V := (True, (.bool (lessF (r, e, a, p, c, q) (r', e', a', p', c', q'))))
noncomputable def sp_less : FSpec Tryd.prog where
  f := 11
  run := fun args => match args with
    | [.agg [.int .i64 r, .int .i64 e, .int .i64 a, .int .i64 p, .int .i64 c, .int .i64 q], .agg [.int .i64 r', .int .i64 e', .int .i64 a', .int .i64 p', .int .i64 c', .int .i64 q']] => some (q_less r e a p c q r' e' a' p' c' q')
    | _ => none
  ok := fun args pre r h hp => by
    try dsimp only at h
    split at h
    · rename_i r e a p c q r' e' a' p' c' q'
      have h := Option.some.inj h
      unfold q_less at h
      cases h
      exact (less_pure r e a p c q _ _ _ _ _ _).weak (.cons (Weak.refl _) (.cons (Weak.refl _) .nil))
    · cases h

noncomputable def env_fields (r e a p c q : Int) : Env where
  P := Tryd.prog
  ty := tys0
noncomputable def g_fields (r e a p c q : Int) : Prop := vc (env_fields r e a p c q) (codeOf Tryd.f22) (start0 Tryd.f22 [.agg [.int .i64 r, .int .i64 e, .int .i64 a, .int .i64 p, .int .i64 c, .int .i64 q]]) (exitK (tsOf Tryd.f22) [.list .part I] (flds (r, e, a, p, c, q), ()))
def g_fields_vc (r : Int) (e : Int) (a : Int) (p : Int) (c : Int) (q : Int) : Prop :=
  ([r, e, a, p, c, q], ()) = (flds (r, e, a, p, c, q), ())
theorem g_fields_eq (r e a p c q : Int) : g_fields r e a p c q = g_fields_vc r e a p c q := by kernel_rfl
theorem g_fields_ok (r e a p c q : Int) : g_fields_vc r e a p c q := by
  unfold g_fields_vc
  exact rfl
set_option maxRecDepth 20000 in
theorem fields_pure (r e a p c q : Int) : Pure Tryd.prog 22 [.agg [.int .i64 r, .int .i64 e, .int .i64 a, .int .i64 p, .int .i64 c, .int .i64 q]] (.list .part I (flds (r, e, a, p, c, q))) :=
  Pure.of_g (E := env_fields r e a p c q) (ts := tsOf Tryd.f22) (ps := [.list .part I]) (r := (flds (r, e, a, p, c, q), ())) (fn := Tryd.f22) (c := codeOf Tryd.f22) (specs_ok (P := Tryd.prog) rfl [] [] rfl rfl) mixed Tryd.func22 rfl rfl (g := g_fields r e a p c q) (by delta g_fields start0; first | with_reducible exact Eq.refl _ | exact Eq.refl _) (by rw [g_fields_eq r e a p c q]; exact g_fields_ok r e a p c q)
noncomputable def q_fields (r e a p c q : Int) : Prop × V := (True, (.list .part I (flds (r, e, a, p, c, q))))
noncomputable def sp_fields : FSpec Tryd.prog where
  f := 22
  run := fun args => match args with
    | [.agg [.int .i64 r, .int .i64 e, .int .i64 a, .int .i64 p, .int .i64 c, .int .i64 q]] => some (q_fields r e a p c q)
    | _ => none
  ok := fun args pre r h hp => by
    try dsimp only at h
    split at h
    · rename_i r e a p c q
      have h := Option.some.inj h
      unfold q_fields at h
      cases h
      exact (fields_pure r e a p c q).weak (.cons (Weak.refl _) .nil)
    · cases h
theorem lexL_at {l m : List Int} {i : Nat} {x y : Int} (h : l[i]? = some x) (k : m[i]? = some y) : lexL (l.drop i) (m.drop i) = if x = y then lexL (l.drop (i + 1)) (m.drop (i + 1)) else decide (x < y) := by
  obtain ⟨h1, h2⟩ := List.getElem?_eq_some_iff.1 h
  obtain ⟨k1, k2⟩ := List.getElem?_eq_some_iff.1 k
  rw [List.drop_eq_getElem_cons h1, h2, List.drop_eq_getElem_cons k1, k2]
  rfl
noncomputable def env_rless (r e a p c q r' e' a' p' c' q' : Int) : Env where
  P := Tryd.prog
  ty := tys0
  specs := specsOf [sp_fields]
  heads := fun
    | 3 => some { slots := [(7, .int .i64)], boxes := [], keep := [2, 3], inv := fun _ (x : Int × Unit) => 0 ≤ x.1 ∧ x.1 ≤ 6 ∧ lessF (r, e, a, p, c, q) (r', e', a', p', c', q') = lexL ((flds (r, e, a, p, c, q)).drop x.1.toNat) ((flds (r', e', a', p', c', q')).drop x.1.toNat), measure := fun _ (x : Int × Unit) => (6 - x.1).toNat }
    | _ => none
noncomputable def g_rless (r e a p c q r' e' a' p' c' q' : Int) : Prop := vc (env_rless r e a p c q r' e' a' p' c' q') (codeOf Tryd.f12) (start0 Tryd.f12 [.agg [.int .i64 r, .int .i64 e, .int .i64 a, .int .i64 p, .int .i64 c, .int .i64 q], .agg [.int .i64 r', .int .i64 e', .int .i64 a', .int .i64 p', .int .i64 c', .int .i64 q']]) (exitK (tsOf Tryd.f12) [.bool] (lessF (r, e, a, p, c, q) (r', e', a', p', c', q'), ()))
abbrev bx_rless_1 (r' : Int) (e' : Int) (a' : Int) (p' : Int) (c' : Int) (q' : Int) : _root_.Go.Vm.Obj := Obj.box [V.int IntKind.i64 r', V.int IntKind.i64 e', V.int IntKind.i64 a', V.int IntKind.i64 p', V.int IntKind.i64 c', V.int IntKind.i64 q']
abbrev bx_rless_2 (r : Int) (e : Int) (a : Int) (p : Int) (c : Int) (q : Int) : _root_.Go.Vm.Obj := Obj.box [V.int IntKind.i64 r, V.int IntKind.i64 e, V.int IntKind.i64 a, V.int IntKind.i64 p, V.int IntKind.i64 c, V.int IntKind.i64 q]
def g_rless_vc (r : Int) (e : Int) (a : Int) (p : Int) (c : Int) (q : Int) (r' : Int) (e' : Int) (a' : Int) (p' : Int) (c' : Int) (q' : Int) : Prop :=
  True ∧ True ∧ ((some (bx_rless_2 r e a p c q) = some (bx_rless_2 r e a p c q) ∧ some (bx_rless_1 r' e' a' p' c' q') = some (bx_rless_1 r' e' a' p' c' q') ∧ True) ∧ (0 : Int) ≤ (0 : Int) ∧ (0 : Int) ≤ (6 : Int) ∧ lessF (r, e, a, p, c, q) (r', e', a', p', c', q') = lexL (List.drop (Int.toNat (0 : Int)) (flds (r, e, a, p, c, q))) (List.drop (Int.toNat (0 : Int)) (flds (r', e', a', p', c', q')))) ∧ ∀ (x : Int × Unit), (0 : Int) ≤ x.fst ∧ x.fst ≤ (6 : Int) ∧ lessF (r, e, a, p, c, q) (r', e', a', p', c', q') = lexL (List.drop x.fst.toNat (flds (r, e, a, p, c, q))) (List.drop x.fst.toNat (flds (r', e', a', p', c', q'))) → (decide (x.fst < (↑(flds (r, e, a, p, c, q)).length : Int)) = true → ((0 : Int) ≤ x.fst ∧ x.fst < (↑(flds (r, e, a, p, c, q)).length : Int)) ∧ ∀ (x_1 : Int), (flds (r, e, a, p, c, q))[x.fst.toNat]? = some x_1 → ((0 : Int) ≤ x.fst ∧ x.fst < (↑(flds (r', e', a', p', c', q')).length : Int)) ∧ ∀ (x_2 : Int), (flds (r', e', a', p', c', q'))[x.fst.toNat]? = some x_2 → ((!decide (x_1 = x_2)) = true → ((0 : Int) ≤ x.fst ∧ x.fst < (↑(flds (r, e, a, p, c, q)).length : Int)) ∧ ∀ (x_3 : Int), (flds (r, e, a, p, c, q))[x.fst.toNat]? = some x_3 → ((0 : Int) ≤ x.fst ∧ x.fst < (↑(flds (r', e', a', p', c', q')).length : Int)) ∧ ∀ (x_4 : Int), (flds (r', e', a', p', c', q'))[x.fst.toNat]? = some x_4 → (decide (x_3 < x_4), ()) = (lessF (r, e, a, p, c, q) (r', e', a', p', c', q'), ())) ∧ ((!decide (x_1 = x_2)) = false → ((-9223372036854775808 : Int) ≤ x.fst + (1 : Int) ∧ x.fst + (1 : Int) ≤ (9223372036854775807 : Int)) ∧ (some (bx_rless_2 r e a p c q) = some (bx_rless_2 r e a p c q) ∧ some (bx_rless_1 r' e' a' p' c' q') = some (bx_rless_1 r' e' a' p' c' q') ∧ True) ∧ ((0 : Int) ≤ x.fst + (1 : Int) ∧ x.fst + (1 : Int) ≤ (6 : Int) ∧ lessF (r, e, a, p, c, q) (r', e', a', p', c', q') = lexL (List.drop (x.fst + (1 : Int)).toNat (flds (r, e, a, p, c, q))) (List.drop (x.fst + (1 : Int)).toNat (flds (r', e', a', p', c', q')))) ∧ ((6 : Int) - (x.fst + (1 : Int))).toNat < ((6 : Int) - x.fst).toNat)) ∧ (decide (x.fst < (↑(flds (r, e, a, p, c, q)).length : Int)) = false → (false, ()) = (lessF (r, e, a, p, c, q) (r', e', a', p', c', q'), ()))
theorem g_rless_eq (r e a p c q r' e' a' p' c' q' : Int) : g_rless r e a p c q r' e' a' p' c' q' = g_rless_vc r e a p c q r' e' a' p' c' q' := by kernel_rfl
theorem g_rless_ok (r e a p c q r' e' a' p' c' q' : Int) : g_rless_vc r e a p c q r' e' a' p' c' q' := by
  unfold g_rless_vc
  have f1 : (flds (r, e, a, p, c, q)).length = 6 := rfl
  have f2 : (flds (r', e', a', p', c', q')).length = 6 := rfl
  simp only [decide_eq_true_eq, decide_eq_false_iff_not, Bool.not_eq_true', Bool.not_eq_false', Bool.not_true, Bool.not_false]
  repeat' (first | with_reducible apply And.intro | (intro (x : Int × Unit); obtain ⟨i, ⟨⟩⟩ := x; rintro ⟨h0, h1, h2⟩; dsimp only at h0 h1 h2 ⊢) | intro _)
  all_goals try (first | trivial | rfl | omega)
  · rename_i c0 x hx y hy e0 x1 hx1 y1 hy1
    rw [hx] at hx1; rw [hy] at hy1
    cases hx1; cases hy1
    rw [h2, lexL_at hx hy, if_neg e0]
  · rename_i c0 x hx y hy e0
    rw [h2, lexL_at hx hy, if_pos e0, show (i + 1).toNat = i.toNat + 1 by omega]
  · rename_i c0
    rw [h2, show i.toNat = 6 by omega]
    rfl
set_option maxRecDepth 20000 in
theorem rless_pure (r e a p c q r' e' a' p' c' q' : Int) : Pure Tryd.prog 12 [.agg [.int .i64 r, .int .i64 e, .int .i64 a, .int .i64 p, .int .i64 c, .int .i64 q], .agg [.int .i64 r', .int .i64 e', .int .i64 a', .int .i64 p', .int .i64 c', .int .i64 q']] (.bool (lessF (r, e, a, p, c, q) (r', e', a', p', c', q'))) :=
  Pure.of_g (E := env_rless r e a p c q r' e' a' p' c' q') (ts := tsOf Tryd.f12) (ps := [.bool]) (r := (lessF (r, e, a, p, c, q) (r', e', a', p', c', q'), ())) (fn := Tryd.f12) (c := codeOf Tryd.f12) (specs_ok (P := Tryd.prog) rfl [sp_fields] [] rfl rfl) mixed Tryd.func12 rfl rfl (g := g_rless r e a p c q r' e' a' p' c' q') (by delta g_rless start0; first | with_reducible exact Eq.refl _ | exact Eq.refl _) (by rw [g_rless_eq r e a p c q r' e' a' p' c' q']; exact g_rless_ok r e a p c q r' e' a' p' c' q')
noncomputable def q_rless (r e a p c q r' e' a' p' c' q' : Int) : Prop × V := (True, (.bool (lessF (r, e, a, p, c, q) (r', e', a', p', c', q'))))
noncomputable def sp_rless : FSpec Tryd.prog where
  f := 12
  run := fun args => match args with
    | [.agg [.int .i64 r, .int .i64 e, .int .i64 a, .int .i64 p, .int .i64 c, .int .i64 q], .agg [.int .i64 r', .int .i64 e', .int .i64 a', .int .i64 p', .int .i64 c', .int .i64 q']] => some (q_rless r e a p c q r' e' a' p' c' q')
    | _ => none
  ok := fun args pre r h hp => by
    try dsimp only at h
    split at h
    · rename_i r e a p c q r' e' a' p' c' q'
      have h := Option.some.inj h
      unfold q_rless at h
      cases h
      exact (rless_pure r e a p c q _ _ _ _ _ _).weak (.cons (Weak.refl _) (.cons (Weak.refl _) .nil))
    · cases h

end Go.Proofs.YtemgelifnjefoaaDoor
