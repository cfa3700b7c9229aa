/-
  entity: whether entities may be. lock: the same of locks.
-/
import Derived.Test.YtgjpehgnagfghaaGreatIdx
import Derived.Test.YtgjpehgnagfghaaGreatRts1
namespace Go.Proofs.YtgjpehgnagfghaaGreat.Cur
open Go.Vm
open Rts (moneyB g_rmoney_ok sp_rmoney)
def bad (c : Int) : Bool := !moneyB c
noncomputable def env_money (c : Int) : Env where
  P := Tryz.prog
  ty := tys0
def g_money_vc (c : Int) : Prop :=
  (decide ((1 : Int) ≤ c) = true → (decide (c ≤ (8 : Int)), ()) = (moneyB c, ())) ∧ (decide ((1 : Int) ≤ c) = !true → (false, ()) = (moneyB c, ()))
theorem g_money_eq (c : Int) : Cond (env_money c) Tryz.f77 [.int .i64 c] [.bool] (moneyB c, ()) = g_money_vc c := by kernel_rfl
theorem g_money_ok (c : Int) : g_money_vc c := by
  unfold g_money_vc moneyB
  simp only [decide_eq_true_eq, decide_eq_false_iff_not, Bool.not_true, Prod.mk.injEq, and_true]
  refine ⟨fun h => decide_eq_decide.2 (by omega), fun h => ?_⟩
  rw [decide_eq_false (by omega)]
set_option maxRecDepth 20000
theorem money_pure (c : Int) : Pure Tryz.prog 77 [.int .i64 c] (.bool (moneyB c)) :=
  by have k := Pure.of_cond (g_money_eq c) (g_money_ok c) (specs_ok rfl [] [] rfl rfl) mixed Tryz.func77; exact k
noncomputable def q_money (c : Int) : Prop × V := (True, (.bool (moneyB c)))
noncomputable def sp_money : FSpec Tryz.prog where
 f := 77
 run := fun
  | [.int .i64 c] => some (q_money c)
  | _ => none
 ok := fun args pre r h hp => by
  split at h
  · rename_i c
    exact of_q h hp fun h => (money_pure c).weak (.cons (.refl _) .nil)
  · cases h
noncomputable def env_wrong (c : Int) : Env where
  P := Tryz.prog
  ty := tys0
  specs := specsOf [sp_money]
def g_wrong_vc (c : Int) : Prop :=
  True ∧ (!moneyB c, ()) = (bad c, ())
theorem g_wrong_eq (c : Int) : Cond (env_wrong c) Tryz.f76 [.int .i64 c] [.bool] (bad c, ()) = g_wrong_vc c := by kernel_rfl
theorem g_wrong_ok (c : Int) : g_wrong_vc c := by
  unfold g_wrong_vc bad
  exact ⟨trivial, rfl⟩
theorem wrong_pure (c : Int) : Pure Tryz.prog 76 [.int .i64 c] (.bool (bad c)) :=
  by have k := Pure.of_cond (g_wrong_eq c) (g_wrong_ok c) (specs_ok rfl [sp_money] [] rfl rfl) mixed Tryz.func76; exact k
noncomputable def q_wrong (c : Int) : Prop × V := (True, (.bool (bad c)))
noncomputable def sp_wrong : FSpec Tryz.prog where
 f := 76
 run := fun
  | [.int .i64 c] => some (q_wrong c)
  | _ => none
 ok := fun args pre r h hp => by
  split at h
  · rename_i c
    exact of_q h hp fun h => (wrong_pure c).weak (.cons (.refl _) .nil)
  · cases h
noncomputable def env_idx (l : List Int) : Env where
  P := Tryz.prog
  ty := tys0
  specs := specsOf [sp_wrong]
  heads := fun | 2 => some { slots := [(8, .int .i64)], boxes := [], inv := fun _ (x : Int × Unit) => 0 ≤ x.1 ∧ x.1 ≤ l.length ∧ idxF bad l = idxGo bad (l.drop x.1.toNat) x.1, measure := fun _ (x : Int × Unit) => (l.length - x.1).toNat } | _ => none
def g_idx_vc (l : List Int) : Prop :=
  (True ∧ (0 : Int) ≤ (0 : Int) ∧ (0 : Int) ≤ (↑l.length : Int) ∧ idxF bad l = idxGo bad (List.drop (Int.toNat (0 : Int)) l) (0 : Int)) ∧ ∀ (x : Int × Unit), (0 : Int) ≤ x.1 ∧ x.1 ≤ (↑l.length : Int) ∧ idxF bad l = idxGo bad (List.drop x.1.toNat l) x.1 → (decide (x.1 < (↑l.length : Int)) = true → ((0 : Int) ≤ x.1 ∧ x.1 < (↑l.length : Int)) ∧ ∀ (x_1 : Int), l[x.1.toNat]? = some x_1 → True ∧ (bad x_1 = true → (x.1, ()) = (idxF bad l, ())) ∧ (bad x_1 = false → ((-9223372036854775808 : Int) ≤ x.1 + (1 : Int) ∧ x.1 + (1 : Int) ≤ (9223372036854775807 : Int)) ∧ True ∧ ((0 : Int) ≤ x.1 + (1 : Int) ∧ x.1 + (1 : Int) ≤ (↑l.length : Int) ∧ idxF bad l = idxGo bad (List.drop (x.1 + (1 : Int)).toNat l) (x.1 + (1 : Int))) ∧ ((↑l.length : Int) - (x.1 + (1 : Int))).toNat < ((↑l.length : Int) - x.1).toNat)) ∧ (decide (x.1 < (↑l.length : Int)) = false → ((-1 : Int), ()) = (idxF bad l, ()))
theorem g_idx_eq (l : List Int) : Cond (env_idx l) Tryz.f78 [.list .tmp I l, .fn (.func 76) [] []] [.int .i64] (idxF bad l, ()) = g_idx_vc l := by kernel_rfl
theorem g_idx_ok (l : List Int) (h : l.length ≤ 1000000000) : g_idx_vc l := by
  have hl : l.length ≤ 1000000000 := h
  unfold g_idx_vc
  simp only [decide_eq_true_eq, decide_eq_false_iff_not]
  refine ⟨⟨by trivial, by omega, by omega, rfl⟩, ?_⟩
  rintro ⟨i, ⟨⟩⟩ ⟨h0, h1, hb⟩
  dsimp only at h0 h1 hb ⊢
  rw [hb]
  refine ⟨fun c => ⟨⟨h0, c⟩, fun x hx => ⟨trivial, fun k => ?_, fun k => ⟨by omega, trivial, ⟨by omega, by omega, ?_⟩, by omega⟩⟩⟩, fun c => ?_⟩
  · rw [idx_hit h0 hx k]
  · rw [idx_miss h0 hx k]
  · rw [idx_end c]
theorem idx_pure (l : List Int) (h : l.length ≤ 1000000000) : Pure Tryz.prog 78 [.list .tmp I l, .fn (.func 76) [] []] (.int .i64 (idxF bad l)) :=
  by have k := Pure.of_cond (g_idx_eq l) (g_idx_ok l h) (specs_ok rfl [sp_wrong] [] rfl rfl) mixed Tryz.func78; exact k
noncomputable def q_idx (l : List Int) : Prop × V := (l.length ≤ 1000000000, (.int .i64 (idxF bad l)))
noncomputable def sp_idx : FSpec Tryz.prog where
 f := 78
 run := fun
  | [v0, .fn (.func 76) [] []] => (asL I v0 : Option (List Int)).bind fun l => some (q_idx l)
  | _ => none
 ok := fun args pre r h hp => by
  split at h
  · rename_i v0
    obtain ⟨l, h0, h⟩ := Option.bind_eq_some_iff.1 h
    exact of_q h hp fun h => (idx_pure l h).weak (.cons (asL_weak h0) (.cons (.refl _) .nil))
  · cases h
def checkF (l : List Int) : Int × Int := if 40 < (l.length : Int) then (0, 3) else if 0 ≤ idxF bad l then (idxF bad l, 23) else (l.length, 0)
noncomputable def env_check (l : List Int) : Env where
  P := Tryz.prog
  ty := tys0
  specs := specsOf [sp_idx]
def g_check_vc (l : List Int) : Prop :=
  (decide ((40 : Int) < (↑l.length : Int)) = true → ((0 : Int), (3 : Int), ()) = ((checkF l).1, (checkF l).2, ())) ∧ (decide ((40 : Int) < (↑l.length : Int)) = false → l.length ≤ (1000000000 : Nat) ∧ (decide ((0 : Int) ≤ idxF bad l) = true → (idxF bad l, (23 : Int), ()) = ((checkF l).1, (checkF l).2, ())) ∧ (decide ((0 : Int) ≤ idxF bad l) = false → ((↑l.length : Int), (0 : Int), ()) = ((checkF l).1, (checkF l).2, ())))
theorem g_check_eq (l : List Int) : Cond (env_check l) Tryz.f26 [.list .tmp I l] [.int .i64, .int .i64] ((checkF l).1, (checkF l).2, ()) = g_check_vc l := by kernel_rfl
theorem g_check_ok (l : List Int) (h : l.length ≤ 1000000000) : g_check_vc l := by
  unfold g_check_vc checkF
  simp only [decide_eq_true_eq, decide_eq_false_iff_not]
  refine ⟨fun c => by rw [if_pos c], fun c => ⟨h, fun d => by rw [if_neg c, if_pos d], fun d => by rw [if_neg c, if_neg d]⟩⟩
theorem check_pure (l : List Int) (h : l.length ≤ 1000000000) : Pure Tryz.prog 26 [.list .tmp I l] (.tuple [.int .i64 (checkF l).1, .int .i64 (checkF l).2]) :=
  by have k := Pure.of_cond (g_check_eq l) (g_check_ok l h) (specs_ok rfl [sp_idx] [] rfl rfl) mixed Tryz.func26; exact k
noncomputable def q_check (l : List Int) : Prop × V := (l.length ≤ 1000000000, (.tuple [.int .i64 (checkF l).1, .int .i64 (checkF l).2]))
noncomputable def sp_check : FSpec Tryz.prog where
 f := 26
 run := fun
  | [v0] => (asL I v0 : Option (List Int)).bind fun l => some (q_check l)
  | _ => none
 ok := fun args pre r h hp => by
  split at h
  · rename_i v0
    obtain ⟨l, h0, h⟩ := Option.bind_eq_some_iff.1 h
    exact of_q h hp fun h => (check_pure l h).weak (.cons (asL_weak h0) .nil)
  · cases h
noncomputable def env_rcheck (l : List Int) : Env where
  P := Tryz.prog
  ty := tys0
  specs := specsOf [sp_rmoney]
  heads := fun | 4 => some { slots := [(4, .int .i64)], boxes := [], inv := fun _ (x : Int × Unit) => 0 ≤ x.1 ∧ x.1 ≤ l.length ∧ idxF bad l = idxGo bad (l.drop x.1.toNat) x.1, measure := fun _ (x : Int × Unit) => (l.length - x.1).toNat } | _ => none
def g_rcheck_vc (l : List Int) : Prop :=
  (decide ((40 : Int) < (↑l.length : Int)) = true → ((0 : Int), (3 : Int), ()) = ((checkF l).1, (checkF l).2, ())) ∧ (decide ((40 : Int) < (↑l.length : Int)) = false → (True ∧ (0 : Int) ≤ (0 : Int) ∧ (0 : Int) ≤ (↑l.length : Int) ∧ idxF bad l = idxGo bad (List.drop (Int.toNat (0 : Int)) l) (0 : Int)) ∧ ∀ (x : Int × Unit), (0 : Int) ≤ x.1 ∧ x.1 ≤ (↑l.length : Int) ∧ idxF bad l = idxGo bad (List.drop x.1.toNat l) x.1 → (decide (x.1 < (↑l.length : Int)) = true → ((0 : Int) ≤ x.1 ∧ x.1 < (↑l.length : Int)) ∧ ∀ (x_1 : Int), l[x.1.toNat]? = some x_1 → True ∧ ((!moneyB x_1) = true → (x.1, (23 : Int), ()) = ((checkF l).1, (checkF l).2, ())) ∧ ((!moneyB x_1) = false → ((-9223372036854775808 : Int) ≤ x.1 + (1 : Int) ∧ x.1 + (1 : Int) ≤ (9223372036854775807 : Int)) ∧ True ∧ ((0 : Int) ≤ x.1 + (1 : Int) ∧ x.1 + (1 : Int) ≤ (↑l.length : Int) ∧ idxF bad l = idxGo bad (List.drop (x.1 + (1 : Int)).toNat l) (x.1 + (1 : Int))) ∧ ((↑l.length : Int) - (x.1 + (1 : Int))).toNat < ((↑l.length : Int) - x.1).toNat)) ∧ (decide (x.1 < (↑l.length : Int)) = false → ((↑l.length : Int), (0 : Int), ()) = ((checkF l).1, (checkF l).2, ())))
theorem g_rcheck_eq (l : List Int) : Cond (env_rcheck l) Tryz.f36 [.list .tmp I l] [.int .i64, .int .i64] ((checkF l).1, (checkF l).2, ()) = g_rcheck_vc l := by kernel_rfl
theorem g_rcheck_ok (l : List Int) (h : l.length ≤ 1000000000) : g_rcheck_vc l := by
  unfold g_rcheck_vc checkF
  simp only [decide_eq_true_eq, decide_eq_false_iff_not]
  refine ⟨fun c => by rw [if_pos c], fun c => ?_⟩
  simp only [if_neg c]
  refine ⟨⟨trivial, by omega, by omega, rfl⟩, ?_⟩
  rintro ⟨i, ⟨⟩⟩ ⟨h0, h1, hb⟩
  dsimp only at h0 h1 hb ⊢
  refine ⟨fun d => ⟨⟨h0, d⟩, fun x hx => ⟨trivial, fun k => ?_, fun k => ⟨by omega, trivial, ⟨by omega, by omega, ?_⟩, by omega⟩⟩⟩, fun d => ?_⟩
  · rw [hb, idx_hit h0 hx k, if_pos h0]
  · rw [hb, idx_miss h0 hx k]
  · rw [hb, idx_end d]; rfl
theorem rcheck_pure (l : List Int) (h : l.length ≤ 1000000000) : Pure Tryz.prog 36 [.list .tmp I l] (.tuple [.int .i64 (checkF l).1, .int .i64 (checkF l).2]) :=
  by have k := Pure.of_cond (g_rcheck_eq l) (g_rcheck_ok l h) (specs_ok rfl [sp_rmoney] [] rfl rfl) mixed Tryz.func36; exact k
noncomputable def q_rcheck (l : List Int) : Prop × V := (l.length ≤ 1000000000, (.tuple [.int .i64 (checkF l).1, .int .i64 (checkF l).2]))
noncomputable def sp_rcheck : FSpec Tryz.prog where
 f := 36
 run := fun
  | [v0] => (asL I v0 : Option (List Int)).bind fun l => some (q_rcheck l)
  | _ => none
 ok := fun args pre r h hp => by
  split at h
  · rename_i v0
    obtain ⟨l, h0, h⟩ := Option.bind_eq_some_iff.1 h
    exact of_q h hp fun h => (rcheck_pure l h).weak (.cons (asL_weak h0) .nil)
  · cases h
end Go.Proofs.YtgjpehgnagfghaaGreat.Cur
