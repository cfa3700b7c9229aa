/-
  lock: whether locks may be, and whether they are the same.
-/
import Derived.Test.YtgjpehgnagfghaaGreatIdx
namespace Go.Proofs.YtgjpehgnagfghaaGreat.Lck
open Go.Vm
abbrev Lk := Int × Int
def lastGo (e : Int) : List Lk → Int → Int
  | [], o => o
  | x :: r, o => lastGo e r (if x.1 = e then max o x.2 else o)
theorem mm_max (a b : Int) : mmI true a b = max a b := by unfold mmI; simp only [if_true]; split <;> omega
def lastF (l : List Lk) (e : Int) : Int := lastGo e l (-1)
theorem last_next {e : Int} {l : List Lk} {i o : Int} {x : Lk} (h0 : 0 ≤ i) (hx : l[i.toNat]? = some x) : lastGo e (l.drop i.toNat) o = lastGo e (l.drop (i + 1).toNat) (if x.1 = e then max o x.2 else o) := by
  obtain ⟨h1, h2⟩ := List.getElem?_eq_some_iff.1 hx
  rw [List.drop_eq_getElem_cons h1, h2, show (i + 1).toNat = i.toNat + 1 by omega]
  rfl
theorem last_end {e : Int} {l : List Lk} {i o : Int} (h : ¬ i < (l.length : Int)) : lastGo e (l.drop i.toNat) o = o := by
  rw [List.drop_of_length_le (by omega)]
  rfl
noncomputable def env_last (l : List Lk) (e : Int) : Env where
  P := Tryz.prog
  ty := tys0
  heads := fun | 3 => some { slots := [(10, .int .i64), (5, .int .i64)], boxes := [], inv := fun _ (x : Int × Int × Unit) => 0 ≤ x.1 ∧ x.1 ≤ l.length ∧ lastF l e = lastGo e (l.drop x.1.toNat) x.2.1, measure := fun _ (x : Int × Int × Unit) => (l.length - x.1).toNat } | _ => none
def g_last_vc (l : List Lk) (e : Int) : Prop :=
  (True ∧ (0 : Int) ≤ (0 : Int) ∧ (0 : Int) ≤ (↑l.length : Int) ∧ lastF l e = lastGo e (List.drop (Int.toNat (0 : Int)) l) (-1 : Int)) ∧ ∀ (x : Int × Int × Unit), (0 : Int) ≤ x.1 ∧ x.1 ≤ (↑l.length : Int) ∧ lastF l e = lastGo e (List.drop x.1.toNat l) x.2.1 → (decide (x.1 < (↑l.length : Int)) = true → ((0 : Int) ≤ x.1 ∧ x.1 < (↑l.length : Int)) ∧ ∀ (x_1 : Int × Int), l[x.1.toNat]? = some x_1 → (decide (x_1.1 = e) = true → ((-9223372036854775808 : Int) ≤ x.1 + (1 : Int) ∧ x.1 + (1 : Int) ≤ (9223372036854775807 : Int)) ∧ True ∧ ((0 : Int) ≤ x.1 + (1 : Int) ∧ x.1 + (1 : Int) ≤ (↑l.length : Int) ∧ lastF l e = lastGo e (List.drop (x.1 + (1 : Int)).toNat l) (mmI true x.2.1 x_1.2)) ∧ ((↑l.length : Int) - (x.1 + (1 : Int))).toNat < ((↑l.length : Int) - x.1).toNat) ∧ (decide (x_1.1 = e) = false → ((-9223372036854775808 : Int) ≤ x.1 + (1 : Int) ∧ x.1 + (1 : Int) ≤ (9223372036854775807 : Int)) ∧ True ∧ ((0 : Int) ≤ x.1 + (1 : Int) ∧ x.1 + (1 : Int) ≤ (↑l.length : Int) ∧ lastF l e = lastGo e (List.drop (x.1 + (1 : Int)).toNat l) x.2.1) ∧ ((↑l.length : Int) - (x.1 + (1 : Int))).toNat < ((↑l.length : Int) - x.1).toNat)) ∧ (decide (x.1 < (↑l.length : Int)) = false → (x.2.1, ()) = (lastF l e, ()))
theorem g_last_eq (l : List Lk) (e : Int) : Cond (env_last l e) Tryz.f132 [.list .tmp Vl l, .int .i64 e] [.int .i64] (lastF l e, ()) = g_last_vc l e := by kernel_rfl
theorem g_last_ok (l : List Lk) (e : Int) (h : l.length ≤ 1000000000) : g_last_vc l e := by
  unfold g_last_vc
  simp only [decide_eq_true_eq, decide_eq_false_iff_not]
  refine ⟨⟨trivial, by omega, by omega, rfl⟩, ?_⟩
  rintro ⟨i, o, ⟨⟩⟩ ⟨h0, h1, hb⟩
  dsimp only at h0 h1 hb ⊢
  refine ⟨fun c => ⟨⟨h0, c⟩, fun x hx => ⟨fun k => ⟨by omega, trivial, ⟨by omega, by omega, ?_⟩, by omega⟩, fun k => ⟨by omega, trivial, ⟨by omega, by omega, ?_⟩, by omega⟩⟩⟩, fun c => ?_⟩
  · rw [hb, last_next h0 hx, if_pos k, mm_max]
  · rw [hb, last_next h0 hx, if_neg k]
  · rw [hb, last_end c]
set_option maxRecDepth 20000
theorem last_pure (l : List Lk) (e : Int) (h : l.length ≤ 1000000000) : Pure Tryz.prog 132 [.list .tmp Vl l, .int .i64 e] (.int .i64 (lastF l e)) :=
  by have k := Pure.of_cond (g_last_eq l e) (g_last_ok l e h) (specs_ok rfl [] [] rfl rfl) mixed Tryz.func132; exact k
noncomputable def q_last (l : List Lk) (e : Int) : Prop × V := (l.length ≤ 1000000000, (.int .i64 (lastF l e)))
noncomputable def sp_last : FSpec Tryz.prog where
 f := 132
 run := fun
  | [v0, .int .i64 e] => (asL Vl v0 : Option (List Lk)).bind fun l => some (q_last l e)
  | _ => none
 ok := fun args pre r h hp => by
  split at h
  · rename_i v0 e
    obtain ⟨l, h0, h⟩ := Option.bind_eq_some_iff.1 h
    exact of_q h hp fun h => (last_pure l e h).weak (.cons (asL_weak h0) (.cons (.refl _) .nil))
  · cases h
def lkP (l : List Lk) (p e : Int) : Bool := decide (p ≤ lastF l e)
noncomputable def env_lk1 (l : List Lk) (p e : Int) : Env where
  P := Tryz.prog
  ty := tys0
  specs := specsOf [sp_last]
  frz := fun | 8 => true | _ => false
def g_lk1_vc (l : List Lk) (p : Int) (e : Int) : Prop :=
  l.length ≤ (1000000000 : Nat) ∧ (decide (p ≤ lastF l e), ()) = (lkP l p e, ())
theorem g_lk1_eq (l : List Lk) (p e : Int) : Cond (env_lk1 l p e) Tryz.f131 [.int .i64 e, .fptr [.int .i64 p], .fptr [.list .tmp Vl l]] [.bool] (lkP l p e, ()) = g_lk1_vc l p e := by kernel_rfl
theorem g_lk1_ok (l : List Lk) (p e : Int) (h : l.length ≤ 1000000000) : g_lk1_vc l p e := by
  unfold g_lk1_vc
  exact ⟨h, rfl⟩
theorem lk1_pure (l : List Lk) (p e : Int) (h : l.length ≤ 1000000000) : Pure Tryz.prog 131 [.int .i64 e, .fptr [.int .i64 p], .fptr [.list .tmp Vl l]] (.bool (lkP l p e)) :=
  by have k := Pure.of_cond (g_lk1_eq l p e) (g_lk1_ok l p e h) (specs_ok rfl [sp_last] [] rfl rfl) mixed Tryz.func131; exact k
noncomputable def q_lk1 (l : List Lk) (p e : Int) : Prop × V := (l.length ≤ 1000000000, (.bool (lkP l p e)))
noncomputable def sp_lk1 : FSpec Tryz.prog where
 f := 131
 run := fun
  | [.int .i64 e, .fptr [.int .i64 p], .fptr [v2_0]] => (asL Vl v2_0 : Option (List Lk)).bind fun l => some (q_lk1 l p e)
  | _ => none
 ok := fun args pre r h hp => by
  split at h
  · rename_i e p v2_0
    obtain ⟨l, h2_0, h⟩ := Option.bind_eq_some_iff.1 h
    exact of_q h hp fun h => (lk1_pure l p e h).weak (.cons (.refl _) (.cons (.refl _) (.cons (weak_fptr (.cons (asL_weak h2_0) .nil)) .nil)))
  · cases h
noncomputable def env_idx (xs : List Int) (l : List Lk) (p : Int) : Env where
  P := Tryz.prog
  ty := tys0
  specs := specsOf [sp_lk1]
  heads := fun | 2 => some { slots := [(8, .int .i64)], boxes := [], inv := fun _ (x : Int × Unit) => 0 ≤ x.1 ∧ x.1 ≤ xs.length ∧ idxF (lkP l p) xs = idxGo (lkP l p) (xs.drop x.1.toNat) x.1, measure := fun _ (x : Int × Unit) => (xs.length - x.1).toNat } | _ => none
def g_idx_vc (xs : List Int) (l : List Lk) (p : Int) : Prop :=
  (True ∧ (0 : Int) ≤ (0 : Int) ∧ (0 : Int) ≤ (↑xs.length : Int) ∧ idxF (lkP l p) xs = idxGo (lkP l p) (List.drop (Int.toNat (0 : Int)) xs) (0 : Int)) ∧ ∀ (x : Int × Unit), (0 : Int) ≤ x.1 ∧ x.1 ≤ (↑xs.length : Int) ∧ idxF (lkP l p) xs = idxGo (lkP l p) (List.drop x.1.toNat xs) x.1 → (decide (x.1 < (↑xs.length : Int)) = true → ((0 : Int) ≤ x.1 ∧ x.1 < (↑xs.length : Int)) ∧ ∀ (x_1 : Int), xs[x.1.toNat]? = some x_1 → l.length ≤ (1000000000 : Nat) ∧ (lkP l p x_1 = true → (x.1, ()) = (idxF (lkP l p) xs, ())) ∧ (lkP l p x_1 = false → ((-9223372036854775808 : Int) ≤ x.1 + (1 : Int) ∧ x.1 + (1 : Int) ≤ (9223372036854775807 : Int)) ∧ True ∧ ((0 : Int) ≤ x.1 + (1 : Int) ∧ x.1 + (1 : Int) ≤ (↑xs.length : Int) ∧ idxF (lkP l p) xs = idxGo (lkP l p) (List.drop (x.1 + (1 : Int)).toNat xs) (x.1 + (1 : Int))) ∧ ((↑xs.length : Int) - (x.1 + (1 : Int))).toNat < ((↑xs.length : Int) - x.1).toNat)) ∧ (decide (x.1 < (↑xs.length : Int)) = false → ((-1 : Int), ()) = (idxF (lkP l p) xs, ()))
theorem g_idx_eq (xs : List Int) (l : List Lk) (p : Int) : Cond (env_idx xs l p) Tryz.f78 [.list .tmp I xs, .fn (.func 131) [] [.fptr [.int .i64 p], .fptr [.list .tmp Vl l]]] [.int .i64] (idxF (lkP l p) xs, ()) = g_idx_vc xs l p := by kernel_rfl
theorem g_idx_ok (xs : List Int) (l : List Lk) (p : Int) (h : xs.length ≤ 1000000000 ∧ l.length ≤ 1000000000) : g_idx_vc xs l p := by
  unfold g_idx_vc
  simp only [decide_eq_true_eq, decide_eq_false_iff_not]
  obtain ⟨ha, hl⟩ := h
  refine ⟨⟨trivial, by omega, by omega, rfl⟩, ?_⟩
  rintro ⟨i, ⟨⟩⟩ ⟨h0, h1, hb⟩
  dsimp only at h0 h1 hb ⊢
  rw [hb]
  refine ⟨fun c => ⟨⟨h0, c⟩, fun x hx => ⟨hl, fun k => ?_, fun k => ⟨by omega, trivial, ⟨by omega, by omega, ?_⟩, by omega⟩⟩⟩, fun c => ?_⟩
  · rw [idx_hit h0 hx k]
  · rw [idx_miss h0 hx k]
  · rw [idx_end c]
theorem idx_pure (xs : List Int) (l : List Lk) (p : Int) (h : xs.length ≤ 1000000000 ∧ l.length ≤ 1000000000) : Pure Tryz.prog 78 [.list .tmp I xs, .fn (.func 131) [] [.fptr [.int .i64 p], .fptr [.list .tmp Vl l]]] (.int .i64 (idxF (lkP l p) xs)) :=
  by have k := Pure.of_cond (g_idx_eq xs l p) (g_idx_ok xs l p h) (specs_ok rfl [sp_lk1] [] rfl rfl) mixed Tryz.func78; exact k
noncomputable def q_idx (xs : List Int) (l : List Lk) (p : Int) : Prop × V := (xs.length ≤ 1000000000 ∧ l.length ≤ 1000000000, (.int .i64 (idxF (lkP l p) xs)))
noncomputable def sp_idx : FSpec Tryz.prog where
 f := 78
 run := fun
  | [v0, .fn (.func 131) [] [.fptr [.int .i64 p], .fptr [v1_c1_0]]] => (asL I v0 : Option (List Int)).bind fun xs => (asL Vl v1_c1_0 : Option (List Lk)).bind fun l => some (q_idx xs l p)
  | _ => none
 ok := fun args pre r h hp => by
  split at h
  · rename_i v0 p v1_c1_0
    obtain ⟨xs, h0, h⟩ := Option.bind_eq_some_iff.1 h
    obtain ⟨l, h1_c1_0, h⟩ := Option.bind_eq_some_iff.1 h
    exact of_q h hp fun h => (idx_pure xs l p h).weak (.cons (asL_weak h0) (.cons (weak_fn .nil (.cons (.refl _) (.cons (weak_fptr (.cons (asL_weak h1_c1_0) .nil)) .nil))) .nil))
  · cases h
noncomputable def env_cont (xs : List Int) (l : List Lk) (p : Int) : Env where
  P := Tryz.prog
  ty := tys0
  specs := specsOf [sp_idx]
def g_cont_vc (xs : List Int) (l : List Lk) (p : Int) : Prop :=
  (xs.length ≤ (1000000000 : Nat) ∧ l.length ≤ (1000000000 : Nat)) ∧ (decide ((0 : Int) ≤ idxF (lkP l p) xs), ()) = (xs.any (lkP l p), ())
theorem g_cont_eq (xs : List Int) (l : List Lk) (p : Int) : Cond (env_cont xs l p) Tryz.f130 [.list .tmp I xs, .fn (.func 131) [] [.fptr [.int .i64 p], .fptr [.list .tmp Vl l]]] [.bool] (xs.any (lkP l p), ()) = g_cont_vc xs l p := by kernel_rfl
theorem g_cont_ok (xs : List Int) (l : List Lk) (p : Int) (h : xs.length ≤ 1000000000 ∧ l.length ≤ 1000000000) : g_cont_vc xs l p := by
  unfold g_cont_vc
  exact ⟨h, by rw [idx_any]⟩
theorem cont_pure (xs : List Int) (l : List Lk) (p : Int) (h : xs.length ≤ 1000000000 ∧ l.length ≤ 1000000000) : Pure Tryz.prog 130 [.list .tmp I xs, .fn (.func 131) [] [.fptr [.int .i64 p], .fptr [.list .tmp Vl l]]] (.bool (xs.any (lkP l p))) :=
  by have k := Pure.of_cond (g_cont_eq xs l p) (g_cont_ok xs l p h) (specs_ok rfl [sp_idx] [] rfl rfl) mixed Tryz.func130; exact k
noncomputable def q_cont (xs : List Int) (l : List Lk) (p : Int) : Prop × V := (xs.length ≤ 1000000000 ∧ l.length ≤ 1000000000, (.bool (xs.any (lkP l p))))
noncomputable def sp_cont : FSpec Tryz.prog where
 f := 130
 run := fun
  | [v0, .fn (.func 131) [] [.fptr [.int .i64 p], .fptr [v1_c1_0]]] => (asL I v0 : Option (List Int)).bind fun xs => (asL Vl v1_c1_0 : Option (List Lk)).bind fun l => some (q_cont xs l p)
  | _ => none
 ok := fun args pre r h hp => by
  split at h
  · rename_i v0 p v1_c1_0
    obtain ⟨xs, h0, h⟩ := Option.bind_eq_some_iff.1 h
    obtain ⟨l, h1_c1_0, h⟩ := Option.bind_eq_some_iff.1 h
    exact of_q h hp fun h => (cont_pure xs l p h).weak (.cons (asL_weak h0) (.cons (weak_fn .nil (.cons (.refl _) (.cons (weak_fptr (.cons (asL_weak h1_c1_0) .nil)) .nil))) .nil))
  · cases h
noncomputable def env_locked (l : List Lk) (p : Int) (xs : List Int) : Env where
  P := Tryz.prog
  ty := tys0
  specs := specsOf [sp_cont]
def g_locked_vc (l : List Lk) (p : Int) (xs : List Int) : Prop :=
  (xs.length ≤ (1000000000 : Nat) ∧ l.length ≤ (1000000000 : Nat)) ∧ (xs.any (lkP l p), ()) = (xs.any (lkP l p), ())
theorem g_locked_eq (l : List Lk) (p : Int) (xs : List Int) : Cond (env_locked l p xs) Tryz.f102 [.list .tmp Vl l, .int .i64 p, .list .tmp I xs] [.bool] (xs.any (lkP l p), ()) = g_locked_vc l p xs := by kernel_rfl
theorem g_locked_ok (l : List Lk) (p : Int) (xs : List Int) (h : xs.length ≤ 1000000000 ∧ l.length ≤ 1000000000) : g_locked_vc l p xs := by
  unfold g_locked_vc
  exact ⟨h, rfl⟩
theorem locked_pure (l : List Lk) (p : Int) (xs : List Int) (h : xs.length ≤ 1000000000 ∧ l.length ≤ 1000000000) : Pure Tryz.prog 102 [.list .tmp Vl l, .int .i64 p, .list .tmp I xs] (.bool (xs.any (lkP l p))) :=
  by have k := Pure.of_cond (g_locked_eq l p xs) (g_locked_ok l p xs h) (specs_ok rfl [sp_cont] [] rfl rfl) mixed Tryz.func102; exact k
noncomputable def q_locked (l : List Lk) (p : Int) (xs : List Int) : Prop × V := (xs.length ≤ 1000000000 ∧ l.length ≤ 1000000000, (.bool (xs.any (lkP l p))))
noncomputable def sp_locked : FSpec Tryz.prog where
 f := 102
 run := fun
  | [v0, .int .i64 p, v2] => (asL Vl v0 : Option (List Lk)).bind fun l => (asL I v2 : Option (List Int)).bind fun xs => some (q_locked l p xs)
  | _ => none
 ok := fun args pre r h hp => by
  split at h
  · rename_i v0 p v2
    obtain ⟨l, h0, h⟩ := Option.bind_eq_some_iff.1 h
    obtain ⟨xs, h2, h⟩ := Option.bind_eq_some_iff.1 h
    exact of_q h hp fun h => (locked_pure l p xs h).weak (.cons (asL_weak h0) (.cons (.refl _) (.cons (asL_weak h2) .nil)))
  · cases h
def mayF (l : List Lk) (a b n : Int) : Int := if a < 1 ∨ n < a then 20 else if b < 0 ∨ 23 < b then 22 else if [a].any (lkP l b) then 35 else 0
noncomputable def env_may (l : List Lk) (a b n : Int) : Env where
  P := Tryz.prog
  ty := tys0
  specs := specsOf [sp_locked]
def g_may_vc (l : List Lk) (a : Int) (b : Int) (n : Int) : Prop :=
  (decide (a < (1 : Int)) = false → (decide (n < a) = true → ((20 : Int), ()) = (mayF l a b n, ())) ∧ (decide (n < a) = false → (decide (b < (0 : Int)) = false → (decide ((24 : Int) ≤ b) = true → ((22 : Int), ()) = (mayF l a b n, ())) ∧ (decide ((24 : Int) ≤ b) = false → ((1 : Nat) ≤ (1000000000 : Nat) ∧ l.length ≤ (1000000000 : Nat)) ∧ ([a].any (lkP l b) = true → ((35 : Int), ()) = (mayF l a b n, ())) ∧ ([a].any (lkP l b) = false → ((0 : Int), ()) = (mayF l a b n, ())))) ∧ (decide (b < (0 : Int)) = !false → ((22 : Int), ()) = (mayF l a b n, ())))) ∧ (decide (a < (1 : Int)) = !false → ((20 : Int), ()) = (mayF l a b n, ()))
theorem g_may_eq (l : List Lk) (a b n : Int) : Cond (env_may l a b n) Tryz.f81 [.list .tmp Vl l, .agg [.int .i64 a, .int .i64 b], .int .i64 n] [.int .i64] (mayF l a b n, ()) = g_may_vc l a b n := by kernel_rfl
theorem g_may_ok (l : List Lk) (a b n : Int) (h : l.length ≤ 1000000000) : g_may_vc l a b n := by
  unfold g_may_vc mayF
  simp only [decide_eq_true_eq, decide_eq_false_iff_not]
  repeat' (first | with_reducible apply And.intro | intro _)
  all_goals (try congr 1)
  all_goals repeat' split
  all_goals first | rfl | omega | (simp_all; done) | (simp_all; omega)
theorem may_pure (l : List Lk) (a b n : Int) (h : l.length ≤ 1000000000) : Pure Tryz.prog 81 [.list .tmp Vl l, .agg [.int .i64 a, .int .i64 b], .int .i64 n] (.int .i64 (mayF l a b n)) :=
  by have k := Pure.of_cond (g_may_eq l a b n) (g_may_ok l a b n h) (specs_ok rfl [sp_locked] [] rfl rfl) mixed Tryz.func81; exact k
noncomputable def q_may (l : List Lk) (a b n : Int) : Prop × V := (l.length ≤ 1000000000, (.int .i64 (mayF l a b n)))
noncomputable def sp_may : FSpec Tryz.prog where
 f := 81
 run := fun
  | [v0, .agg [.int .i64 a, .int .i64 b], .int .i64 n] => (asL Vl v0 : Option (List Lk)).bind fun l => some (q_may l a b n)
  | _ => none
 ok := fun args pre r h hp => by
  split at h
  · rename_i v0 a b n
    obtain ⟨l, h0, h⟩ := Option.bind_eq_some_iff.1 h
    exact of_q h hp fun h => (may_pure l a b n h).weak (.cons (asL_weak h0) (.cons (.refl _) (.cons (.refl _) .nil)))
  · cases h
def kGo (n : Int) (l : List Lk) : Nat → Int → Int × Int
  | 0, i => (i, 0)
  | f + 1, i => match l[i.toNat]? with
    | none => (i, 0)
    | some x => if mayF (l.take i.toNat) x.1 x.2 n = 0 then kGo n l f (i + 1) else (i, mayF (l.take i.toNat) x.1 x.2 n)
def checkF (l : List Lk) (n : Int) : Int × Int := if 400 < (l.length : Int) then (0, 3) else kGo n l l.length 0
noncomputable def env_check (l : List Lk) (n : Int) : Env where
  P := Tryz.prog
  ty := tys0
  specs := specsOf [sp_may]
  frz := fun | 24 => true | _ => false
  heads := fun | 4 => some { slots := [(14, .int .i64)], boxes := [], inv := fun _ (x : Int × Unit) => 0 ≤ x.1 ∧ x.1 ≤ l.length ∧ kGo n l l.length 0 = kGo n l (l.length - x.1.toNat) x.1, measure := fun _ (x : Int × Unit) => (l.length - x.1).toNat } | _ => none
def g_check_vc (l : List Lk) (n : Int) : Prop :=
  (decide ((400 : Int) < (↑l.length : Int)) = true → ((0 : Int), (3 : Int), ()) = ((checkF l n).1, (checkF l n).2, ())) ∧ (decide ((400 : Int) < (↑l.length : Int)) = false → (True ∧ (0 : Int) ≤ (0 : Int) ∧ (0 : Int) ≤ (↑l.length : Int) ∧ kGo n l l.length (0 : Int) = kGo n l (l.length - Int.toNat (0 : Int)) (0 : Int)) ∧ ∀ (x : Int × Unit), (0 : Int) ≤ x.1 ∧ x.1 ≤ (↑l.length : Int) ∧ kGo n l l.length (0 : Int) = kGo n l (l.length - x.1.toNat) x.1 → (decide (x.1 < (↑l.length : Int)) = true → ((0 : Int) ≤ x.1 ∧ x.1 < (↑l.length : Int)) ∧ ∀ (x_1 : Int × Int), l[x.1.toNat]? = some x_1 → ((0 : Int) ≤ x.1 ∧ x.1 ≤ (↑l.length : Int)) ∧ (List.take x.1.toNat l).length ≤ (1000000000 : Nat) ∧ ((!decide (mayF (List.take x.1.toNat l) x_1.1 x_1.2 n = (0 : Int))) = true → (x.1, mayF (List.take x.1.toNat l) x_1.1 x_1.2 n, ()) = ((checkF l n).1, (checkF l n).2, ())) ∧ ((!decide (mayF (List.take x.1.toNat l) x_1.1 x_1.2 n = (0 : Int))) = false → ((-9223372036854775808 : Int) ≤ x.1 + (1 : Int) ∧ x.1 + (1 : Int) ≤ (9223372036854775807 : Int)) ∧ True ∧ ((0 : Int) ≤ x.1 + (1 : Int) ∧ x.1 + (1 : Int) ≤ (↑l.length : Int) ∧ kGo n l l.length (0 : Int) = kGo n l (l.length - (x.1 + (1 : Int)).toNat) (x.1 + (1 : Int))) ∧ ((↑l.length : Int) - (x.1 + (1 : Int))).toNat < ((↑l.length : Int) - x.1).toNat)) ∧ (decide (x.1 < (↑l.length : Int)) = false → ((↑l.length : Int), (0 : Int), ()) = ((checkF l n).1, (checkF l n).2, ())))
theorem g_check_eq (l : List Lk) (n : Int) : Cond (env_check l n) Tryz.f33 [.list .tmp Vl l, .int .i64 n] [.int .i64, .int .i64] ((checkF l n).1, (checkF l n).2, ()) = g_check_vc l n := by kernel_rfl
theorem k_next {n : Int} {l : List Lk} {i : Int} {f : Nat} {x : Lk} (hf : 0 < f) (hx : l[i.toNat]? = some x) : kGo n l f i = if mayF (l.take i.toNat) x.1 x.2 n = 0 then kGo n l (f - 1) (i + 1) else (i, mayF (l.take i.toNat) x.1 x.2 n) := by
  obtain ⟨g, rfl⟩ : ∃ g, f = g + 1 := ⟨f - 1, by omega⟩
  rw [kGo, hx]
  rfl
theorem g_check_ok (l : List Lk) (n : Int) (h : l.length ≤ 1000000000) : g_check_vc l n := by
  unfold g_check_vc checkF
  simp only [decide_eq_true_eq, decide_eq_false_iff_not]
  refine ⟨fun c => by rw [if_pos c], fun c => ?_⟩
  simp only [if_neg c, Bool.not_eq_true', Bool.not_eq_false', decide_eq_true_eq, decide_eq_false_iff_not]
  refine ⟨⟨trivial, by omega, by omega, by rw [show l.length - Int.toNat 0 = l.length by omega]⟩, ?_⟩
  rintro ⟨i, ⟨⟩⟩ ⟨h0, h1, hb⟩
  dsimp only at h0 h1 hb ⊢
  refine ⟨fun d => ⟨⟨h0, d⟩, fun x hx => ⟨by omega, by rw [List.length_take]; omega, fun k => ?_, fun k => ⟨by omega, trivial, ⟨by omega, by omega, ?_⟩, by omega⟩⟩⟩, fun d => ?_⟩
  · rw [hb, k_next (by omega) hx, if_neg k]
  · rw [hb, k_next (by omega) hx, if_pos k, show l.length - (i + 1).toNat = l.length - i.toNat - 1 by omega]
  · rw [hb, show l.length - i.toNat = 0 by omega, show i = (l.length : Int) by omega]; rfl
theorem check_pure (l : List Lk) (n : Int) (h : l.length ≤ 1000000000) : Pure Tryz.prog 33 [.list .tmp Vl l, .int .i64 n] (.tuple [.int .i64 (checkF l n).1, .int .i64 (checkF l n).2]) :=
  by have k := Pure.of_cond (g_check_eq l n) (g_check_ok l n h) (specs_ok rfl [sp_may] [] rfl rfl) mixed Tryz.func33; exact k
noncomputable def q_check (l : List Lk) (n : Int) : Prop × V := (l.length ≤ 1000000000, (.tuple [.int .i64 (checkF l n).1, .int .i64 (checkF l n).2]))
noncomputable def sp_check : FSpec Tryz.prog where
 f := 33
 run := fun
  | [v0, .int .i64 n] => (asL Vl v0 : Option (List Lk)).bind fun l => some (q_check l n)
  | _ => none
 ok := fun args pre r h hp => by
  split at h
  · rename_i v0 n
    obtain ⟨l, h0, h⟩ := Option.bind_eq_some_iff.1 h
    exact of_q h hp fun h => (check_pure l n h).weak (.cons (asL_weak h0) (.cons (.refl _) .nil))
  · cases h
def lkR (l : List Lk) (p e : Int) : Bool := decide (p < 0) || l.any fun x => decide (x.1 = e) && decide (p ≤ x.2)
noncomputable def env_rlocked (l : List Lk) (p e : Int) : Env where
  P := Tryz.prog
  ty := tys0
  heads := fun | 4 => some { slots := [(7, .int .i64)], boxes := [], inv := fun _ (x : Int × Unit) => 0 ≤ x.1 ∧ x.1 ≤ l.length ∧ idxF (fun x => decide (x.1 = e) && decide (p ≤ x.2)) l = idxGo (fun x => decide (x.1 = e) && decide (p ≤ x.2)) (l.drop x.1.toNat) x.1, measure := fun _ (x : Int × Unit) => (l.length - x.1).toNat } | _ => none
def g_rlocked_vc (l : List Lk) (p : Int) (e : Int) : Prop :=
  (decide (p < (0 : Int)) = true → (true, ()) = (lkR l p e, ())) ∧ (decide (p < (0 : Int)) = false → (True ∧ (0 : Int) ≤ (0 : Int) ∧ (0 : Int) ≤ (↑l.length : Int) ∧ idxF (fun x => decide (x.1 = e) && decide (p ≤ x.2)) l = idxGo (fun x => decide (x.1 = e) && decide (p ≤ x.2)) (List.drop (Int.toNat (0 : Int)) l) (0 : Int)) ∧ ∀ (x : Int × Unit), (0 : Int) ≤ x.1 ∧ x.1 ≤ (↑l.length : Int) ∧ idxF (fun x => decide (x.1 = e) && decide (p ≤ x.2)) l = idxGo (fun x => decide (x.1 = e) && decide (p ≤ x.2)) (List.drop x.1.toNat l) x.1 → (decide (x.1 < (↑l.length : Int)) = true → ((0 : Int) ≤ x.1 ∧ x.1 < (↑l.length : Int)) ∧ ∀ (x_1 : Int × Int), l[x.1.toNat]? = some x_1 → (decide (x_1.1 = e) = true → ((0 : Int) ≤ x.1 ∧ x.1 < (↑l.length : Int)) ∧ ∀ (x_2 : Int × Int), l[x.1.toNat]? = some x_2 → (decide (p ≤ x_2.2) = true → (true, ()) = (lkR l p e, ())) ∧ (decide (p ≤ x_2.2) = false → ((-9223372036854775808 : Int) ≤ x.1 + (1 : Int) ∧ x.1 + (1 : Int) ≤ (9223372036854775807 : Int)) ∧ True ∧ ((0 : Int) ≤ x.1 + (1 : Int) ∧ x.1 + (1 : Int) ≤ (↑l.length : Int) ∧ idxF (fun x => decide (x.1 = e) && decide (p ≤ x.2)) l = idxGo (fun x => decide (x.1 = e) && decide (p ≤ x.2)) (List.drop (x.1 + (1 : Int)).toNat l) (x.1 + (1 : Int))) ∧ ((↑l.length : Int) - (x.1 + (1 : Int))).toNat < ((↑l.length : Int) - x.1).toNat)) ∧ (decide (x_1.1 = e) = !true → ((-9223372036854775808 : Int) ≤ x.1 + (1 : Int) ∧ x.1 + (1 : Int) ≤ (9223372036854775807 : Int)) ∧ True ∧ ((0 : Int) ≤ x.1 + (1 : Int) ∧ x.1 + (1 : Int) ≤ (↑l.length : Int) ∧ idxF (fun x => decide (x.1 = e) && decide (p ≤ x.2)) l = idxGo (fun x => decide (x.1 = e) && decide (p ≤ x.2)) (List.drop (x.1 + (1 : Int)).toNat l) (x.1 + (1 : Int))) ∧ ((↑l.length : Int) - (x.1 + (1 : Int))).toNat < ((↑l.length : Int) - x.1).toNat)) ∧ (decide (x.1 < (↑l.length : Int)) = false → (false, ()) = (lkR l p e, ())))
theorem g_rlocked_eq (l : List Lk) (p e : Int) : Cond (env_rlocked l p e) Tryz.f115 [.list .tmp Vl l, .int .i64 p, .int .i64 e] [.bool] (lkR l p e, ()) = g_rlocked_vc l p e := by kernel_rfl
theorem g_rlocked_ok (l : List Lk) (p e : Int) (h : l.length ≤ 1000000000) : g_rlocked_vc l p e := by
  unfold g_rlocked_vc lkR
  rw [← idx_any]
  simp only [decide_eq_true_eq, decide_eq_false_iff_not]
  refine ⟨fun c => by simp [c], fun c => ?_⟩
  simp only [c, decide_false, Bool.false_or]
  refine ⟨⟨trivial, by omega, by omega, rfl⟩, ?_⟩
  rintro ⟨i, ⟨⟩⟩ ⟨h0, h1, hb⟩
  dsimp only at h0 h1 hb ⊢
  refine ⟨fun d => ⟨⟨h0, d⟩, fun x hx => ⟨fun k => ⟨⟨h0, d⟩, fun y hy => ⟨fun m => ?_, fun m => ⟨by omega, trivial, ⟨by omega, by omega, ?_⟩, by omega⟩⟩⟩, fun k => ⟨by omega, trivial, ⟨by omega, by omega, ?_⟩, by omega⟩⟩⟩, fun d => ?_⟩
  · rw [hx] at hy; cases hy
    rw [hb, idx_hit h0 hx (by simp [k, m])]; simp [h0]
  · rw [hx] at hy; cases hy
    rw [hb, idx_miss h0 hx (by simp [m])]
  · rw [hb, idx_miss h0 hx (by simp at k; simp [k])]
  · rw [hb, idx_end d]; rfl
theorem rlocked_pure (l : List Lk) (p e : Int) (h : l.length ≤ 1000000000) : Pure Tryz.prog 115 [.list .tmp Vl l, .int .i64 p, .int .i64 e] (.bool (lkR l p e)) :=
  by have k := Pure.of_cond (g_rlocked_eq l p e) (g_rlocked_ok l p e h) (specs_ok rfl [] [] rfl rfl) mixed Tryz.func115; exact k
noncomputable def q_rlocked (l : List Lk) (p e : Int) : Prop × V := (l.length ≤ 1000000000, (.bool (lkR l p e)))
noncomputable def sp_rlocked : FSpec Tryz.prog where
 f := 115
 run := fun
  | [v0, .int .i64 p, .int .i64 e] => (asL Vl v0 : Option (List Lk)).bind fun l => some (q_rlocked l p e)
  | _ => none
 ok := fun args pre r h hp => by
  split at h
  · rename_i v0 p e
    obtain ⟨l, h0, h⟩ := Option.bind_eq_some_iff.1 h
    exact of_q h hp fun h => (rlocked_pure l p e h).weak (.cons (asL_weak h0) (.cons (.refl _) (.cons (.refl _) .nil)))
  · cases h
theorem lastGo_le {e p : Int} : ∀ (l : List Lk) (o : Int), p ≤ lastGo e l o ↔ (p ≤ o ∨ l.any (fun x => decide (x.1 = e) && decide (p ≤ x.2)) = true)
  | [], o => by simp [lastGo]
  | x :: r, o => by
    rw [lastGo, lastGo_le r, List.any_cons]
    by_cases c : x.1 = e
    · simp only [c, if_true, decide_true, Bool.true_and, Bool.or_eq_true, decide_eq_true_eq]
      rw [show p ≤ max o x.2 ↔ (p ≤ o ∨ p ≤ x.2) by omega, or_assoc]
    · simp only [c, if_false, decide_false, Bool.false_and, Bool.false_or]
theorem lk_eq (l : List Lk) (p e : Int) (h : 0 ≤ p) : lkR l p e = lkP l p e := by
  unfold lkR lkP lastF
  rw [Bool.eq_iff_iff, decide_eq_true_eq, lastGo_le, Bool.or_eq_true, decide_eq_true_eq]
  constructor
  · rintro (h1 | h1)
    · omega
    · exact .inr h1
  · rintro (h1 | h1)
    · omega
    · exact .inr h1
noncomputable def env_rmay (l : List Lk) (a b n : Int) : Env where
  P := Tryz.prog
  ty := tys0
  specs := specsOf [sp_rlocked]
def g_rmay_vc (l : List Lk) (a : Int) (b : Int) (n : Int) : Prop :=
  (decide (a < (1 : Int)) = false → (decide (n < a) = true → ((20 : Int), ()) = (mayF l a b n, ())) ∧ (decide (n < a) = false → (decide (b < (0 : Int)) = false → (decide ((23 : Int) < b) = true → ((22 : Int), ()) = (mayF l a b n, ())) ∧ (decide ((23 : Int) < b) = false → l.length ≤ (1000000000 : Nat) ∧ (lkR l b a = true → ((35 : Int), ()) = (mayF l a b n, ())) ∧ (lkR l b a = false → ((0 : Int), ()) = (mayF l a b n, ())))) ∧ (decide (b < (0 : Int)) = !false → ((22 : Int), ()) = (mayF l a b n, ())))) ∧ (decide (a < (1 : Int)) = !false → ((20 : Int), ()) = (mayF l a b n, ()))
theorem g_rmay_eq (l : List Lk) (a b n : Int) : Cond (env_rmay l a b n) Tryz.f91 [.list .tmp Vl l, .agg [.int .i64 a, .int .i64 b], .int .i64 n] [.int .i64] (mayF l a b n, ()) = g_rmay_vc l a b n := by kernel_rfl
theorem g_rmay_ok (l : List Lk) (a b n : Int) (h : l.length ≤ 1000000000) : g_rmay_vc l a b n := by
  unfold g_rmay_vc mayF
  simp only [decide_eq_true_eq, decide_eq_false_iff_not]
  rw [show [a].any (lkP l b) = lkP l b a by simp]
  repeat' (first | with_reducible apply And.intro | intro _)
  all_goals (try congr 1)
  all_goals repeat' split
  all_goals (try simp only [lk_eq l b a (by omega)] at *)
  all_goals first | rfl | omega | (simp_all; done) | (simp_all; omega)
theorem rmay_pure (l : List Lk) (a b n : Int) (h : l.length ≤ 1000000000) : Pure Tryz.prog 91 [.list .tmp Vl l, .agg [.int .i64 a, .int .i64 b], .int .i64 n] (.int .i64 (mayF l a b n)) :=
  by have k := Pure.of_cond (g_rmay_eq l a b n) (g_rmay_ok l a b n h) (specs_ok rfl [sp_rlocked] [] rfl rfl) mixed Tryz.func91; exact k
noncomputable def q_rmay (l : List Lk) (a b n : Int) : Prop × V := (l.length ≤ 1000000000, (.int .i64 (mayF l a b n)))
noncomputable def sp_rmay : FSpec Tryz.prog where
 f := 91
 run := fun
  | [v0, .agg [.int .i64 a, .int .i64 b], .int .i64 n] => (asL Vl v0 : Option (List Lk)).bind fun l => some (q_rmay l a b n)
  | _ => none
 ok := fun args pre r h hp => by
  split at h
  · rename_i v0 a b n
    obtain ⟨l, h0, h⟩ := Option.bind_eq_some_iff.1 h
    exact of_q h hp fun h => (rmay_pure l a b n h).weak (.cons (asL_weak h0) (.cons (.refl _) (.cons (.refl _) .nil)))
  · cases h
noncomputable def env_rcheck (l : List Lk) (n : Int) : Env where
  P := Tryz.prog
  ty := tys0
  specs := specsOf [sp_rmay]
  frz := fun | 25 => true | _ => false
  heads := fun | 4 => some { slots := [(6, .int .i64)], boxes := [], inv := fun _ (x : Int × Unit) => 0 ≤ x.1 ∧ x.1 ≤ l.length ∧ kGo n l l.length 0 = kGo n l (l.length - x.1.toNat) x.1, measure := fun _ (x : Int × Unit) => (l.length - x.1).toNat } | _ => none
def g_rcheck_vc (l : List Lk) (n : Int) : Prop :=
  (decide ((400 : Int) < (↑l.length : Int)) = true → ((0 : Int), (3 : Int), ()) = ((checkF l n).1, (checkF l n).2, ())) ∧ (decide ((400 : Int) < (↑l.length : Int)) = false → (True ∧ (0 : Int) ≤ (0 : Int) ∧ (0 : Int) ≤ (↑l.length : Int) ∧ kGo n l l.length (0 : Int) = kGo n l (l.length - Int.toNat (0 : Int)) (0 : Int)) ∧ ∀ (x : Int × Unit), (0 : Int) ≤ x.1 ∧ x.1 ≤ (↑l.length : Int) ∧ kGo n l l.length (0 : Int) = kGo n l (l.length - x.1.toNat) x.1 → (decide (x.1 < (↑l.length : Int)) = true → ((0 : Int) ≤ x.1 ∧ x.1 ≤ (↑l.length : Int)) ∧ ((0 : Int) ≤ x.1 ∧ x.1 < (↑l.length : Int)) ∧ ∀ (x_1 : Int × Int), l[x.1.toNat]? = some x_1 → (List.take x.1.toNat l).length ≤ (1000000000 : Nat) ∧ ((!decide (mayF (List.take x.1.toNat l) x_1.1 x_1.2 n = (0 : Int))) = true → (x.1, mayF (List.take x.1.toNat l) x_1.1 x_1.2 n, ()) = ((checkF l n).1, (checkF l n).2, ())) ∧ ((!decide (mayF (List.take x.1.toNat l) x_1.1 x_1.2 n = (0 : Int))) = false → ((-9223372036854775808 : Int) ≤ x.1 + (1 : Int) ∧ x.1 + (1 : Int) ≤ (9223372036854775807 : Int)) ∧ True ∧ ((0 : Int) ≤ x.1 + (1 : Int) ∧ x.1 + (1 : Int) ≤ (↑l.length : Int) ∧ kGo n l l.length (0 : Int) = kGo n l (l.length - (x.1 + (1 : Int)).toNat) (x.1 + (1 : Int))) ∧ ((↑l.length : Int) - (x.1 + (1 : Int))).toNat < ((↑l.length : Int) - x.1).toNat)) ∧ (decide (x.1 < (↑l.length : Int)) = false → ((↑l.length : Int), (0 : Int), ()) = ((checkF l n).1, (checkF l n).2, ())))
theorem g_rcheck_eq (l : List Lk) (n : Int) : Cond (env_rcheck l n) Tryz.f40 [.list .tmp Vl l, .int .i64 n] [.int .i64, .int .i64] ((checkF l n).1, (checkF l n).2, ()) = g_rcheck_vc l n := by kernel_rfl
theorem g_rcheck_ok (l : List Lk) (n : Int) (h : l.length ≤ 1000000000) : g_rcheck_vc l n := by
  unfold g_rcheck_vc checkF
  simp only [decide_eq_true_eq, decide_eq_false_iff_not]
  refine ⟨fun c => by rw [if_pos c], fun c => ?_⟩
  simp only [if_neg c, Bool.not_eq_true', Bool.not_eq_false', decide_eq_true_eq, decide_eq_false_iff_not]
  refine ⟨⟨trivial, by omega, by omega, by rw [show l.length - Int.toNat 0 = l.length by omega]⟩, ?_⟩
  rintro ⟨i, ⟨⟩⟩ ⟨h0, h1, hb⟩
  dsimp only at h0 h1 hb ⊢
  refine ⟨fun d => ⟨by omega, ⟨h0, d⟩, fun x hx => ⟨by rw [List.length_take]; omega, fun k => ?_, fun k => ⟨by omega, trivial, ⟨by omega, by omega, ?_⟩, by omega⟩⟩⟩, fun d => ?_⟩
  · rw [hb, k_next (by omega) hx, if_neg k]
  · rw [hb, k_next (by omega) hx, if_pos k, show l.length - (i + 1).toNat = l.length - i.toNat - 1 by omega]
  · rw [hb, show l.length - i.toNat = 0 by omega, show i = (l.length : Int) by omega]; rfl
theorem rcheck_pure (l : List Lk) (n : Int) (h : l.length ≤ 1000000000) : Pure Tryz.prog 40 [.list .tmp Vl l, .int .i64 n] (.tuple [.int .i64 (checkF l n).1, .int .i64 (checkF l n).2]) :=
  by have k := Pure.of_cond (g_rcheck_eq l n) (g_rcheck_ok l n h) (specs_ok rfl [sp_rmay] [] rfl rfl) mixed Tryz.func40; exact k
noncomputable def q_rcheck (l : List Lk) (n : Int) : Prop × V := (l.length ≤ 1000000000, (.tuple [.int .i64 (checkF l n).1, .int .i64 (checkF l n).2]))
noncomputable def sp_rcheck : FSpec Tryz.prog where
 f := 40
 run := fun
  | [v0, .int .i64 n] => (asL Vl v0 : Option (List Lk)).bind fun l => some (q_rcheck l n)
  | _ => none
 ok := fun args pre r h hp => by
  split at h
  · rename_i v0 n
    obtain ⟨l, h0, h⟩ := Option.bind_eq_some_iff.1 h
    exact of_q h hp fun h => (rcheck_pure l n h).weak (.cons (asL_weak h0) (.cons (.refl _) .nil))
  · cases h
end Go.Proofs.YtgjpehgnagfghaaGreat.Lck
