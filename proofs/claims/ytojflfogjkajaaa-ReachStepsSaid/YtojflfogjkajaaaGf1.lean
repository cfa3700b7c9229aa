/-
  ref01.Has, SameInts; ref12.
-/
import Derived.Test.YtojflfogjkajaaaGr17
namespace Go.Proofs.Ytojflfogjkajaaa.Gr
open Go.Vm

/-! ref01.Has -/
noncomputable def env_has' (xs : List Int) (n : Int) : Env where
  P := Try.prog
  ty := tys0
  heads := fun | 2 => some { slots := [(5, .int .i64)], boxes := [], inv := fun _ (x : Int × Unit) => 0 ≤ x.1 ∧ x.1 ≤ xs.length ∧ ∀ j : Nat, j < x.1.toNat → xs[j]? ≠ some n, measure := fun _ (x : Int × Unit) => (xs.length - x.1).toNat } | _ => none
def g_has'_vc (xs : List Int) (n : Int) : Prop :=
  (True ∧ (0 : Int) ≤ (0 : Int) ∧ (0 : Int) ≤ (↑xs.length : Int) ∧ ∀ (j : Nat), j < Int.toNat (0 : Int) → xs[j]? ≠ some n) ∧ ∀ (x : Int × Unit), ((0 : Int) ≤ x.1 ∧ x.1 ≤ (↑xs.length : Int) ∧ ∀ (j : Nat), j < x.1.toNat → xs[j]? ≠ some n) → (decide (x.1 < (↑xs.length : Int)) = true → ((0 : Int) ≤ x.1 ∧ x.1 < (↑xs.length : Int)) ∧ ∀ (x_1 : Int), xs[x.1.toNat]? = some x_1 → (decide (x_1 = n) = true → (true, ()) = (xs.contains n, ())) ∧ (decide (x_1 = n) = false → ((-9223372036854775808 : Int) ≤ x.1 + (1 : Int) ∧ x.1 + (1 : Int) ≤ (9223372036854775807 : Int)) ∧ True ∧ ((0 : Int) ≤ x.1 + (1 : Int) ∧ x.1 + (1 : Int) ≤ (↑xs.length : Int) ∧ ∀ (j : Nat), j < (x.1 + (1 : Int)).toNat → xs[j]? ≠ some n) ∧ ((↑xs.length : Int) - (x.1 + (1 : Int))).toNat < ((↑xs.length : Int) - x.1).toNat)) ∧ (decide (x.1 < (↑xs.length : Int)) = false → (false, ()) = (xs.contains n, ()))
theorem g_has'_eq (xs : List Int) (n : Int) : Cond (env_has' xs n) Try.f28 [.list .tmp I xs, .int .i64 n] [.bool] (xs.contains n, ()) = g_has'_vc xs n := by kernel_rfl
theorem g_has'_ok (xs : List Int) (n : Int) (h : xs.length ≤ 1000000000) : g_has'_vc xs n := by
  refine ⟨⟨trivial, by omega, by omega, fun j hj => by simp at hj⟩, ?_⟩
  rintro ⟨i, _⟩ ⟨h1, h2, h3⟩
  simp only [decide_eq_true_eq, decide_eq_false_iff_not] at *
  refine ⟨fun hlt => ⟨⟨h1, hlt⟩, fun y hy => ⟨fun e => ?_, fun e => ⟨by omega, trivial, ⟨by omega, by omega, fun j hj => ?_⟩, by omega⟩⟩⟩, fun hge => ?_⟩
  · subst e
    have := List.mem_of_getElem? hy
    simp [this]
  · by_cases hji : j < i.toNat
    · exact h3 j hji
    · have : j = i.toNat := by omega
      subst this
      rw [hy]; simpa using e
  · have : n ∉ xs := by
      intro hm
      obtain ⟨j, hj⟩ := List.mem_iff_getElem?.1 hm
      have hj2 := (List.getElem?_eq_some_iff.1 hj).1
      exact h3 j (by omega) hj
    simp [this]
set_option maxRecDepth 20000
theorem has'_pure (xs : List Int) (n : Int) (h : xs.length ≤ 1000000000) : Pure Try.prog 28 [.list .tmp I xs, .int .i64 n] (.bool (xs.contains n)) :=
  by have k := Pure.of_cond (g_has'_eq xs n) (g_has'_ok xs n h) (specs_ok rfl [] [] rfl rfl) mixed Try.func28; exact k
noncomputable def q_has' (xs : List Int) (n : Int) : Prop × V := (xs.length ≤ 1000000000, (.bool (xs.contains n)))
noncomputable def sp_has' : FSpec Try.prog where
 f := 28
 run := fun
  | [v0, .int .i64 n] => (asL I v0 : Option (List Int)).bind fun xs => some (q_has' xs n)
  | _ => none
 ok := fun args pre r h hp => by
  split at h
  · rename_i v0 n
    obtain ⟨xs, h0, h⟩ := Option.bind_eq_some_iff.1 h
    exact of_q h hp fun h => (has'_pure xs n h).weak (.cons (asL_weak h0) (.cons (.refl _) .nil))
  · cases h

/-! ref01.SameInts -/
noncomputable def env_sameInts (xs ys : List Int) : Env where
  P := Try.prog
  ty := tys0
  heads := fun | 4 => some { slots := [(5, .int .i64)], boxes := [], inv := fun _ (x : Int × Unit) => 0 ≤ x.1 ∧ x.1 ≤ xs.length ∧ ∀ j : Nat, j < x.1.toNat → xs[j]? = ys[j]?, measure := fun _ (x : Int × Unit) => (xs.length - x.1).toNat } | _ => none
def g_sameInts_vc (xs : List Int) (ys : List Int) : Prop :=
  ((!decide ((↑xs.length : Int) = (↑ys.length : Int))) = true → (false, ()) = (decide (xs = ys), ())) ∧ ((!decide ((↑xs.length : Int) = (↑ys.length : Int))) = false → (True ∧ (0 : Int) ≤ (0 : Int) ∧ (0 : Int) ≤ (↑xs.length : Int) ∧ ∀ (j : Nat), j < Int.toNat (0 : Int) → xs[j]? = ys[j]?) ∧ ∀ (x : Int × Unit), ((0 : Int) ≤ x.1 ∧ x.1 ≤ (↑xs.length : Int) ∧ ∀ (j : Nat), j < x.1.toNat → xs[j]? = ys[j]?) → (decide (x.1 < (↑xs.length : Int)) = true → ((0 : Int) ≤ x.1 ∧ x.1 < (↑xs.length : Int)) ∧ ∀ (x_1 : Int), xs[x.1.toNat]? = some x_1 → ((0 : Int) ≤ x.1 ∧ x.1 < (↑ys.length : Int)) ∧ ∀ (x_2 : Int), ys[x.1.toNat]? = some x_2 → ((!decide (x_1 = x_2)) = true → (false, ()) = (decide (xs = ys), ())) ∧ ((!decide (x_1 = x_2)) = false → ((-9223372036854775808 : Int) ≤ x.1 + (1 : Int) ∧ x.1 + (1 : Int) ≤ (9223372036854775807 : Int)) ∧ True ∧ ((0 : Int) ≤ x.1 + (1 : Int) ∧ x.1 + (1 : Int) ≤ (↑xs.length : Int) ∧ ∀ (j : Nat), j < (x.1 + (1 : Int)).toNat → xs[j]? = ys[j]?) ∧ ((↑xs.length : Int) - (x.1 + (1 : Int))).toNat < ((↑xs.length : Int) - x.1).toNat)) ∧ (decide (x.1 < (↑xs.length : Int)) = false → (true, ()) = (decide (xs = ys), ())))
theorem g_sameInts_eq (xs ys : List Int) : Cond (env_sameInts xs ys) Try.f21 [.list .tmp I xs, .list .tmp I ys] [.bool] (decide (xs = ys), ()) = g_sameInts_vc xs ys := by kernel_rfl
theorem g_sameInts_ok (xs ys : List Int) (h : xs.length ≤ 1000000000) : g_sameInts_vc xs ys := by
  unfold g_sameInts_vc
  simp only [Bool.not_eq_true', decide_eq_false_iff_not, Bool.not_eq_false', decide_eq_true_eq, true_and, Int.ofNat_inj, Int.toNat_zero, Nat.not_lt_zero]
  refine ⟨fun hne => ?_, fun hlen => ⟨⟨by omega, by omega, fun j hj => hj.elim⟩, ?_⟩⟩
  · have : xs ≠ ys := fun e => hne (by rw [e])
    simp [this]
  rintro ⟨i, _⟩ ⟨h1, h2, h3⟩
  simp only at *
  refine ⟨fun hlt => ⟨⟨h1, hlt⟩, fun x hx => ⟨⟨h1, by omega⟩, fun y hy => ⟨fun e => ?_, fun e => ⟨by omega, ⟨by omega, by omega, fun j hj => ?_⟩, by omega⟩⟩⟩⟩, fun hge => ?_⟩
  · have : xs ≠ ys := by
      rintro rfl
      rw [hx] at hy
      cases hy
      exact e rfl
    simp [this]
  · by_cases hji : j < i.toNat
    · exact h3 j hji
    · have : j = i.toNat := by omega
      subst this
      rw [hx, hy, e]
  · have : xs = ys := by
      apply List.ext_getElem?
      intro j
      by_cases hj : j < i.toNat
      · exact h3 j hj
      · rw [List.getElem?_eq_none (by omega), List.getElem?_eq_none (by omega)]
    simp [this]
theorem sameInts_pure (xs ys : List Int) (h : xs.length ≤ 1000000000) : Pure Try.prog 21 [.list .tmp I xs, .list .tmp I ys] (.bool (decide (xs = ys))) :=
  by have k := Pure.of_cond (g_sameInts_eq xs ys) (g_sameInts_ok xs ys h) (specs_ok rfl [] [] rfl rfl) mixed Try.func21; exact k
noncomputable def q_sameInts (xs ys : List Int) : Prop × V := (xs.length ≤ 1000000000, (.bool (decide (xs = ys))))
noncomputable def sp_sameInts : FSpec Try.prog where
 f := 21
 run := fun
  | [v0, v1] => (asL I v0 : Option (List Int)).bind fun xs => (asL I v1 : Option (List Int)).bind fun ys => some (q_sameInts xs ys)
  | _ => none
 ok := fun args pre r h hp => by
  split at h
  · rename_i v0 v1
    obtain ⟨xs, h0, h⟩ := Option.bind_eq_some_iff.1 h
    obtain ⟨ys, h1, h⟩ := Option.bind_eq_some_iff.1 h
    exact of_q h hp fun h => (sameInts_pure xs ys h).weak (.cons (asL_weak h0) (.cons (asL_weak h1) .nil))
  · cases h


/-! ref12 -/
def nodeP (n : Nat) (x : Int) : Bool := decide (0 ≤ x ∧ x < n)
def mayG (R : GI) (v : Int) (l : List Int) : Int :=
  if (nodeP R.length v && l.all (nodeP R.length)) = false then 2 else if l.contains v = true then 26 else if ¬ l.Nodup then 35 else 0
theorem may_eq {R : GI} (h : 0 < R.length) (v : Int) (l : List Int) : mayF R v l = mayG R v l := by
  unfold mayF mayG
  rw [if_neg (by omega)]
  simp only [twice_iff]
  rfl
theorem mg_two {R : GI} {v : Int} {l : List Int} (h : nodeP R.length v = false ∨ ∃ x ∈ l, nodeP R.length x = false) : mayG R v l = 2 := by
  unfold mayG
  rw [if_pos]
  rcases h with h | ⟨x, hx, h⟩
  · rw [h, Bool.false_and]
  · have : l.all (nodeP R.length) = false := by
      rw [← Bool.not_eq_true, List.all_eq_true]
      intro ha
      rw [ha x hx] at h
      cases h
    rw [this, Bool.and_false]
theorem take_not' {l : List Int} {k : Nat} {y : Int} (hn : l.Nodup) (hy : l[k]? = some y) : y ∉ l.take k := fun hm => by
  obtain ⟨hk, e⟩ := List.getElem?_eq_some_iff.1 hy
  obtain ⟨j, hj, e2⟩ := List.mem_iff_getElem.1 hm
  rw [List.length_take] at hj
  rw [List.getElem_take] at e2
  have := (List.getElem_inj hn).1 (e2.trans e.symm)
  omega
theorem nodup_snoc {l : List Int} {x : Int} (h : l.Nodup) (hx : x ∉ l) : (l ++ (some x).toList).Nodup := by
  rw [List.nodup_append]
  refine ⟨h, by simp, fun a ha b hb => ?_⟩
  simp only [Option.toList_some, List.mem_singleton] at hb
  subst hb
  exact fun e => hx (e ▸ ha)
noncomputable def env_rmay (R : GI) (v : Int) (l : List Int) : Env where
  P := Try.prog
  ty := tys0
  specs := specsOf [sp_has']
  heads := fun
    | 4 => some { slots := [(7, .int .i64)], boxes := [], keep := [3], inv := fun _ (x : Int × Unit) => 0 ≤ x.1 ∧ x.1 ≤ l.length ∧ (l.take x.1.toNat).all (nodeP (List.length (α := List Int) R)) = true, measure := fun _ (x : Int × Unit) => (l.length - x.1).toNat }
    | 11 => some { slots := [(8, .int .i64)], boxes := [], keep := [3], inv := fun _ (x : Int × Unit) => 0 ≤ x.1 ∧ x.1 ≤ l.length ∧ (l.take x.1.toNat).Nodup, measure := fun _ (x : Int × Unit) => (l.length - x.1).toNat }
    | _ => none
def g_rmay_vc (R : GI) (v : Int) (l : List Int) : Prop :=
  (decide (v < (0 : Int)) = false → (decide ((↑(List.length R) : Int) ≤ v) = true → ((2 : Int), ()) = (mayG R v l, ())) ∧ (decide ((↑(List.length R) : Int) ≤ v) = false → ((some (Obj.box [V.list LK.tmp LI R]) = some (Obj.box [V.list LK.tmp LI R]) ∧ True) ∧ (0 : Int) ≤ (0 : Int) ∧ (0 : Int) ≤ (↑l.length : Int) ∧ (List.take (Int.toNat (0 : Int)) l).all (nodeP (List.length R)) = true) ∧ ∀ (x : Int × Unit), (0 : Int) ≤ x.1 ∧ x.1 ≤ (↑l.length : Int) ∧ (List.take x.1.toNat l).all (nodeP (List.length R)) = true → (decide (x.1 < (↑l.length : Int)) = true → ((0 : Int) ≤ x.1 ∧ x.1 < (↑l.length : Int)) ∧ ∀ (x_1 : Int), l[x.1.toNat]? = some x_1 → (decide (x_1 < (0 : Int)) = false → ((0 : Int) ≤ x.1 ∧ x.1 < (↑l.length : Int)) ∧ ∀ (x_2 : Int), l[x.1.toNat]? = some x_2 → (decide ((↑(List.length R) : Int) ≤ x_2) = true → ((2 : Int), ()) = (mayG R v l, ())) ∧ (decide ((↑(List.length R) : Int) ≤ x_2) = false → ((-9223372036854775808 : Int) ≤ x.1 + (1 : Int) ∧ x.1 + (1 : Int) ≤ (9223372036854775807 : Int)) ∧ (some (Obj.box [V.list LK.tmp LI R]) = some (Obj.box [V.list LK.tmp LI R]) ∧ True) ∧ ((0 : Int) ≤ x.1 + (1 : Int) ∧ x.1 + (1 : Int) ≤ (↑l.length : Int) ∧ (List.take (x.1 + (1 : Int)).toNat l).all (nodeP (List.length R)) = true) ∧ ((↑l.length : Int) - (x.1 + (1 : Int))).toNat < ((↑l.length : Int) - x.1).toNat)) ∧ (decide (x_1 < (0 : Int)) = !false → ((2 : Int), ()) = (mayG R v l, ()))) ∧ (decide (x.1 < (↑l.length : Int)) = false → l.length ≤ (1000000000 : Nat) ∧ (l.contains v = true → ((26 : Int), ()) = (mayG R v l, ())) ∧ (l.contains v = false → ((some (Obj.box [V.list LK.tmp LI R]) = some (Obj.box [V.list LK.tmp LI R]) ∧ True) ∧ (0 : Int) ≤ (0 : Int) ∧ (0 : Int) ≤ (↑l.length : Int) ∧ (List.take (Int.toNat (0 : Int)) l).Nodup) ∧ ∀ (x : Int × Unit), (0 : Int) ≤ x.1 ∧ x.1 ≤ (↑l.length : Int) ∧ (List.take x.1.toNat l).Nodup → (decide (x.1 < (↑l.length : Int)) = true → ((0 : Int) ≤ x.1 ∧ x.1 ≤ (↑l.length : Int)) ∧ ((0 : Int) ≤ x.1 ∧ x.1 < (↑l.length : Int)) ∧ ∀ (x_1 : Int), l[x.1.toNat]? = some x_1 → (List.take x.1.toNat l).length ≤ (1000000000 : Nat) ∧ ((List.take x.1.toNat l).contains x_1 = true → ((35 : Int), ()) = (mayG R v l, ())) ∧ ((List.take x.1.toNat l).contains x_1 = false → ((-9223372036854775808 : Int) ≤ x.1 + (1 : Int) ∧ x.1 + (1 : Int) ≤ (9223372036854775807 : Int)) ∧ (some (Obj.box [V.list LK.tmp LI R]) = some (Obj.box [V.list LK.tmp LI R]) ∧ True) ∧ ((0 : Int) ≤ x.1 + (1 : Int) ∧ x.1 + (1 : Int) ≤ (↑l.length : Int) ∧ (List.take (x.1 + (1 : Int)).toNat l).Nodup) ∧ ((↑l.length : Int) - (x.1 + (1 : Int))).toNat < ((↑l.length : Int) - x.1).toNat)) ∧ (decide (x.1 < (↑l.length : Int)) = false → ((0 : Int), ()) = (mayG R v l, ())))))) ∧ (decide (v < (0 : Int)) = !false → ((2 : Int), ()) = (mayG R v l, ()))
theorem g_rmay_eq (R : GI) (v : Int) (l : List Int) : Cond (env_rmay R v l) Try.f85 [.agg [.list .tmp LI R], .int .i64 v, .list .tmp I l] [.int .i64] (mayG R v l, ()) = g_rmay_vc R v l := by kernel_rfl
theorem g_rmay_ok (R : GI) (v : Int) (l : List Int) (h : l.length ≤ 1000000000 ∧ R.length ≤ 1000000000) : g_rmay_vc R v l := by
  unfold g_rmay_vc
  simp only [decide_eq_true_eq, decide_eq_false_iff_not, Bool.not_eq_true', Bool.not_eq_false', Bool.not_true, Bool.not_false]
  refine ⟨fun hv => ⟨fun hv2 => ?_, fun hv2 => ⟨⟨⟨trivial, trivial⟩, by omega, by omega, rfl⟩, ?_⟩⟩, fun hv => ?_⟩
  · rw [mg_two (.inl (by simp [nodeP]; omega))]
  · have hvn : nodeP (List.length R) v = true := by simp [nodeP]; omega
    rintro ⟨i, ⟨⟩⟩ ⟨h0, h1, h2⟩
    dsimp only at h0 h1 h2 ⊢
    refine ⟨fun hi => ⟨⟨h0, hi⟩, fun x hx => ⟨fun hx0 => ⟨⟨h0, hi⟩, fun y hy => ?_⟩, fun hx0 => ?_⟩⟩, fun hi => ?_⟩
    · rw [hx] at hy
      cases hy
      refine ⟨fun hx1 => ?_, fun hx1 => ⟨by omega, ⟨trivial, trivial⟩, ⟨by omega, by omega, ?_⟩, by omega⟩⟩
      · rw [mg_two (.inr ⟨x, List.mem_of_getElem? hx, by simp [nodeP]; omega⟩)]
      · rw [show (i + 1).toNat = i.toNat + 1 by omega, List.take_add_one, hx, List.all_append, h2]
        simp [nodeP]
        omega
    · rw [mg_two (.inr ⟨x, List.mem_of_getElem? hx, by simp [nodeP]; omega⟩)]
    · have hall : l.all (nodeP (List.length R)) = true := by rwa [List.take_of_length_le (by omega)] at h2
      refine ⟨h.1, fun hc => ?_, fun hc => ⟨⟨⟨trivial, trivial⟩, by omega, by omega, by simp⟩, ?_⟩⟩
      · unfold mayG
        rw [hvn, hall, if_neg (by decide), if_pos hc]
      · rintro ⟨k, ⟨⟩⟩ ⟨k0, k1, k2⟩
        dsimp only at k0 k1 k2 ⊢
        refine ⟨fun hk => ⟨⟨k0, k1⟩, ⟨k0, hk⟩, fun x hx => ⟨by rw [List.length_take]; omega, fun hc2 => ?_, fun hc2 => ⟨by omega, ⟨trivial, trivial⟩, ⟨by omega, by omega, ?_⟩, by omega⟩⟩⟩, fun hk => ?_⟩
        · unfold mayG
          rw [hvn, hall, if_neg (by decide), if_neg (by rw [hc]; decide), if_pos]
          intro hn
          exact take_not' hn hx (List.contains_iff_mem.1 hc2)
        · rw [show (k + 1).toNat = k.toNat + 1 by omega, List.take_add_one, hx]
          refine nodup_snoc k2 fun hm => ?_
          rw [List.contains_iff_mem.2 hm] at hc2
          cases hc2
        · unfold mayG
          rw [hvn, hall, if_neg (by decide), if_neg (by rw [hc]; decide), if_neg]
          rw [List.take_of_length_le (by omega)] at k2
          exact fun hn => hn k2
  · rw [mg_two (.inl (by simp [nodeP]; omega))]
theorem rmay_pure (R : GI) (v : Int) (l : List Int) (h : l.length ≤ 1000000000 ∧ R.length ≤ 1000000000) : Pure Try.prog 85 [.agg [.list .tmp LI R], .int .i64 v, .list .tmp I l] (.int .i64 (mayG R v l)) :=
  by have k := Pure.of_cond (g_rmay_eq R v l) (g_rmay_ok R v l h) (specs_ok rfl [sp_has'] [] rfl rfl) mixed Try.func85; exact k
noncomputable def q_rmay (R : GI) (v : Int) (l : List Int) : Prop × V := (l.length ≤ 1000000000 ∧ R.length ≤ 1000000000, (.int .i64 (mayG R v l)))
noncomputable def sp_rmay : FSpec Try.prog where
 f := 85
 run := fun
  | [.agg [v0_0], .int .i64 v, v2] => (asL LI v0_0 : Option (GI)).bind fun R => (asL I v2 : Option (List Int)).bind fun l => some (q_rmay R v l)
  | _ => none
 ok := fun args pre r h hp => by
  split at h
  · rename_i v0_0 v v2
    obtain ⟨R, h0_0, h⟩ := Option.bind_eq_some_iff.1 h
    obtain ⟨l, h2, h⟩ := Option.bind_eq_some_iff.1 h
    exact of_q h hp fun h => (rmay_pure R v l h).weak (.cons (Weak.agg (.cons (asL_weak h0_0) .nil)) (.cons (.refl _) (.cons (asL_weak h2) .nil)))
  · cases h

noncomputable def env_miss (l m : List Int) : Env where
  P := Try.prog
  ty := tys0
  specs := specsOf [sp_has']
  heads := fun | 3 => some { slots := [(5, .int .i64), (6, .int .i64)], boxes := [], inv := fun _ (x : Int × Int × Unit) => 0 ≤ x.2.1 ∧ x.2.1 ≤ l.length ∧ x.1 = newsF (l.take x.2.1.toNat) m, measure := fun _ (x : Int × Int × Unit) => (l.length - x.2.1).toNat } | _ => none
def g_miss_vc (l : List Int) (m : List Int) : Prop :=
  (True ∧ (0 : Int) ≤ (0 : Int) ∧ (0 : Int) ≤ (↑l.length : Int) ∧ (0 : Int) = newsF (List.take (Int.toNat (0 : Int)) l) m) ∧ ∀ (x : Int × Int × Unit), (0 : Int) ≤ x.2.1 ∧ x.2.1 ≤ (↑l.length : Int) ∧ x.1 = newsF (List.take x.2.1.toNat l) m → (decide (x.2.1 < (↑l.length : Int)) = true → ((0 : Int) ≤ x.2.1 ∧ x.2.1 < (↑l.length : Int)) ∧ ∀ (x_1 : Int), l[x.2.1.toNat]? = some x_1 → m.length ≤ (1000000000 : Nat) ∧ ((!m.contains x_1) = true → ((-9223372036854775808 : Int) ≤ x.1 + (1 : Int) ∧ x.1 + (1 : Int) ≤ (9223372036854775807 : Int)) ∧ ((-9223372036854775808 : Int) ≤ x.2.1 + (1 : Int) ∧ x.2.1 + (1 : Int) ≤ (9223372036854775807 : Int)) ∧ True ∧ ((0 : Int) ≤ x.2.1 + (1 : Int) ∧ x.2.1 + (1 : Int) ≤ (↑l.length : Int) ∧ x.1 + (1 : Int) = newsF (List.take (x.2.1 + (1 : Int)).toNat l) m) ∧ ((↑l.length : Int) - (x.2.1 + (1 : Int))).toNat < ((↑l.length : Int) - x.2.1).toNat) ∧ ((!m.contains x_1) = false → ((-9223372036854775808 : Int) ≤ x.2.1 + (1 : Int) ∧ x.2.1 + (1 : Int) ≤ (9223372036854775807 : Int)) ∧ True ∧ ((0 : Int) ≤ x.2.1 + (1 : Int) ∧ x.2.1 + (1 : Int) ≤ (↑l.length : Int) ∧ x.1 = newsF (List.take (x.2.1 + (1 : Int)).toNat l) m) ∧ ((↑l.length : Int) - (x.2.1 + (1 : Int))).toNat < ((↑l.length : Int) - x.2.1).toNat)) ∧ (decide (x.2.1 < (↑l.length : Int)) = false → (x.1, ()) = (newsF l m, ()))
theorem g_miss_eq (l m : List Int) : Cond (env_miss l m) Try.f86 [.list .tmp I l, .list .tmp I m] [.int .i64] (newsF l m, ()) = g_miss_vc l m := by kernel_rfl
theorem g_miss_ok (l m : List Int) (h : l.length ≤ 1000000000 ∧ m.length ≤ 1000000000) : g_miss_vc l m := by
  unfold g_miss_vc
  simp only [decide_eq_true_eq, decide_eq_false_iff_not, Bool.not_eq_true', Bool.not_eq_false', Bool.not_true, Bool.not_false]
  refine ⟨⟨trivial, by omega, by omega, rfl⟩, ?_⟩
  rintro ⟨n, i, ⟨⟩⟩ ⟨h0, h1, h2⟩
  dsimp only at h0 h1 h2 ⊢
  have hb := news_le (l.take i.toNat) m
  rw [List.length_take] at hb
  refine ⟨fun hi => ⟨⟨h0, hi⟩, fun y hy => ⟨h.2, fun hc => ⟨by omega, by omega, trivial, ⟨by omega, by omega, ?_⟩, by omega⟩, fun hc => ⟨by omega, trivial, ⟨by omega, by omega, ?_⟩, by omega⟩⟩⟩, fun hi => ?_⟩
  · rw [show (i + 1).toNat = i.toNat + 1 by omega, news_take hy, if_neg (by rw [hc]; decide), h2]
  · rw [show (i + 1).toNat = i.toNat + 1 by omega, news_take hy, if_pos hc, h2]
    omega
  · rw [h2, List.take_of_length_le (by omega)]
theorem miss_pure (l m : List Int) (h : l.length ≤ 1000000000 ∧ m.length ≤ 1000000000) : Pure Try.prog 86 [.list .tmp I l, .list .tmp I m] (.int .i64 (newsF l m)) :=
  by have k := Pure.of_cond (g_miss_eq l m) (g_miss_ok l m h) (specs_ok rfl [sp_has'] [] rfl rfl) mixed Try.func86; exact k
noncomputable def q_miss (l m : List Int) : Prop × V := (l.length ≤ 1000000000 ∧ m.length ≤ 1000000000, (.int .i64 (newsF l m)))
noncomputable def sp_miss : FSpec Try.prog where
 f := 86
 run := fun
  | [v0, v1] => (asL I v0 : Option (List Int)).bind fun l => (asL I v1 : Option (List Int)).bind fun m => some (q_miss l m)
  | _ => none
 ok := fun args pre r h hp => by
  split at h
  · rename_i v0 v1
    obtain ⟨l, h0, h⟩ := Option.bind_eq_some_iff.1 h
    obtain ⟨m, h1, h⟩ := Option.bind_eq_some_iff.1 h
    exact of_q h hp fun h => (miss_pure l m h).weak (.cons (asL_weak h0) (.cons (asL_weak h1) .nil))
  · cases h

end Go.Proofs.Ytojflfogjkajaaa.Gr
