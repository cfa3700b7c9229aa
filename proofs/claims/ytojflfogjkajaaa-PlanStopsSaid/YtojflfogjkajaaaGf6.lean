/-
  law12: GraphLast.
-/
import Derived.Test.YtojflfogjkajaaaGr17
section
namespace Go.Proofs.Ytojflfogjkajaaa.Gr
open Go.Vm
noncomputable def env_has' (xs : List Int) (n : Int) : Env where
  P := Try.prog
  ty := tys0
  heads := fun | 2 => some { slots := [(5, .int .i64)], boxes := [], inv := fun _ (x : Int × Unit) => 0 ≤ x.1 ∧ x.1 ≤ xs.length ∧ ∀ j : Nat, j < x.1.toNat → xs[j]? ≠ some n, measure := fun _ (x : Int × Unit) => (xs.length - x.1).toNat } | _ => none
def g_has'_vc (xs : List Int) (n : Int) : Prop :=
  (True ∧ (0 : Int) ≤ (0 : Int) ∧ (0 : Int) ≤ (↑xs.length : Int) ∧ ∀ (j : Nat), j < Int.toNat (0 : Int) → xs[j]? ≠ some n) ∧ ∀ (x : Int × Unit), ((0 : Int) ≤ x.1 ∧ x.1 ≤ (↑xs.length : Int) ∧ ∀ (j : Nat), j < x.1.toNat → xs[j]? ≠ some n) → (decide (x.1 < (↑xs.length : Int)) = true → ((0 : Int) ≤ x.1 ∧ x.1 < (↑xs.length : Int)) ∧ ∀ (x_1 : Int), xs[x.1.toNat]? = some x_1 → (decide (x_1 = n) = true → (true, ()) = (xs.contains n, ())) ∧ (decide (x_1 = n) = false → ((-9223372036854775808 : Int) ≤ x.1 + (1 : Int) ∧ x.1 + (1 : Int) ≤ (9223372036854775807 : Int)) ∧ True ∧ ((0 : Int) ≤ x.1 + (1 : Int) ∧ x.1 + (1 : Int) ≤ (↑xs.length : Int) ∧ ∀ (j : Nat), j < (x.1 + (1 : Int)).toNat → xs[j]? ≠ some n) ∧ ((↑xs.length : Int) - (x.1 + (1 : Int))).toNat < ((↑xs.length : Int) - x.1).toNat)) ∧ (decide (x.1 < (↑xs.length : Int)) = false → (false, ()) = (xs.contains n, ()))
theorem g_has'_eq (xs : List Int) (n : Int) : Cond (env_has' xs n) Try.f28 [.list .tmp I xs, .int .i64 n] [.bool] (xs.contains n, ()) = g_has'_vc xs n := by kernel_rfl
theorem g_has'_ok (xs : List Int) (n : Int) (h : xs.length ≤ 1000000000) : g_has'_vc xs n := by
  refine ⟨⟨trivial, by omega, by omega, fun j hj => by simp at hj⟩, ?_⟩
  rintro ⟨i, _⟩ ⟨h1, h2, h3⟩
  simp only [decide_eq_true_eq, decide_eq_false_iff_not] at *
  refine ⟨fun hlt => ⟨⟨h1, hlt⟩, fun y hy => ⟨fun e => ?_, fun e => ⟨by omega, trivial, ⟨by omega, by omega, fun j hj => ?_⟩, by omega⟩⟩⟩, fun hge => ?_⟩
  · subst e
    have := List.mem_of_getElem? hy
    simp [this]
  · by_cases hji : j < i.toNat
    · exact h3 j hji
    · have : j = i.toNat := by omega
      subst this
      rw [hy]; simpa using e
  · have : n ∉ xs := by
      intro hm
      obtain ⟨j, hj⟩ := List.mem_iff_getElem?.1 hm
      have hj2 := (List.getElem?_eq_some_iff.1 hj).1
      exact h3 j (by omega) hj
    simp [this]
set_option maxRecDepth 20000
theorem has'_pure (xs : List Int) (n : Int) (h : xs.length ≤ 1000000000) : Pure Try.prog 28 [.list .tmp I xs, .int .i64 n] (.bool (xs.contains n)) :=
  by have k := Pure.of_cond (g_has'_eq xs n) (g_has'_ok xs n h) (specs_ok rfl [] [] rfl rfl) mixed Try.func28; exact k
noncomputable def q_has' (xs : List Int) (n : Int) : Prop × V := (xs.length ≤ 1000000000, (.bool (xs.contains n)))
noncomputable def sp_has' : FSpec Try.prog where
 f := 28
 run := fun
  | [v0, .int .i64 n] => (asL I v0 : Option (List Int)).bind fun xs => some (q_has' xs n)
  | _ => none
 ok := fun args pre r h hp => by
  split at h
  · rename_i v0 n
    obtain ⟨xs, h0, h⟩ := Option.bind_eq_some_iff.1 h
    exact of_q h hp fun h => (has'_pure xs n h).weak (.cons (asL_weak h0) (.cons (.refl _) .nil))
  · cases h
noncomputable def env_sameInts (xs ys : List Int) : Env where
  P := Try.prog
  ty := tys0
  heads := fun | 4 => some { slots := [(5, .int .i64)], boxes := [], inv := fun _ (x : Int × Unit) => 0 ≤ x.1 ∧ x.1 ≤ xs.length ∧ ∀ j : Nat, j < x.1.toNat → xs[j]? = ys[j]?, measure := fun _ (x : Int × Unit) => (xs.length - x.1).toNat } | _ => none
def g_sameInts_vc (xs : List Int) (ys : List Int) : Prop :=
  ((!decide ((↑xs.length : Int) = (↑ys.length : Int))) = true → (false, ()) = (decide (xs = ys), ())) ∧ ((!decide ((↑xs.length : Int) = (↑ys.length : Int))) = false → (True ∧ (0 : Int) ≤ (0 : Int) ∧ (0 : Int) ≤ (↑xs.length : Int) ∧ ∀ (j : Nat), j < Int.toNat (0 : Int) → xs[j]? = ys[j]?) ∧ ∀ (x : Int × Unit), ((0 : Int) ≤ x.1 ∧ x.1 ≤ (↑xs.length : Int) ∧ ∀ (j : Nat), j < x.1.toNat → xs[j]? = ys[j]?) → (decide (x.1 < (↑xs.length : Int)) = true → ((0 : Int) ≤ x.1 ∧ x.1 < (↑xs.length : Int)) ∧ ∀ (x_1 : Int), xs[x.1.toNat]? = some x_1 → ((0 : Int) ≤ x.1 ∧ x.1 < (↑ys.length : Int)) ∧ ∀ (x_2 : Int), ys[x.1.toNat]? = some x_2 → ((!decide (x_1 = x_2)) = true → (false, ()) = (decide (xs = ys), ())) ∧ ((!decide (x_1 = x_2)) = false → ((-9223372036854775808 : Int) ≤ x.1 + (1 : Int) ∧ x.1 + (1 : Int) ≤ (9223372036854775807 : Int)) ∧ True ∧ ((0 : Int) ≤ x.1 + (1 : Int) ∧ x.1 + (1 : Int) ≤ (↑xs.length : Int) ∧ ∀ (j : Nat), j < (x.1 + (1 : Int)).toNat → xs[j]? = ys[j]?) ∧ ((↑xs.length : Int) - (x.1 + (1 : Int))).toNat < ((↑xs.length : Int) - x.1).toNat)) ∧ (decide (x.1 < (↑xs.length : Int)) = false → (true, ()) = (decide (xs = ys), ())))
theorem g_sameInts_eq (xs ys : List Int) : Cond (env_sameInts xs ys) Try.f21 [.list .tmp I xs, .list .tmp I ys] [.bool] (decide (xs = ys), ()) = g_sameInts_vc xs ys := by kernel_rfl
theorem g_sameInts_ok (xs ys : List Int) (h : xs.length ≤ 1000000000) : g_sameInts_vc xs ys := by
  unfold g_sameInts_vc
  simp only [Bool.not_eq_true', decide_eq_false_iff_not, Bool.not_eq_false', decide_eq_true_eq, true_and, Int.ofNat_inj, Int.toNat_zero, Nat.not_lt_zero]
  refine ⟨fun hne => ?_, fun hlen => ⟨⟨by omega, by omega, fun j hj => hj.elim⟩, ?_⟩⟩
  · have : xs ≠ ys := fun e => hne (by rw [e])
    simp [this]
  rintro ⟨i, _⟩ ⟨h1, h2, h3⟩
  simp only at *
  refine ⟨fun hlt => ⟨⟨h1, hlt⟩, fun x hx => ⟨⟨h1, by omega⟩, fun y hy => ⟨fun e => ?_, fun e => ⟨by omega, ⟨by omega, by omega, fun j hj => ?_⟩, by omega⟩⟩⟩⟩, fun hge => ?_⟩
  · have : xs ≠ ys := by
      rintro rfl
      rw [hx] at hy
      cases hy
      exact e rfl
    simp [this]
  · by_cases hji : j < i.toNat
    · exact h3 j hji
    · have : j = i.toNat := by omega
      subst this
      rw [hx, hy, e]
  · have : xs = ys := by
      apply List.ext_getElem?
      intro j
      by_cases hj : j < i.toNat
      · exact h3 j hj
      · rw [List.getElem?_eq_none (by omega), List.getElem?_eq_none (by omega)]
    simp [this]
theorem sameInts_pure (xs ys : List Int) (h : xs.length ≤ 1000000000) : Pure Try.prog 21 [.list .tmp I xs, .list .tmp I ys] (.bool (decide (xs = ys))) :=
  by have k := Pure.of_cond (g_sameInts_eq xs ys) (g_sameInts_ok xs ys h) (specs_ok rfl [] [] rfl rfl) mixed Try.func21; exact k
noncomputable def q_sameInts (xs ys : List Int) : Prop × V := (xs.length ≤ 1000000000, (.bool (decide (xs = ys))))
noncomputable def sp_sameInts : FSpec Try.prog where
 f := 21
 run := fun
  | [v0, v1] => (asL I v0 : Option (List Int)).bind fun xs => (asL I v1 : Option (List Int)).bind fun ys => some (q_sameInts xs ys)
  | _ => none
 ok := fun args pre r h hp => by
  split at h
  · rename_i v0 v1
    obtain ⟨xs, h0, h⟩ := Option.bind_eq_some_iff.1 h
    obtain ⟨ys, h1, h⟩ := Option.bind_eq_some_iff.1 h
    exact of_q h hp fun h => (sameInts_pure xs ys h).weak (.cons (asL_weak h0) (.cons (asL_weak h1) .nil))
  · cases h
def nodeP (n : Nat) (x : Int) : Bool := decide (0 ≤ x ∧ x < n)
def mayG (R : GI) (v : Int) (l : List Int) : Int :=
  if (nodeP R.length v && l.all (nodeP R.length)) = false then 2 else if l.contains v = true then 26 else if ¬ l.Nodup then 35 else 0
theorem may_eq {R : GI} (h : 0 < R.length) (v : Int) (l : List Int) : mayF R v l = mayG R v l := by
  unfold mayF mayG
  rw [if_neg (by omega)]
  simp only [twice_iff]
  rfl
theorem mg_two {R : GI} {v : Int} {l : List Int} (h : nodeP R.length v = false ∨ ∃ x ∈ l, nodeP R.length x = false) : mayG R v l = 2 := by
  unfold mayG
  rw [if_pos]
  rcases h with h | ⟨x, hx, h⟩
  · rw [h, Bool.false_and]
  · have : l.all (nodeP R.length) = false := by
      rw [← Bool.not_eq_true, List.all_eq_true]
      intro ha
      rw [ha x hx] at h
      cases h
    rw [this, Bool.and_false]
theorem take_not' {l : List Int} {k : Nat} {y : Int} (hn : l.Nodup) (hy : l[k]? = some y) : y ∉ l.take k := fun hm => by
  obtain ⟨hk, e⟩ := List.getElem?_eq_some_iff.1 hy
  obtain ⟨j, hj, e2⟩ := List.mem_iff_getElem.1 hm
  rw [List.length_take] at hj
  rw [List.getElem_take] at e2
  have := (List.getElem_inj hn).1 (e2.trans e.symm)
  omega
theorem nodup_snoc {l : List Int} {x : Int} (h : l.Nodup) (hx : x ∉ l) : (l ++ (some x).toList).Nodup := by
  rw [List.nodup_append]
  refine ⟨h, by simp, fun a ha b hb => ?_⟩
  simp only [Option.toList_some, List.mem_singleton] at hb
  subst hb
  exact fun e => hx (e ▸ ha)
noncomputable def env_rmay (R : GI) (v : Int) (l : List Int) : Env where
  P := Try.prog
  ty := tys0
  specs := specsOf [sp_has']
  heads := fun
    | 4 => some { slots := [(7, .int .i64)], boxes := [], keep := [3], inv := fun _ (x : Int × Unit) => 0 ≤ x.1 ∧ x.1 ≤ l.length ∧ (l.take x.1.toNat).all (nodeP (List.length (α := List Int) R)) = true, measure := fun _ (x : Int × Unit) => (l.length - x.1).toNat }
    | 11 => some { slots := [(8, .int .i64)], boxes := [], keep := [3], inv := fun _ (x : Int × Unit) => 0 ≤ x.1 ∧ x.1 ≤ l.length ∧ (l.take x.1.toNat).Nodup, measure := fun _ (x : Int × Unit) => (l.length - x.1).toNat }
    | _ => none
def g_rmay_vc (R : GI) (v : Int) (l : List Int) : Prop :=
  (decide (v < (0 : Int)) = false → (decide ((↑(List.length R) : Int) ≤ v) = true → ((2 : Int), ()) = (mayG R v l, ())) ∧ (decide ((↑(List.length R) : Int) ≤ v) = false → ((some (Obj.box [V.list LK.tmp LI R]) = some (Obj.box [V.list LK.tmp LI R]) ∧ True) ∧ (0 : Int) ≤ (0 : Int) ∧ (0 : Int) ≤ (↑l.length : Int) ∧ (List.take (Int.toNat (0 : Int)) l).all (nodeP (List.length R)) = true) ∧ ∀ (x : Int × Unit), (0 : Int) ≤ x.1 ∧ x.1 ≤ (↑l.length : Int) ∧ (List.take x.1.toNat l).all (nodeP (List.length R)) = true → (decide (x.1 < (↑l.length : Int)) = true → ((0 : Int) ≤ x.1 ∧ x.1 < (↑l.length : Int)) ∧ ∀ (x_1 : Int), l[x.1.toNat]? = some x_1 → (decide (x_1 < (0 : Int)) = false → ((0 : Int) ≤ x.1 ∧ x.1 < (↑l.length : Int)) ∧ ∀ (x_2 : Int), l[x.1.toNat]? = some x_2 → (decide ((↑(List.length R) : Int) ≤ x_2) = true → ((2 : Int), ()) = (mayG R v l, ())) ∧ (decide ((↑(List.length R) : Int) ≤ x_2) = false → ((-9223372036854775808 : Int) ≤ x.1 + (1 : Int) ∧ x.1 + (1 : Int) ≤ (9223372036854775807 : Int)) ∧ (some (Obj.box [V.list LK.tmp LI R]) = some (Obj.box [V.list LK.tmp LI R]) ∧ True) ∧ ((0 : Int) ≤ x.1 + (1 : Int) ∧ x.1 + (1 : Int) ≤ (↑l.length : Int) ∧ (List.take (x.1 + (1 : Int)).toNat l).all (nodeP (List.length R)) = true) ∧ ((↑l.length : Int) - (x.1 + (1 : Int))).toNat < ((↑l.length : Int) - x.1).toNat)) ∧ (decide (x_1 < (0 : Int)) = !false → ((2 : Int), ()) = (mayG R v l, ()))) ∧ (decide (x.1 < (↑l.length : Int)) = false → l.length ≤ (1000000000 : Nat) ∧ (l.contains v = true → ((26 : Int), ()) = (mayG R v l, ())) ∧ (l.contains v = false → ((some (Obj.box [V.list LK.tmp LI R]) = some (Obj.box [V.list LK.tmp LI R]) ∧ True) ∧ (0 : Int) ≤ (0 : Int) ∧ (0 : Int) ≤ (↑l.length : Int) ∧ (List.take (Int.toNat (0 : Int)) l).Nodup) ∧ ∀ (x : Int × Unit), (0 : Int) ≤ x.1 ∧ x.1 ≤ (↑l.length : Int) ∧ (List.take x.1.toNat l).Nodup → (decide (x.1 < (↑l.length : Int)) = true → ((0 : Int) ≤ x.1 ∧ x.1 ≤ (↑l.length : Int)) ∧ ((0 : Int) ≤ x.1 ∧ x.1 < (↑l.length : Int)) ∧ ∀ (x_1 : Int), l[x.1.toNat]? = some x_1 → (List.take x.1.toNat l).length ≤ (1000000000 : Nat) ∧ ((List.take x.1.toNat l).contains x_1 = true → ((35 : Int), ()) = (mayG R v l, ())) ∧ ((List.take x.1.toNat l).contains x_1 = false → ((-9223372036854775808 : Int) ≤ x.1 + (1 : Int) ∧ x.1 + (1 : Int) ≤ (9223372036854775807 : Int)) ∧ (some (Obj.box [V.list LK.tmp LI R]) = some (Obj.box [V.list LK.tmp LI R]) ∧ True) ∧ ((0 : Int) ≤ x.1 + (1 : Int) ∧ x.1 + (1 : Int) ≤ (↑l.length : Int) ∧ (List.take (x.1 + (1 : Int)).toNat l).Nodup) ∧ ((↑l.length : Int) - (x.1 + (1 : Int))).toNat < ((↑l.length : Int) - x.1).toNat)) ∧ (decide (x.1 < (↑l.length : Int)) = false → ((0 : Int), ()) = (mayG R v l, ())))))) ∧ (decide (v < (0 : Int)) = !false → ((2 : Int), ()) = (mayG R v l, ()))
theorem g_rmay_eq (R : GI) (v : Int) (l : List Int) : Cond (env_rmay R v l) Try.f85 [.agg [.list .tmp LI R], .int .i64 v, .list .tmp I l] [.int .i64] (mayG R v l, ()) = g_rmay_vc R v l := by kernel_rfl
theorem g_rmay_ok (R : GI) (v : Int) (l : List Int) (h : l.length ≤ 1000000000 ∧ R.length ≤ 1000000000) : g_rmay_vc R v l := by
  unfold g_rmay_vc
  simp only [decide_eq_true_eq, decide_eq_false_iff_not, Bool.not_eq_true', Bool.not_eq_false', Bool.not_true, Bool.not_false]
  refine ⟨fun hv => ⟨fun hv2 => ?_, fun hv2 => ⟨⟨⟨trivial, trivial⟩, by omega, by omega, rfl⟩, ?_⟩⟩, fun hv => ?_⟩
  · rw [mg_two (.inl (by simp [nodeP]; omega))]
  · have hvn : nodeP (List.length R) v = true := by simp [nodeP]; omega
    rintro ⟨i, ⟨⟩⟩ ⟨h0, h1, h2⟩
    dsimp only at h0 h1 h2 ⊢
    refine ⟨fun hi => ⟨⟨h0, hi⟩, fun x hx => ⟨fun hx0 => ⟨⟨h0, hi⟩, fun y hy => ?_⟩, fun hx0 => ?_⟩⟩, fun hi => ?_⟩
    · rw [hx] at hy
      cases hy
      refine ⟨fun hx1 => ?_, fun hx1 => ⟨by omega, ⟨trivial, trivial⟩, ⟨by omega, by omega, ?_⟩, by omega⟩⟩
      · rw [mg_two (.inr ⟨x, List.mem_of_getElem? hx, by simp [nodeP]; omega⟩)]
      · rw [show (i + 1).toNat = i.toNat + 1 by omega, List.take_add_one, hx, List.all_append, h2]
        simp [nodeP]
        omega
    · rw [mg_two (.inr ⟨x, List.mem_of_getElem? hx, by simp [nodeP]; omega⟩)]
    · have hall : l.all (nodeP (List.length R)) = true := by rwa [List.take_of_length_le (by omega)] at h2
      refine ⟨h.1, fun hc => ?_, fun hc => ⟨⟨⟨trivial, trivial⟩, by omega, by omega, by simp⟩, ?_⟩⟩
      · unfold mayG
        rw [hvn, hall, if_neg (by decide), if_pos hc]
      · rintro ⟨k, ⟨⟩⟩ ⟨k0, k1, k2⟩
        dsimp only at k0 k1 k2 ⊢
        refine ⟨fun hk => ⟨⟨k0, k1⟩, ⟨k0, hk⟩, fun x hx => ⟨by rw [List.length_take]; omega, fun hc2 => ?_, fun hc2 => ⟨by omega, ⟨trivial, trivial⟩, ⟨by omega, by omega, ?_⟩, by omega⟩⟩⟩, fun hk => ?_⟩
        · unfold mayG
          rw [hvn, hall, if_neg (by decide), if_neg (by rw [hc]; decide), if_pos]
          intro hn
          exact take_not' hn hx (List.contains_iff_mem.1 hc2)
        · rw [show (k + 1).toNat = k.toNat + 1 by omega, List.take_add_one, hx]
          refine nodup_snoc k2 fun hm => ?_
          rw [List.contains_iff_mem.2 hm] at hc2
          cases hc2
        · unfold mayG
          rw [hvn, hall, if_neg (by decide), if_neg (by rw [hc]; decide), if_neg]
          rw [List.take_of_length_le (by omega)] at k2
          exact fun hn => hn k2
  · rw [mg_two (.inl (by simp [nodeP]; omega))]
theorem rmay_pure (R : GI) (v : Int) (l : List Int) (h : l.length ≤ 1000000000 ∧ R.length ≤ 1000000000) : Pure Try.prog 85 [.agg [.list .tmp LI R], .int .i64 v, .list .tmp I l] (.int .i64 (mayG R v l)) :=
  by have k := Pure.of_cond (g_rmay_eq R v l) (g_rmay_ok R v l h) (specs_ok rfl [sp_has'] [] rfl rfl) mixed Try.func85; exact k
noncomputable def q_rmay (R : GI) (v : Int) (l : List Int) : Prop × V := (l.length ≤ 1000000000 ∧ R.length ≤ 1000000000, (.int .i64 (mayG R v l)))
noncomputable def sp_rmay : FSpec Try.prog where
 f := 85
 run := fun
  | [.agg [v0_0], .int .i64 v, v2] => (asL LI v0_0 : Option (GI)).bind fun R => (asL I v2 : Option (List Int)).bind fun l => some (q_rmay R v l)
  | _ => none
 ok := fun args pre r h hp => by
  split at h
  · rename_i v0_0 v v2
    obtain ⟨R, h0_0, h⟩ := Option.bind_eq_some_iff.1 h
    obtain ⟨l, h2, h⟩ := Option.bind_eq_some_iff.1 h
    exact of_q h hp fun h => (rmay_pure R v l h).weak (.cons (Weak.agg (.cons (asL_weak h0_0) .nil)) (.cons (.refl _) (.cons (asL_weak h2) .nil)))
  · cases h
noncomputable def env_miss (l m : List Int) : Env where
  P := Try.prog
  ty := tys0
  specs := specsOf [sp_has']
  heads := fun | 3 => some { slots := [(5, .int .i64), (6, .int .i64)], boxes := [], inv := fun _ (x : Int × Int × Unit) => 0 ≤ x.2.1 ∧ x.2.1 ≤ l.length ∧ x.1 = newsF (l.take x.2.1.toNat) m, measure := fun _ (x : Int × Int × Unit) => (l.length - x.2.1).toNat } | _ => none
def g_miss_vc (l : List Int) (m : List Int) : Prop :=
  (True ∧ (0 : Int) ≤ (0 : Int) ∧ (0 : Int) ≤ (↑l.length : Int) ∧ (0 : Int) = newsF (List.take (Int.toNat (0 : Int)) l) m) ∧ ∀ (x : Int × Int × Unit), (0 : Int) ≤ x.2.1 ∧ x.2.1 ≤ (↑l.length : Int) ∧ x.1 = newsF (List.take x.2.1.toNat l) m → (decide (x.2.1 < (↑l.length : Int)) = true → ((0 : Int) ≤ x.2.1 ∧ x.2.1 < (↑l.length : Int)) ∧ ∀ (x_1 : Int), l[x.2.1.toNat]? = some x_1 → m.length ≤ (1000000000 : Nat) ∧ ((!m.contains x_1) = true → ((-9223372036854775808 : Int) ≤ x.1 + (1 : Int) ∧ x.1 + (1 : Int) ≤ (9223372036854775807 : Int)) ∧ ((-9223372036854775808 : Int) ≤ x.2.1 + (1 : Int) ∧ x.2.1 + (1 : Int) ≤ (9223372036854775807 : Int)) ∧ True ∧ ((0 : Int) ≤ x.2.1 + (1 : Int) ∧ x.2.1 + (1 : Int) ≤ (↑l.length : Int) ∧ x.1 + (1 : Int) = newsF (List.take (x.2.1 + (1 : Int)).toNat l) m) ∧ ((↑l.length : Int) - (x.2.1 + (1 : Int))).toNat < ((↑l.length : Int) - x.2.1).toNat) ∧ ((!m.contains x_1) = false → ((-9223372036854775808 : Int) ≤ x.2.1 + (1 : Int) ∧ x.2.1 + (1 : Int) ≤ (9223372036854775807 : Int)) ∧ True ∧ ((0 : Int) ≤ x.2.1 + (1 : Int) ∧ x.2.1 + (1 : Int) ≤ (↑l.length : Int) ∧ x.1 = newsF (List.take (x.2.1 + (1 : Int)).toNat l) m) ∧ ((↑l.length : Int) - (x.2.1 + (1 : Int))).toNat < ((↑l.length : Int) - x.2.1).toNat)) ∧ (decide (x.2.1 < (↑l.length : Int)) = false → (x.1, ()) = (newsF l m, ()))
theorem g_miss_eq (l m : List Int) : Cond (env_miss l m) Try.f86 [.list .tmp I l, .list .tmp I m] [.int .i64] (newsF l m, ()) = g_miss_vc l m := by kernel_rfl
theorem g_miss_ok (l m : List Int) (h : l.length ≤ 1000000000 ∧ m.length ≤ 1000000000) : g_miss_vc l m := by
  unfold g_miss_vc
  simp only [decide_eq_true_eq, decide_eq_false_iff_not, Bool.not_eq_true', Bool.not_eq_false', Bool.not_true, Bool.not_false]
  refine ⟨⟨trivial, by omega, by omega, rfl⟩, ?_⟩
  rintro ⟨n, i, ⟨⟩⟩ ⟨h0, h1, h2⟩
  dsimp only at h0 h1 h2 ⊢
  have hb := news_le (l.take i.toNat) m
  rw [List.length_take] at hb
  refine ⟨fun hi => ⟨⟨h0, hi⟩, fun y hy => ⟨h.2, fun hc => ⟨by omega, by omega, trivial, ⟨by omega, by omega, ?_⟩, by omega⟩, fun hc => ⟨by omega, trivial, ⟨by omega, by omega, ?_⟩, by omega⟩⟩⟩, fun hi => ?_⟩
  · rw [show (i + 1).toNat = i.toNat + 1 by omega, news_take hy, if_neg (by rw [hc]; decide), h2]
  · rw [show (i + 1).toNat = i.toNat + 1 by omega, news_take hy, if_pos hc, h2]
    omega
  · rw [h2, List.take_of_length_le (by omega)]
theorem miss_pure (l m : List Int) (h : l.length ≤ 1000000000 ∧ m.length ≤ 1000000000) : Pure Try.prog 86 [.list .tmp I l, .list .tmp I m] (.int .i64 (newsF l m)) :=
  by have k := Pure.of_cond (g_miss_eq l m) (g_miss_ok l m h) (specs_ok rfl [sp_has'] [] rfl rfl) mixed Try.func86; exact k
noncomputable def q_miss (l m : List Int) : Prop × V := (l.length ≤ 1000000000 ∧ m.length ≤ 1000000000, (.int .i64 (newsF l m)))
noncomputable def sp_miss : FSpec Try.prog where
 f := 86
 run := fun
  | [v0, v1] => (asL I v0 : Option (List Int)).bind fun l => (asL I v1 : Option (List Int)).bind fun m => some (q_miss l m)
  | _ => none
 ok := fun args pre r h hp => by
  split at h
  · rename_i v0 v1
    obtain ⟨l, h0, h⟩ := Option.bind_eq_some_iff.1 h
    obtain ⟨m, h1, h⟩ := Option.bind_eq_some_iff.1 h
    exact of_q h hp fun h => (miss_pure l m h).weak (.cons (asL_weak h0) (.cons (asL_weak h1) .nil))
  · cases h
end Go.Proofs.Ytojflfogjkajaaa.Gr
end
section
namespace Go.Proofs.Ytojflfogjkajaaa.Gr
open Go.Vm
def RSm (R : GI) (l : List Int) : Prop := l.length ≤ 1000000000 ∧ R.length ≤ 1000000000 ∧ ∀ x ∈ R, x.length ≤ 1000000000
def setG (R : GI) (v : Int) (l : List Int) : GI := if mayG R v l = 0 then R.set v.toNat l else R
def addG (R : GI) (v : Int) (l : List Int) : Int := if mayG R v l = 0 then newsF l (R.getD v.toNat []) else 0
def dropG (R : GI) (v : Int) (l : List Int) : Int := if mayG R v l = 0 then newsF (R.getD v.toNat []) l else 0
theorem mayG_ok {R : GI} {v : Int} {l : List Int} (h : mayG R v l = 0) : (0 ≤ v ∧ v < R.length) ∧ (∀ x ∈ l, 0 ≤ x ∧ x < R.length ∧ x ≠ v) ∧ l.Nodup := by
  have hR : 0 < R.length := by
    by_cases h0 : 0 < R.length
    · exact h0
    · rw [mg_two (.inl (by simp [nodeP]; omega))] at h
      cases h
  rw [← may_eq hR] at h
  exact (may_ok h).2
theorem reads_le {R : GI} {v : Int} (h : ∀ x ∈ R, x.length ≤ 1000000000) : (readsF R v).length ≤ 1000000000 := by
  unfold readsF
  split
  · rename_i hv
    rw [List.getD_eq_getElem?_getD, List.getElem?_eq_getElem (show v.toNat < R.length by omega)]
    exact h _ (List.getElem_mem _)
  · simp
noncomputable def env_rset (R : GI) (v : Int) (l : List Int) : Env where
  P := Try.prog
  ty := tys0
  specs := specsOf [sp_rmay, sp_miss]
  frz := fun | 28 => true | _ => false
abbrev ann_rset : Ann := { slots := numP 0 [.list .part LI, .int .i64, .int .i64, .int .i64], boxes := [], inv := fun _ _ => True }
def g_rset_vc (R : GI) (v : Int) (l : List Int) : Prop :=
  (l.length ≤ (1000000000 : Nat) ∧ List.length R ≤ (1000000000 : Nat)) ∧ ((!decide (mayG R v l = (0 : Int))) = true → True ∧ (R, (0 : Int), (0 : Int), mayG R v l, ()) = (setG R v l, addG R v l, dropG R v l, mayG R v l, ())) ∧ ((!decide (mayG R v l = (0 : Int))) = false → (((0 : Nat) + List.length R) * (24 : Nat) ≤ (140737488355328 : Nat) ∧ (0 : Nat) + List.length R ≤ (4611686018427387904 : Nat) ∧ ((0 : Nat) < List.length R ∨ (0 : Nat) = (0 : Nat))) ∧ (((0 : Nat) + l.length) * (8 : Nat) ≤ (140737488355328 : Nat) ∧ (0 : Nat) + l.length ≤ (4611686018427387904 : Nat) ∧ ((0 : Nat) < l.length ∨ (0 : Nat) = (0 : Nat))) ∧ ((0 : Int) ≤ v ∧ v < (↑(List.length R) : Int)) ∧ v.toNat < List.length R ∧ ∀ (y : List Int), R[v.toNat]? = some y → ((0 : Int) ≤ v ∧ v < (↑(List.length R) : Int)) ∧ ∀ (x : List Int), R[v.toNat]? = some x → (l.length ≤ (1000000000 : Nat) ∧ x.length ≤ (1000000000 : Nat)) ∧ ((0 : Int) ≤ v ∧ v < (↑(List.length R) : Int)) ∧ ∀ (x_1 : List Int), R[v.toNat]? = some x_1 → (x_1.length ≤ (1000000000 : Nat) ∧ l.length ≤ (1000000000 : Nat)) ∧ True ∧ (List.set R v.toNat l, newsF l x, newsF x_1 l, (0 : Int), ()) = (setG R v l, addG R v l, dropG R v l, mayG R v l, ()))
theorem g_rset_eq (R : GI) (v : Int) (l : List Int) : CondG (env_rset R v l) Try.f54 [.agg [.list .part LI R], .int .i64 v, .list .tmp I l] [some 1, none, none, none] ann_rset (setG R v l, addG R v l, dropG R v l, mayG R v l, ()) = g_rset_vc R v l := by kernel_rfl
theorem g_rset_ok (R : GI) (v : Int) (l : List Int) (h : RSm R l) : g_rset_vc R v l := by
  unfold g_rset_vc
  simp only [decide_eq_true_eq, decide_eq_false_iff_not, Bool.not_eq_true', Bool.not_eq_false', Bool.not_true, Bool.not_false]
  obtain ⟨h1, h2, h3⟩ := h
  refine ⟨⟨h1, h2⟩, fun hm => ⟨trivial, ?_⟩, fun hm => ?_⟩
  · rw [setG, addG, dropG, if_neg hm, if_neg hm, if_neg hm]
  · obtain ⟨⟨v0, v1⟩, _⟩ := mayG_ok hm
    refine ⟨⟨by omega, by omega, .inr trivial⟩, ⟨by omega, by omega, .inr trivial⟩, ⟨v0, v1⟩, by omega, fun y hy => ⟨⟨v0, v1⟩, fun x hx => ⟨⟨h1, h3 x (List.mem_of_getElem? hx)⟩, ⟨v0, v1⟩, fun z hz => ⟨⟨h3 z (List.mem_of_getElem? hz), h1⟩, trivial, ?_⟩⟩⟩⟩
    rw [setG, addG, dropG, if_pos hm, if_pos hm, if_pos hm, hm, List.getD_eq_getElem?_getD, hx]
    rw [hx] at hz
    cases hz
    rfl
set_option maxRecDepth 20000
theorem rset_pure (R : GI) (v : Int) (l : List Int) (h : RSm R l) : Pure Try.prog 54 [.agg [.list .part LI R], .int .i64 v, .list .tmp I l] (.tuple [.agg [.list .part LI (setG R v l)], .int .i64 (addG R v l), .int .i64 (dropG R v l), .int .i64 (mayG R v l)]) :=
  by have k := Pure.of_condG (r := (.tuple [.agg [.list .part LI (setG R v l)], .int .i64 (addG R v l), .int .i64 (dropG R v l), .int .i64 (mayG R v l)])) (g_rset_eq R v l) (g_rset_ok R v l h) rfl (specs_ok rfl [sp_rmay, sp_miss] [] rfl rfl) mixed Try.func54; exact k
noncomputable def q_rset (R : GI) (v : Int) (l : List Int) : Prop × V := (RSm R l, (.tuple [.agg [.list .part LI (setG R v l)], .int .i64 (addG R v l), .int .i64 (dropG R v l), .int .i64 (mayG R v l)]))
noncomputable def sp_rset : FSpec Try.prog where
 f := 54
 run := fun
  | [.agg [v0_0], .int .i64 v, v2] => (asP LI v0_0 : Option (GI)).bind fun R => (asL I v2 : Option (List Int)).bind fun l => some (q_rset R v l)
  | _ => none
 ok := fun args pre r h hp => by
  split at h
  · rename_i v0_0 v v2
    obtain ⟨R, h0_0, h⟩ := Option.bind_eq_some_iff.1 h
    obtain ⟨l, h2, h⟩ := Option.bind_eq_some_iff.1 h
    exact of_q h hp fun h => (rset_pure R v l h).weak (.cons (Weak.agg (.cons (asP_weak h0_0) .nil)) (.cons (.refl _) (.cons (asL_weak h2) .nil)))
  · cases h
def rdGo (R : GI) (v : Int) (n : Nat) : List Int := ((List.range n).filter fun i => (R.getD i []).contains v).map fun (i : Nat) => (i : Int)
theorem rdGo_le (R : GI) (v : Int) (n : Nat) : (rdGo R v n).length ≤ n := by
  unfold rdGo
  rw [List.length_map]
  exact Nat.le_trans (List.length_filter_le _ _) (by simp)
noncomputable def env_rnew (m : Int) : Env where
  P := Try.prog
  ty := tys0
abbrev ann_rnew : Ann := { slots := numP 0 [.list .part LI, .int .i64], boxes := [], inv := fun _ _ => True }
def g_rnew_vc (m : Int) : Prop :=
  (decide (m < (1 : Int)) = false → (decide ((20000 : Int) < m) = true → True ∧ ([], (2 : Int), ()) = (newR m, newE m, ())) ∧ (decide ((20000 : Int) < m) = false → ((0 : Int) ≤ m ∧ m ≤ m ∧ m * (↑(24 : Nat) : Int) ≤ (140737488355328 : Int) ∧ m ≤ (4611686018427387904 : Int)) ∧ True ∧ (List.replicate m.toNat [], (0 : Int), ()) = (newR m, newE m, ()))) ∧ (decide (m < (1 : Int)) = !false → True ∧ ([], (2 : Int), ()) = (newR m, newE m, ()))
theorem g_rnew_eq (m : Int) : CondG (env_rnew m) Try.f53 [.int .i64 m] [some 1, none] ann_rnew (newR m, newE m, ()) = g_rnew_vc m := by kernel_rfl
theorem g_rnew_ok (m : Int) : g_rnew_vc m := by
  unfold g_rnew_vc
  simp only [decide_eq_true_eq, decide_eq_false_iff_not, Bool.not_eq_true', Bool.not_eq_false', Bool.not_true, Bool.not_false]
  refine ⟨fun h1 => ⟨fun h2 => ⟨trivial, ?_⟩, fun h2 => ⟨⟨by omega, by omega, by omega, by omega⟩, trivial, ?_⟩⟩, fun h1 => ⟨trivial, ?_⟩⟩
  · rw [newR, newE, if_neg (by omega), if_neg (by omega)]
  · rw [newR, newE, if_pos (by omega), if_pos (by omega)]
  · rw [newR, newE, if_neg (by omega), if_neg (by omega)]
theorem rnew_pure (m : Int) : Pure Try.prog 53 [.int .i64 m] (.tuple [.agg [.list .part LI (newR m)], .int .i64 (newE m)]) :=
  by have k := Pure.of_condG (r := (.tuple [.agg [.list .part LI (newR m)], .int .i64 (newE m)])) (g_rnew_eq m) (g_rnew_ok m) rfl (specs_ok rfl [] [] rfl rfl) mixed Try.func53; exact k
noncomputable def q_rnew (m : Int) : Prop × V := (True, (.tuple [.agg [.list .part LI (newR m)], .int .i64 (newE m)]))
noncomputable def sp_rnew : FSpec Try.prog where
 f := 53
 run := fun
  | [.int .i64 m] => some (q_rnew m)
  | _ => none
 ok := fun args pre r h hp => by
  split at h
  · rename_i m
    exact of_q h hp fun h => (rnew_pure m).weak (.cons (.refl _) .nil)
  · cases h
end Go.Proofs.Ytojflfogjkajaaa.Gr
end
section
namespace Go.Proofs.Ytojflfogjkajaaa.Gr
open Go.Vm
noncomputable def fewF (l : List Ac) : Bool := decide (l.length ≤ 60) && l.all fun x => decide (x.2.length ≤ 30)
theorem few_mem {l : List Ac} (h : fewF l = true) (x : Ac) (hx : x ∈ l) : x.2.length ≤ 30 := by
  unfold fewF at h
  rw [Bool.and_eq_true, List.all_eq_true] at h
  have := h.2 x hx
  simpa using this
theorem few_len {l : List Ac} (h : fewF l = true) : l.length ≤ 60 := by
  unfold fewF at h
  rw [Bool.and_eq_true] at h
  simpa using h.1
noncomputable def env_few (l : List Ac) : Env where
  P := Try.prog
  ty := tys0
  heads := fun | 4 => some { slots := [(3, .int .i64)], boxes := [], inv := fun _ (x : Int × Unit) => 0 ≤ x.1 ∧ x.1 ≤ l.length ∧ (l.take x.1.toNat).all (fun x => decide (List.length (α := Int) x.2 ≤ 30)) = true, measure := fun _ (x : Int × Unit) => (l.length - x.1).toNat } | _ => none
def g_few_vc (l : List Ac) : Prop :=
  (decide ((60 : Int) < (↑l.length : Int)) = true → (false, ()) = (fewF l, ())) ∧ (decide ((60 : Int) < (↑l.length : Int)) = false → (True ∧ (0 : Int) ≤ (0 : Int) ∧ (0 : Int) ≤ (↑l.length : Int) ∧ ((List.take (Int.toNat (0 : Int)) l).all fun x => decide (x.2.length ≤ (30 : Nat))) = true) ∧ ∀ (x : Int × Unit), (0 : Int) ≤ x.1 ∧ x.1 ≤ (↑l.length : Int) ∧ ((List.take x.1.toNat l).all fun x => decide (x.2.length ≤ (30 : Nat))) = true → (decide (x.1 < (↑l.length : Int)) = true → ((0 : Int) ≤ x.1 ∧ x.1 < (↑l.length : Int)) ∧ ∀ (x_1 : Int × List Int), l[x.1.toNat]? = some x_1 → (decide ((30 : Int) < (↑x_1.2.length : Int)) = true → (false, ()) = (fewF l, ())) ∧ (decide ((30 : Int) < (↑x_1.2.length : Int)) = false → ((-9223372036854775808 : Int) ≤ x.1 + (1 : Int) ∧ x.1 + (1 : Int) ≤ (9223372036854775807 : Int)) ∧ True ∧ ((0 : Int) ≤ x.1 + (1 : Int) ∧ x.1 + (1 : Int) ≤ (↑l.length : Int) ∧ ((List.take (x.1 + (1 : Int)).toNat l).all fun x => decide (x.2.length ≤ (30 : Nat))) = true) ∧ ((↑l.length : Int) - (x.1 + (1 : Int))).toNat < ((↑l.length : Int) - x.1).toNat)) ∧ (decide (x.1 < (↑l.length : Int)) = false → (true, ()) = (fewF l, ())))
theorem g_few_eq (l : List Ac) : Cond (env_few l) Try.f15 [.list .tmp AcT l] [.bool] (fewF l, ()) = g_few_vc l := by kernel_rfl
theorem g_few_ok (l : List Ac) : g_few_vc l := by
  unfold g_few_vc
  simp only [decide_eq_true_eq, decide_eq_false_iff_not, Bool.not_eq_true', Bool.not_eq_false', Bool.not_true, Bool.not_false]
  refine ⟨fun h => ?_, fun h => ⟨⟨trivial, by omega, by omega, rfl⟩, ?_⟩⟩
  · have : fewF l = false := by
      unfold fewF
      rw [decide_eq_false (by omega), Bool.false_and]
    rw [this]
  · rintro ⟨i, ⟨⟩⟩ ⟨h0, h1, h2⟩
    dsimp only at h0 h1 h2 ⊢
    refine ⟨fun hi => ⟨⟨h0, hi⟩, fun y hy => ⟨fun hc => ?_, fun hc => ⟨by omega, trivial, ⟨by omega, by omega, ?_⟩, by omega⟩⟩⟩, fun hi => ?_⟩
    · have : fewF l = false := by
        rw [← Bool.not_eq_true]
        intro hf
        have := few_mem hf y (List.mem_of_getElem? hy)
        omega
      rw [this]
    · rw [show (i + 1).toNat = i.toNat + 1 by omega, List.take_add_one, hy, List.all_append, h2]
      simp
      omega
    · rw [List.take_of_length_le (by omega)] at h2
      have : fewF l = true := by
        unfold fewF
        rw [h2, decide_eq_true (by omega), Bool.true_and]
      rw [this]
set_option maxRecDepth 20000
theorem few_pure (l : List Ac) : Pure Try.prog 15 [.list .tmp AcT l] (.bool (fewF l)) :=
  by have k := Pure.of_cond (g_few_eq l) (g_few_ok l) (specs_ok rfl [] [] rfl rfl) mixed Try.func15; exact k
noncomputable def q_few (l : List Ac) : Prop × V := (True, (.bool (fewF l)))
noncomputable def sp_few : FSpec Try.prog where
 f := 15
 run := fun
  | [v0] => (asL AcT v0 : Option (List Ac)).bind fun l => some (q_few l)
  | _ => none
 ok := fun args pre r h hp => by
  split at h
  · rename_i v0
    obtain ⟨l, h0, h⟩ := Option.bind_eq_some_iff.1 h
    exact of_q h hp fun h => (few_pure l).weak (.cons (asL_weak h0) .nil)
  · cases h
def actsR (R : GI) : List Ac → GI
  | [] => R
  | x :: r => actsR (setG R x.1 x.2) r
theorem setG_len (R : GI) (v : Int) (l : List Int) : (setG R v l).length = R.length := by
  unfold setG
  split
  · rw [List.length_set]
  · rfl
theorem setG_le {R : GI} {v : Int} {l : List Int} (h : ∀ y ∈ R, y.length ≤ 1000000000) (hl : l.length ≤ 1000000000) : ∀ y ∈ setG R v l, y.length ≤ 1000000000 := by
  unfold setG
  split
  · intro y hy
    rcases List.mem_or_eq_of_mem_set hy with h1 | rfl
    · exact h y h1
    · exact hl
  · exact h
theorem newR_le (m : Int) : ∀ y ∈ newR m, y.length ≤ 1000000000 := by
  intro y hy
  unfold newR at hy
  split at hy
  · rw [(List.mem_replicate.1 hy).2]
    simp
  · cases hy
theorem new_nil (m : Int) : (decide ((newR m).length = 0) == !decide (newE m = 0)) = true := by
  rw [newR_len, newE]
  split
  · have : ¬ m.toNat = 0 := by omega
    simp [this]
  · rfl
theorem acts_nil : ∀ l : List Ac, actsR [] l = []
  | [] => rfl
  | x :: r => by
    have : setG [] x.1 x.2 = [] := by
      unfold setG
      rw [mg_two (.inl (by simp [nodeP]))]
      rfl
    rw [actsR, this, acts_nil r]
noncomputable def env_made (m : Int) (l : List Ac) : Env where
  P := Try.prog
  ty := tys0
  specs := specsOf [sp_rnew, sp_rset]
  upd := updsOf [onew.upd, oset.upd]
  frz := fun | 26 => true | 78 => true | _ => false
  heads := fun | 6 => some { slots := [(7, .opq 100100 .graph), (11, .int .i64)], boxes := [(9, [.list .part LI])], keep := [5], inv := fun _ (x : GI × Int × GI × Unit) => 0 ≤ x.2.1 ∧ x.2.1 ≤ l.length ∧ x.2.2.1 = x.1 ∧ x.1.length = (newR m).length ∧ actsR x.1 (l.drop x.2.1.toNat) = actsR (newR m) l ∧ ∀ y ∈ x.1, List.length y ≤ 1000000000, measure := fun _ (x : GI × Int × GI × Unit) => (l.length - x.2.1).toNat } | _ => none
abbrev ann_made : Ann := { slots := numP 0 [.opq 0 .graph, .list .part LI, .bool], boxes := [], inv := fun _ _ => True }
def g_made_vc (m : Int) (l : List Ac) : Prop :=
  True ∧ True ∧ ((!decide (newE m = newE m)) = false → ((!decide (List.length (newR m) = (0 : Nat)) == !decide (newE m = (0 : Int))) = true → False) ∧ ((!decide (List.length (newR m) = (0 : Nat)) == !decide (newE m = (0 : Int))) = false → ((some (Obj.box [V.nils]) = some (Obj.box [V.nils]) ∧ True) ∧ (0 : Int) ≤ (0 : Int) ∧ (0 : Int) ≤ (↑l.length : Int) ∧ newR m = newR m ∧ List.length (newR m) = List.length (newR m) ∧ actsR (newR m) (List.drop (Int.toNat (0 : Int)) l) = actsR (newR m) l ∧ ∀ (y : List Int), y ∈ newR m → y.length ≤ (1000000000 : Nat)) ∧ ∀ (x : List (List Int) × Int × List (List Int) × Unit), ((0 : Int) ≤ x.2.1 ∧ x.2.1 ≤ (↑l.length : Int) ∧ x.2.2.1 = x.1 ∧ x.1.length = List.length (newR m) ∧ actsR x.1 (List.drop x.2.1.toNat l) = actsR (newR m) l ∧ ∀ (y : List Int), y ∈ x.1 → y.length ≤ (1000000000 : Nat)) → (decide (x.2.1 < (↑l.length : Int)) = true → (decide (newE m = (0 : Int)) = true → ((0 : Int) ≤ x.2.1 ∧ x.2.1 < (↑l.length : Int)) ∧ ∀ (x_1 : Int × List Int), l[x.2.1.toNat]? = some x_1 → ((0 : Int) ≤ x.2.1 ∧ x.2.1 < (↑l.length : Int)) ∧ ∀ (x_2 : Int × List Int), l[x.2.1.toNat]? = some x_2 → x_2.2.length ≤ (1000000000 : Nat) ∧ ((0 : Int) ≤ x.2.1 ∧ x.2.1 < (↑l.length : Int)) ∧ ∀ (x_3 : Int × List Int), l[x.2.1.toNat]? = some x_3 → ((0 : Int) ≤ x.2.1 ∧ x.2.1 < (↑l.length : Int)) ∧ ∀ (x_4 : Int × List Int), l[x.2.1.toNat]? = some x_4 → RSm x.2.2.1 x_4.2 ∧ ((!decide (addedF x.1 x_1.1 x_2.2 = addG x.2.2.1 x_3.1 x_4.2)) = false → ((!decide (droppedF x.1 x_1.1 x_2.2 = dropG x.2.2.1 x_3.1 x_4.2)) = false → ((!decide (mayF x.1 x_1.1 x_2.2 = mayG x.2.2.1 x_3.1 x_4.2)) = true → True ∧ (setR x.1 x_1.1 x_2.2, setG x.2.2.1 x_3.1 x_4.2, false, ()) = (actsR (newR m) l, actsR (newR m) l, true, ())) ∧ ((!decide (mayF x.1 x_1.1 x_2.2 = mayG x.2.2.1 x_3.1 x_4.2)) = false → ((-9223372036854775808 : Int) ≤ x.2.1 + (1 : Int) ∧ x.2.1 + (1 : Int) ≤ (9223372036854775807 : Int)) ∧ (some (Obj.box [V.nils]) = some (Obj.box [V.nils]) ∧ True) ∧ ((0 : Int) ≤ x.2.1 + (1 : Int) ∧ x.2.1 + (1 : Int) ≤ (↑l.length : Int) ∧ setG x.2.2.1 x_3.1 x_4.2 = setR x.1 x_1.1 x_2.2 ∧ List.length (setR x.1 x_1.1 x_2.2) = List.length (newR m) ∧ actsR (setR x.1 x_1.1 x_2.2) (List.drop (x.2.1 + (1 : Int)).toNat l) = actsR (newR m) l ∧ ∀ (y : List Int), y ∈ setR x.1 x_1.1 x_2.2 → y.length ≤ (1000000000 : Nat)) ∧ ((↑l.length : Int) - (x.2.1 + (1 : Int))).toNat < ((↑l.length : Int) - x.2.1).toNat)) ∧ ((!decide (droppedF x.1 x_1.1 x_2.2 = dropG x.2.2.1 x_3.1 x_4.2)) = !false → True ∧ (setR x.1 x_1.1 x_2.2, setG x.2.2.1 x_3.1 x_4.2, false, ()) = (actsR (newR m) l, actsR (newR m) l, true, ()))) ∧ ((!decide (addedF x.1 x_1.1 x_2.2 = addG x.2.2.1 x_3.1 x_4.2)) = !false → True ∧ (setR x.1 x_1.1 x_2.2, setG x.2.2.1 x_3.1 x_4.2, false, ()) = (actsR (newR m) l, actsR (newR m) l, true, ()))) ∧ (decide (newE m = (0 : Int)) = false → True ∧ (x.1, x.2.2.1, true, ()) = (actsR (newR m) l, actsR (newR m) l, true, ()))) ∧ (decide (x.2.1 < (↑l.length : Int)) = !true → True ∧ (x.1, x.2.2.1, true, ()) = (actsR (newR m) l, actsR (newR m) l, true, ())))) ∧ ((!decide (newE m = newE m)) = !false → False)
theorem g_made_eq (m : Int) (l : List Ac) : CondO (env_made m l) Try.f17 [.int .i64 m, .list .tmp AcT l] [] [none, some 1, none] ann_made (actsR (newR m) l, actsR (newR m) l, true, ()) = g_made_vc m l := by kernel_rfl
theorem g_made_ok (m : Int) (l : List Ac) (h : fewF l = true) : g_made_vc m l := by
  unfold g_made_vc
  simp only [decide_eq_true_eq, decide_eq_false_iff_not, Bool.not_eq_true', Bool.not_eq_false', Bool.not_true, Bool.not_false]
  have h60 := few_len h
  refine ⟨trivial, trivial, fun _ => ⟨fun hc => ?_, fun _ => ⟨⟨⟨trivial, trivial⟩, by omega, by omega, trivial, trivial, rfl, newR_le m⟩, ?_⟩⟩, fun hc => absurd trivial hc⟩
  · rw [new_nil] at hc
    cases hc
  rintro ⟨R, i, Q, ⟨⟩⟩ ⟨h0, h1, h2, h3, h4, h5⟩
  dsimp only at h0 h1 h2 h3 h4 h5 ⊢
  subst h2
  refine ⟨fun hi => ⟨fun hE => ⟨⟨h0, hi⟩, fun x hx => ⟨⟨h0, hi⟩, fun x2 hx2 => ?_⟩⟩, fun hE => ⟨trivial, ?_⟩⟩, fun hi => ⟨trivial, ?_⟩⟩
  · have hR : 0 < Q.length := by
      rw [h3, newR_len]
      unfold newE at hE
      split at hE
      · rename_i h
        rw [if_pos h]; omega
      · cases hE
    rw [hx] at hx2
    cases hx2
    have hx30 := few_mem h x (List.mem_of_getElem? hx)
    refine ⟨by omega, ⟨h0, hi⟩, fun x3 hx3 => ⟨⟨h0, hi⟩, fun x4 hx4 => ?_⟩⟩
    rw [hx] at hx3 hx4
    cases hx3
    cases hx4
    have e1 := may_eq hR x.1 x.2
    have e2 : setR Q x.1 x.2 = setG Q x.1 x.2 := by rw [setR, setG, e1]
    have e3 : addedF Q x.1 x.2 = addG Q x.1 x.2 := by rw [addedF, addG, e1]
    have e4 : droppedF Q x.1 x.2 = dropG Q x.1 x.2 := by rw [droppedF, dropG, e1]
    have hlen : (newR m).length ≤ 20000 := by rw [newR_len]; split <;> omega
    have hset := setG_le (v := x.1) h5 (show x.2.length ≤ 1000000000 by omega)
    refine ⟨⟨by omega, by rw [h3]; omega, h5⟩, fun _ => ⟨fun _ => ⟨fun hne => absurd e1 hne, fun _ => ⟨by omega, ⟨trivial, trivial⟩, ⟨by omega, by omega, e2.symm, by rw [e2, setG_len]; exact h3, ?_, by rw [e2]; exact hset⟩, by omega⟩⟩, fun hne => absurd e4 hne⟩, fun hne => absurd e3 hne⟩
    rw [← h4, show (i + 1).toNat = i.toNat + 1 by omega, List.drop_eq_getElem_cons (show i.toNat < l.length by omega), actsR, e2]
    obtain ⟨hk, rfl⟩ := List.getElem?_eq_some_iff.1 hx
    rfl
  · have hR : newR m = [] := by
      unfold newE at hE
      split at hE
      · exact absurd rfl hE
      · rename_i h
        rw [newR, if_neg h]
    rw [hR] at h3 h4 ⊢
    rw [List.eq_nil_of_length_eq_zero h3, acts_nil]
  · rw [List.drop_of_length_le (by omega)] at h4
    rw [← h4]
    rfl
theorem made_upd (m : Int) (l : List Ac) (h : fewF l = true) : UpdC Try.prog 17 [.int .i64 m, .list .tmp AcT l] [] (.tuple [.oref 0, .agg [.list .part LI (actsR (newR m) l)], .bool true]) [(0, .opq .graph (actsR (newR m) l))] :=
  by have k := UpdC.of_cond (g_made_eq m l) (g_made_ok m l h) (specs_ok rfl [sp_rnew, sp_rset] [onew.upd, oset.upd] rfl rfl) mixed Try.func17; exact k
noncomputable def q_made (m : Int) (l : List Ac) : Prop × V × Store := (fewF l = true, .tuple [.oref 0, .agg [.list .part LI (actsR (newR m) l)], .bool true], [(0, .opq .graph (actsR (newR m) l))])
noncomputable def so_made : OSpec Try.prog where
 f := 17
 run := fun args σ => match args, σ with
  | [.int .i64 m, v1], [] => (asL AcT v1 : Option (List Ac)).bind fun l => some (q_made m l)
  | _, _ => none
 ok := fun args σ pre r σ' h hp => by
  try dsimp only at h
  split at h
  · rename_i m v1
    obtain ⟨l, h1, h⟩ := Option.bind_eq_some_iff.1 h
    exact of_qo h hp fun h => (made_upd m l h).weak (.cons (.refl _) (.cons (asL_weak h1) .nil))
  · cases h
end Go.Proofs.Ytojflfogjkajaaa.Gr
end
section
namespace Go.Proofs.Ytojflfogjkajaaa.Gr
open Go.Vm
theorem gok_le {R : GI} (h : GOk R) : ∀ x ∈ R, x.length ≤ 1000000000 := fun x hx => by
  obtain ⟨v, hv⟩ := List.getElem?_of_mem hx
  exact g_small h hv
theorem rds_eq {R : GI} (h : GOk R) (v : Int) : rdsF R v = rdGo R v R.length := by
  unfold rdsF
  split
  · rename_i hv
    unfold readersF rdGo
    rw [Int.toNat_of_nonneg hv.1]
  · rename_i hv
    unfold rdGo
    symm
    rw [List.map_eq_nil_iff, List.filter_eq_nil_iff]
    intro i hi
    rw [List.mem_range] at hi
    rw [List.getD_eq_getElem?_getD, List.getElem?_eq_getElem hi]
    intro hc
    have := (h.2 i _ (List.getElem?_eq_getElem hi)).2 v (List.contains_iff_mem.1 hc)
    exact hv ⟨this.1, this.2.1⟩
theorem rds_le {R : GI} (h : GOk R) (v : Int) : (rdsF R v).length ≤ 1000000000 := by
  rw [rds_eq h]
  exact Nat.le_trans (rdGo_le R v _) (by have := h.1; omega)
set_option maxRecDepth 20000
end Go.Proofs.Ytojflfogjkajaaa.Gr
end
section
namespace Go.Proofs.Ytojflfogjkajaaa.Gr
open Go.Vm
theorem gok_setR {R : GI} {v : Int} {l : List Int} (h : GOk R) : GOk (setR R v l) := by
  unfold setR
  split
  · rename_i hm
    exact gok_set h hm
  · exact h
theorem setR_setG {R : GI} (h : 0 < R.length) (v : Int) (l : List Int) : setR R v l = setG R v l := by rw [setR, setG, may_eq h]
theorem gok_acts : ∀ (l : List Ac) (R : GI), GOk R → GOk (actsR R l)
  | [], _, h => h
  | x :: r, R, h => by
    by_cases h0 : 0 < R.length
    · rw [actsR, ← setR_setG h0]
      exact gok_acts r _ (gok_setR h)
    · rw [List.eq_nil_of_length_eq_zero (show R.length = 0 by omega), acts_nil]
      exact ⟨by simp, fun v l hl => by simp at hl⟩
theorem gok_new (m : Int) : GOk (newR m) := by
  unfold newR
  split
  · exact gok_none _ (by omega)
  · exact ⟨by simp, fun v l hl => by simp at hl⟩
theorem reads_at {R : GI} {v : Int} (hv : 0 ≤ v ∧ v < R.length) : R[v.toNat]? = some (readsF R v) := by
  rw [readsF, if_pos hv, List.getD_eq_getElem?_getD, List.getElem?_eq_getElem (show v.toNat < R.length by omega)]
  rfl
theorem has_both {R : GI} {v w : Int} (hv : 0 ≤ v ∧ v < R.length) (hw : 0 ≤ w ∧ w < R.length) : (readsF R v).contains w = (rdsF R w).contains v := by
  rw [rdsF, if_pos hw, Bool.eq_iff_iff, List.contains_iff_mem, List.contains_iff_mem, mem_readers, Int.toNat_of_nonneg hw.1, readsF, if_pos hv]
  constructor
  · intro h
    exact ⟨v.toNat, by omega, by omega, h⟩
  · rintro ⟨u, h1, h2, h3⟩
    rw [show v.toNat = u by omega]
    exact h3
def thG (R : GI) (n : Nat) : Int := ((List.range n).map fun v => ((R.getD v []).length : Int)).sum
theorem thG_succ (R : GI) (n : Nat) : thG R (n + 1) = thG R n + (R.getD n []).length := by
  unfold thG
  rw [List.range_succ, List.map_append, List.sum_append]
  simp
def cntG (R : GI) (k n : Nat) : Int := ((List.range n).map fun (w : Nat) => (((List.range k).filter fun v => (R.getD v []).contains (w : Int)).length : Int)).sum
theorem cnt_one (l : List Int) : ∀ n : Nat, ((List.range n).map fun (w : Nat) => if l.contains (w : Int) = true then (1 : Int) else 0).sum = ((List.range n).filter fun (w : Nat) => l.contains (w : Int)).length
  | 0 => rfl
  | n + 1 => by
    rw [List.range_succ, List.map_append, List.sum_append, cnt_one l n, List.filter_append, List.length_append]
    by_cases h : l.contains (n : Int) = true
    · rw [List.filter_cons, if_pos h]
      simp only [List.map_cons, List.map_nil, List.sum_cons, List.sum_nil, h, if_true, List.filter_nil, List.length_cons, List.length_nil]
      omega
    · rw [List.filter_cons, if_neg h]
      simp only [List.map_cons, List.map_nil, List.sum_cons, List.sum_nil, h, if_false, List.filter_nil, List.length_nil]
      simp
theorem cnt_len {l : List Int} {n : Nat} (h1 : l.Nodup) (h2 : ∀ x ∈ l, 0 ≤ x ∧ x < n) : ((List.range n).filter fun (w : Nat) => l.contains (w : Int)).length = l.length := by
  have : ((((List.range n).filter fun (w : Nat) => l.contains (w : Int))).map fun (w : Nat) => (w : Int)).Perm l := by
    rw [List.perm_ext_iff_of_nodup _ h1]
    · intro x
      simp only [List.mem_map, List.mem_filter, List.mem_range, List.contains_iff_mem]
      constructor
      · rintro ⟨w, ⟨_, h⟩, rfl⟩
        exact h
      · intro hx
        have := h2 x hx
        exact ⟨x.toNat, ⟨by omega, by rw [Int.toNat_of_nonneg this.1]; exact hx⟩, by omega⟩
    · rw [List.nodup_iff_pairwise_ne, List.pairwise_map]
      refine List.Pairwise.imp (fun {a b} hne e => hne (by omega)) (List.nodup_iff_pairwise_ne.1 (List.nodup_range.filter _))
  have h := this.length_eq
  rwa [List.length_map] at h
theorem cnt_sum (f g : Nat → Int) : ∀ n : Nat, ((List.range n).map fun w => f w + g w).sum = ((List.range n).map f).sum + ((List.range n).map g).sum
  | 0 => rfl
  | n + 1 => by
    rw [List.range_succ, List.map_append, List.map_append, List.map_append, List.sum_append, List.sum_append, List.sum_append, cnt_sum f g n]
    simp
    omega
theorem cnt_succ (R : GI) (k n : Nat) : cntG R (k + 1) n = cntG R k n + ((List.range n).map fun (w : Nat) => if (R.getD k []).contains (w : Int) = true then (1 : Int) else 0).sum := by
  unfold cntG
  rw [← cnt_sum]
  congr 1
  apply List.map_congr_left
  intro w _
  rw [List.range_succ, List.filter_append, List.length_append]
  by_cases h : (R.getD k []).contains (w : Int) = true
  · rw [List.filter_cons, if_pos h, if_pos h]
    simp
  · rw [List.filter_cons, if_neg h, if_neg h]
    simp
theorem cnt_all {R : GI} {n : Nat} (h : ∀ (v : Nat) l, R[v]? = some l → l.Nodup ∧ ∀ x ∈ l, 0 ≤ x ∧ x < n) : ∀ k, k ≤ R.length → cntG R k n = thG R k
  | 0, _ => by
    have : ∀ m : Nat, ((List.range m).map fun _ => (0 : Int)).sum = 0 := fun m => by
      induction m with
      | zero => rfl
      | succ m ih => rw [List.range_succ, List.map_append, List.sum_append, ih]; rfl
    simp [cntG, thG, this]
  | k + 1, hk => by
    have hg : R[k]? = some (R.getD k []) := by
      rw [List.getD_eq_getElem?_getD, List.getElem?_eq_getElem (show k < R.length by omega)]
      rfl
    obtain ⟨h1, h2⟩ := h k _ hg
    rw [cnt_succ, cnt_all h k (by omega), thG_succ, cnt_one, cnt_len h1 h2]
end Go.Proofs.Ytojflfogjkajaaa.Gr
end
section
namespace Go.Proofs.Ytojflfogjkajaaa.Gr
open Go.Vm
set_option maxRecDepth 20000
end Go.Proofs.Ytojflfogjkajaaa.Gr
end
section
namespace Go.Proofs.Ytojflfogjkajaaa.Gr
open Go.Vm
set_option maxRecDepth 20000
end Go.Proofs.Ytojflfogjkajaaa.Gr
end
