/-
  Few, Has, SameInts; one; awake.
-/
import Derived.Test.YteaajihmfacinaaTa15
namespace Go.Proofs.Yteaajihmfacinaa.Ta
open Go.Vm
theorem any_hit {α : Type} {l : List α} {p : α → Bool} {i : Int} {x : α} (hx : l[i.toNat]? = some x) (hp : p x = true) : (l.drop i.toNat).any p = true := by
  obtain ⟨h1, h2⟩ := List.getElem?_eq_some_iff.1 hx
  rw [List.drop_eq_getElem_cons h1, h2, List.any_cons, hp, Bool.true_or]
theorem any_miss {α : Type} {l : List α} {p : α → Bool} {i : Int} {x : α} (h0 : 0 ≤ i) (hx : l[i.toNat]? = some x) (hp : p x = false) : (l.drop i.toNat).any p = (l.drop (i + 1).toNat).any p := by
  rw [drop_next h0 hx, List.any_cons, hp, Bool.false_or]
theorem any_end {α : Type} {l : List α} {p : α → Bool} {i : Int} (h : ¬ i < (l.length : Int)) : (l.drop i.toNat).any p = false := by
  rw [List.drop_of_length_le (by omega), List.any_nil]
def few24 (N : List En) : Bool := decide (N.length ≤ 30) && !N.any fun x => decide (60 < x.2.2.length)
noncomputable def env_few24 (N : List En) : Env where
  P := Try.prog
  ty := tys0
  heads := fun | 4 => some { slots := [(3, .int .i64)], boxes := [], inv := fun _ (x : Int × Unit) => 0 ≤ x.1 ∧ x.1 ≤ N.length ∧ (N.any fun x => decide (60 < x.2.2.length)) = ((N.drop x.1.toNat).any fun x => decide (60 < x.2.2.length)), measure := fun _ (x : Int × Unit) => (N.length - x.1).toNat } | _ => none
def g_few24_vc (N : List En) : Prop :=
  (decide ((30 : Int) < (↑N.length : Int)) = true → (false, ()) = (few24 N, ())) ∧ (decide ((30 : Int) < (↑N.length : Int)) = false → (True ∧ (0 : Int) ≤ (0 : Int) ∧ (0 : Int) ≤ (↑N.length : Int) ∧ (N.any fun x => decide ((60 : Nat) < x.2.2.length)) = (List.drop (Int.toNat (0 : Int)) N).any fun x => decide ((60 : Nat) < x.2.2.length)) ∧ ∀ (x : Int × Unit), ((0 : Int) ≤ x.1 ∧ x.1 ≤ (↑N.length : Int) ∧ (N.any fun x => decide ((60 : Nat) < x.2.2.length)) = (List.drop x.1.toNat N).any fun x => decide ((60 : Nat) < x.2.2.length)) → (decide (x.1 < (↑N.length : Int)) = true → ((0 : Int) ≤ x.1 ∧ x.1 < (↑N.length : Int)) ∧ ∀ (x_1 : Int × Int × List (Int × Int × Int × Int)), N[x.1.toNat]? = some x_1 → (decide ((60 : Int) < (↑x_1.2.2.length : Int)) = true → (false, ()) = (few24 N, ())) ∧ (decide ((60 : Int) < (↑x_1.2.2.length : Int)) = false → ((-9223372036854775808 : Int) ≤ x.1 + (1 : Int) ∧ x.1 + (1 : Int) ≤ (9223372036854775807 : Int)) ∧ True ∧ ((0 : Int) ≤ x.1 + (1 : Int) ∧ x.1 + (1 : Int) ≤ (↑N.length : Int) ∧ (N.any fun x => decide ((60 : Nat) < x.2.2.length)) = (List.drop (x.1 + (1 : Int)).toNat N).any fun x => decide ((60 : Nat) < x.2.2.length)) ∧ ((↑N.length : Int) - (x.1 + (1 : Int))).toNat < ((↑N.length : Int) - x.1).toNat)) ∧ (decide (x.1 < (↑N.length : Int)) = false → (true, ()) = (few24 N, ())))
theorem g_few24_eq (N : List En) : Cond (env_few24 N) Try.f9 [.list .tmp EnT N] [.bool] (few24 N, ()) = g_few24_vc N := by kernel_rfl
theorem g_few24_ok (N : List En) (h : N.length ≤ 9223372036854775807) : g_few24_vc N := by
  unfold g_few24_vc few24
  simp only [decide_eq_true_eq, decide_eq_false_iff_not]
  refine ⟨fun c => by rw [decide_eq_false (by omega), Bool.false_and], fun c => ⟨⟨trivial, by omega, by omega, rfl⟩, ?_⟩⟩
  rintro ⟨i, ⟨⟩⟩ ⟨h0, h1, hb⟩
  dsimp only at h0 h1 hb ⊢
  rw [hb, decide_eq_true (by omega), Bool.true_and]
  refine ⟨fun d => ⟨⟨h0, d⟩, fun x hx => ⟨fun k => ?_, fun k => ⟨by omega, trivial, ⟨by omega, by omega, ?_⟩, by omega⟩⟩⟩, fun d => ?_⟩
  · rw [any_hit hx (by rw [decide_eq_true (by omega)])]; rfl
  · rw [any_miss h0 hx (by rw [decide_eq_false (by omega)])]
  · rw [any_end d]; rfl
set_option maxRecDepth 20000
theorem few24_pure (N : List En) (h : N.length ≤ 9223372036854775807) : Pure Try.prog 9 [.list .tmp EnT N] (.bool (few24 N)) :=
  by have k := Pure.of_cond (g_few24_eq N) (g_few24_ok N h) (specs_ok rfl [] [] rfl rfl) mixed Try.func9; exact k
noncomputable def q_few24 (N : List En) : Prop × V := (N.length ≤ 9223372036854775807, (.bool (few24 N)))
noncomputable def sp_few24 : FSpec Try.prog where
 f := 9
 run := fun
  | [v0] => (asL EnT v0 : Option (List En)).bind fun N => some (q_few24 N)
  | _ => none
 ok := fun args pre r h hp => by
  split at h
  · rename_i v0
    obtain ⟨N, h0, h⟩ := Option.bind_eq_some_iff.1 h
    exact of_q h hp fun h => (few24_pure N h).weak (.cons (asL_weak h0) .nil)
  · cases h
noncomputable def env_sameInts (xs ys : List Int) : Env where
  P := Try.prog
  ty := tys0
  heads := fun | 4 => some { slots := [(5, .int .i64)], boxes := [], inv := fun _ (x : Int × Unit) => 0 ≤ x.1 ∧ x.1 ≤ xs.length ∧ ∀ j : Nat, j < x.1.toNat → xs[j]? = ys[j]?, measure := fun _ (x : Int × Unit) => (xs.length - x.1).toNat } | _ => none
def g_sameInts_vc (xs : List Int) (ys : List Int) : Prop :=
  ((!decide ((↑xs.length : Int) = (↑ys.length : Int))) = true → (false, ()) = (decide (xs = ys), ())) ∧ ((!decide ((↑xs.length : Int) = (↑ys.length : Int))) = false → (True ∧ (0 : Int) ≤ (0 : Int) ∧ (0 : Int) ≤ (↑xs.length : Int) ∧ ∀ (j : Nat), j < Int.toNat (0 : Int) → xs[j]? = ys[j]?) ∧ ∀ (x : Int × Unit), ((0 : Int) ≤ x.1 ∧ x.1 ≤ (↑xs.length : Int) ∧ ∀ (j : Nat), j < x.1.toNat → xs[j]? = ys[j]?) → (decide (x.1 < (↑xs.length : Int)) = true → ((0 : Int) ≤ x.1 ∧ x.1 < (↑xs.length : Int)) ∧ ∀ (x_1 : Int), xs[x.1.toNat]? = some x_1 → ((0 : Int) ≤ x.1 ∧ x.1 < (↑ys.length : Int)) ∧ ∀ (x_2 : Int), ys[x.1.toNat]? = some x_2 → ((!decide (x_1 = x_2)) = true → (false, ()) = (decide (xs = ys), ())) ∧ ((!decide (x_1 = x_2)) = false → ((-9223372036854775808 : Int) ≤ x.1 + (1 : Int) ∧ x.1 + (1 : Int) ≤ (9223372036854775807 : Int)) ∧ True ∧ ((0 : Int) ≤ x.1 + (1 : Int) ∧ x.1 + (1 : Int) ≤ (↑xs.length : Int) ∧ ∀ (j : Nat), j < (x.1 + (1 : Int)).toNat → xs[j]? = ys[j]?) ∧ ((↑xs.length : Int) - (x.1 + (1 : Int))).toNat < ((↑xs.length : Int) - x.1).toNat)) ∧ (decide (x.1 < (↑xs.length : Int)) = false → (true, ()) = (decide (xs = ys), ())))
theorem g_sameInts_eq (xs ys : List Int) : Cond (env_sameInts xs ys) Try.f14 [.list .tmp I xs, .list .tmp I ys] [.bool] (decide (xs = ys), ()) = g_sameInts_vc xs ys := by kernel_rfl
theorem g_sameInts_ok (xs ys : List Int) (h : xs.length ≤ 1000000000) : g_sameInts_vc xs ys := by
  unfold g_sameInts_vc
  simp only [Bool.not_eq_true', decide_eq_false_iff_not, Bool.not_eq_false', decide_eq_true_eq, true_and, Int.ofNat_inj, Int.toNat_zero, Nat.not_lt_zero]
  refine ⟨fun hne => ?_, fun hlen => ⟨⟨by omega, by omega, fun j hj => hj.elim⟩, ?_⟩⟩
  · have : xs ≠ ys := fun e => hne (by rw [e])
    simp [this]
  rintro ⟨i, _⟩ ⟨h1, h2, h3⟩
  simp only at *
  refine ⟨fun hlt => ⟨⟨h1, hlt⟩, fun x hx => ⟨⟨h1, by omega⟩, fun y hy => ⟨fun e => ?_, fun e => ⟨by omega, ⟨by omega, by omega, fun j hj => ?_⟩, by omega⟩⟩⟩⟩, fun hge => ?_⟩
  · have : xs ≠ ys := by
      rintro rfl
      rw [hx] at hy
      cases hy
      exact e rfl
    simp [this]
  · by_cases hji : j < i.toNat
    · exact h3 j hji
    · have : j = i.toNat := by omega
      subst this
      rw [hx, hy, e]
  · have : xs = ys := by
      apply List.ext_getElem?
      intro j
      by_cases hj : j < i.toNat
      · exact h3 j hj
      · rw [List.getElem?_eq_none (by omega), List.getElem?_eq_none (by omega)]
    simp [this]
theorem sameInts_pure (xs ys : List Int) (h : xs.length ≤ 1000000000) : Pure Try.prog 14 [.list .tmp I xs, .list .tmp I ys] (.bool (decide (xs = ys))) :=
  by have k := Pure.of_cond (g_sameInts_eq xs ys) (g_sameInts_ok xs ys h) (specs_ok rfl [] [] rfl rfl) mixed Try.func14; exact k
noncomputable def q_sameInts (xs ys : List Int) : Prop × V := (xs.length ≤ 1000000000, (.bool (decide (xs = ys))))
noncomputable def sp_sameInts : FSpec Try.prog where
 f := 14
 run := fun
  | [v0, v1] => (asL I v0 : Option (List Int)).bind fun xs => (asL I v1 : Option (List Int)).bind fun ys => some (q_sameInts xs ys)
  | _ => none
 ok := fun args pre r h hp => by
  split at h
  · rename_i v0 v1
    obtain ⟨xs, h0, h⟩ := Option.bind_eq_some_iff.1 h
    obtain ⟨ys, h1, h⟩ := Option.bind_eq_some_iff.1 h
    exact of_q h hp fun h => (sameInts_pure xs ys h).weak (.cons (asL_weak h0) (.cons (asL_weak h1) .nil))
  · cases h
def oneL : List Ln := [(1, 4, 2, 5), (1, 4, 0, 7), (1, 5, 0, -12)]
noncomputable def env_one : Env where
  P := Try.prog
  ty := tys0
abbrev ann_one : Ann := { slots := numP 0 [.int .i64, .int .i64, .list .part LnT], boxes := [], inv := fun _ _ => True }
def g_one_vc : Prop :=
  True ∧ ((1 : Int), (0 : Int), [((1 : Int), (4 : Int), (2 : Int), (5 : Int)), ((1 : Int), (4 : Int), (0 : Int), (7 : Int)), ((1 : Int), (5 : Int), (0 : Int), (-12 : Int))], ()) = ((1 : Int), (0 : Int), oneL, ())
theorem g_one_eq  : CondG (env_one ) Try.f30 [] [some 3] ann_one ((1 : Int), (0 : Int), oneL, ()) = g_one_vc  := by kernel_rfl
theorem g_one_ok : g_one_vc := by
  exact ⟨trivial, rfl⟩
theorem one_pure  : Pure Try.prog 30 [] (.agg [.int .i64 1, .int .i64 0, .list .part LnT oneL]) :=
  by have k := Pure.of_condG (r := (.agg [.int .i64 1, .int .i64 0, .list .part LnT oneL])) (g_one_eq ) (g_one_ok ) rfl (specs_ok rfl [] [] rfl rfl) mixed Try.func30; exact k
noncomputable def q_one  : Prop × V := (True, (.agg [.int .i64 1, .int .i64 0, .list .part LnT oneL]))
noncomputable def sp_one : FSpec Try.prog where
 f := 30
 run := fun
  | [] => some (q_one )
  | _ => none
 ok := fun args pre r h hp => by
  split at h
  · skip
    exact of_q h hp fun h => (one_pure ).weak .nil
  · cases h
noncomputable def env_add0 (p r : Int) (ls : List Ln) : Env where
  P := Try.prog
  ty := tys0
  specs := specsOf [sp_tmade0]
def g_add0_vc (p : Int) (r : Int) (ls : List Ln) : Prop :=
  True ∧ ((!false) = true → ((1 : Int), ()) = ((1 : Int), ())) ∧ ((!false) = false → False)
theorem g_add0_eq (p r : Int) (ls : List Ln) : Cond (env_add0 p r ls) Try.f13 [.nilp, .agg [.int .i64 p, .int .i64 r, .list .tmp LnT ls]] [.int .i64] ((1 : Int), ()) = g_add0_vc p r ls := by kernel_rfl
theorem g_add0_ok (p r : Int) (ls : List Ln) : g_add0_vc p r ls := by
  exact ⟨trivial, fun _ => rfl, fun h => by cases h⟩
theorem add0_pure (p r : Int) (ls : List Ln) : Pure Try.prog 13 [.nilp, .agg [.int .i64 p, .int .i64 r, .list .tmp LnT ls]] (.int .i64 (1 : Int)) :=
  by have k := Pure.of_cond (g_add0_eq p r ls) (g_add0_ok p r ls) (specs_ok rfl [sp_tmade0] [] rfl rfl) mixed Try.func13; exact k
noncomputable def q_add0 (p r : Int) (ls : List Ln) : Prop × V := (True, (.int .i64 (1 : Int)))
noncomputable def sp_add0 : FSpec Try.prog where
 f := 13
 run := fun
  | [.nilp, .agg [.int .i64 p, .int .i64 r, v1_2]] => (asL LnT v1_2 : Option (List Ln)).bind fun ls => some (q_add0 p r ls)
  | _ => none
 ok := fun args pre r h hp => by
  split at h
  · rename_i p r v1_2
    obtain ⟨ls, h1_2, h⟩ := Option.bind_eq_some_iff.1 h
    exact of_q h hp fun h => (add0_pure p r ls).weak (.cons (.refl _) (.cons (Weak.agg (.cons (.refl _) (.cons (.refl _) (.cons (asL_weak h1_2) .nil)))) .nil))
  · cases h
end Go.Proofs.Yteaajihmfacinaa.Ta
