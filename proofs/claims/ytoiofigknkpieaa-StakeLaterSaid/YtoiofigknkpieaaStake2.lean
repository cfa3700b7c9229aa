/-
  ref18.At and ref18.Same; law18.two.
-/
import Derived.Test.YtoiofigknkpieaaStake1
namespace Go.Proofs.Ytoiofigknkpieaa
open Go.Vm

/-! ref18.At -/
def Inv15 (l : List Stk) (e p : Int) (i a s f : Int) (hit : Bool) : Prop :=
  0 ≤ i ∧ i ≤ l.length ∧ match best (l.take i.toNat) e p with
    | none => hit = false ∧ a = 0 ∧ s = 10000
    | some q => hit = true ∧ a = q.2.1 ∧ s = q.2.2.1 ∧ f = q.2.2.2
noncomputable def env_refAt (l : List Stk) (e p : Int) : Env where
  P := Try.prog
  ty := fun | 24 => some STy | _ => none
  heads := fun
    | 3 => some { slots := [(12, .int .i64), (8, .int .i64), (9, .int .i64), (10, .int .i64), (11, .bool)], boxes := [],
                  inv := fun _ (x : Int × Int × Int × Int × Bool × Unit) => Inv15 l e p x.1 x.2.1 x.2.2.1 x.2.2.2.1 x.2.2.2.2.1,
                  measure := fun _ (x : Int × Int × Int × Int × Bool × Unit) => (l.length - x.1).toNat }
    | _ => none
noncomputable def g_refAt (l : List Stk) (e p : Int) : Prop := vc (env_refAt l e p) (codeOf Try.f15) (start0 Try.f15 [.list .tmp STy l, .int .i64 e, .int .i64 p]) (exitK (tsOf Try.f15) [.int .i64, .int .i64] ((atF l e p).1, (atF l e p).2, ()))
def g_refAt_vc (l : List Stk) (e : Int) (p : Int) : Prop :=
  (True ∧ Inv15 l e p (0 : Int) (0 : Int) (10000 : Int) (0 : Int) false) ∧
  ∀ (x : Int × Int × Int × Int × Bool × Unit),
    Inv15 l e p x.fst x.snd.fst x.snd.snd.fst x.snd.snd.snd.fst x.snd.snd.snd.snd.fst →
      (decide (x.fst < (↑l.length : Int)) = true →
          ((0 : Int) ≤ x.fst ∧ x.fst < (↑l.length : Int)) ∧
            ∀ (x_1 : Int × Int × Int × Int),
              l[x.fst.toNat]? = some x_1 →
                (decide (x_1.fst = e) = true →
                    (decide (x_1.snd.snd.snd ≤ p) = true →
                        ((!x.snd.snd.snd.snd.fst) = false →
                            (decide (x.snd.snd.snd.fst ≤ x_1.snd.snd.snd) = true →
                                ((-9223372036854775808 : Int) ≤ x.fst + (1 : Int) ∧ x.fst + (1 : Int) ≤ (9223372036854775807 : Int)) ∧
                                  True ∧
                                    Inv15 l e p (x.fst + (1 : Int)) x_1.snd.fst x_1.snd.snd.fst x_1.snd.snd.snd true ∧
                                      ((↑l.length : Int) - (x.fst + (1 : Int))).toNat < ((↑l.length : Int) - x.fst).toNat) ∧
                              (decide (x.snd.snd.snd.fst ≤ x_1.snd.snd.snd) = false →
                                ((-9223372036854775808 : Int) ≤ x.fst + (1 : Int) ∧ x.fst + (1 : Int) ≤ (9223372036854775807 : Int)) ∧
                                  True ∧
                                    Inv15 l e p (x.fst + (1 : Int)) x.snd.fst x.snd.snd.fst x.snd.snd.snd.fst x.snd.snd.snd.snd.fst ∧
                                      ((↑l.length : Int) - (x.fst + (1 : Int))).toNat < ((↑l.length : Int) - x.fst).toNat)) ∧
                          ((!x.snd.snd.snd.snd.fst) = !false →
                            ((-9223372036854775808 : Int) ≤ x.fst + (1 : Int) ∧ x.fst + (1 : Int) ≤ (9223372036854775807 : Int)) ∧
                              True ∧
                                Inv15 l e p (x.fst + (1 : Int)) x_1.snd.fst x_1.snd.snd.fst x_1.snd.snd.snd true ∧
                                  ((↑l.length : Int) - (x.fst + (1 : Int))).toNat < ((↑l.length : Int) - x.fst).toNat)) ∧
                      (decide (x_1.snd.snd.snd ≤ p) = !true →
                        ((-9223372036854775808 : Int) ≤ x.fst + (1 : Int) ∧ x.fst + (1 : Int) ≤ (9223372036854775807 : Int)) ∧
                          True ∧
                            Inv15 l e p (x.fst + (1 : Int)) x.snd.fst x.snd.snd.fst x.snd.snd.snd.fst x.snd.snd.snd.snd.fst ∧
                              ((↑l.length : Int) - (x.fst + (1 : Int))).toNat < ((↑l.length : Int) - x.fst).toNat)) ∧
                  (decide (x_1.fst = e) = !true →
                    ((-9223372036854775808 : Int) ≤ x.fst + (1 : Int) ∧ x.fst + (1 : Int) ≤ (9223372036854775807 : Int)) ∧
                      True ∧
                        Inv15 l e p (x.fst + (1 : Int)) x.snd.fst x.snd.snd.fst x.snd.snd.snd.fst x.snd.snd.snd.snd.fst ∧
                          ((↑l.length : Int) - (x.fst + (1 : Int))).toNat < ((↑l.length : Int) - x.fst).toNat)) ∧
        (decide (x.fst < (↑l.length : Int)) = false → (x.snd.fst, x.snd.snd.fst, ()) = ((atF l e p).fst, (atF l e p).snd, ()))

theorem g_refAt_eq (l : List Stk) (e p : Int) : g_refAt l e p = g_refAt_vc l e p := by kernel_rfl

/-! ref18.Same -/
noncomputable def env_same (xs ys : List Stk) : Env where
  P := Try.prog
  heads := fun | 4 => some { slots := [(5, .int .i64)], boxes := [], inv := fun _ (x : Int × Unit) => 0 ≤ x.1 ∧ x.1 ≤ xs.length ∧ ∀ j : Nat, j < x.1.toNat → xs[j]? = ys[j]?, measure := fun _ (x : Int × Unit) => (xs.length - x.1).toNat } | _ => none
noncomputable def g_same (xs ys : List Stk) : Prop := vc (env_same xs ys) (codeOf Try.f11) (start0 Try.f11 [.list .tmp STy xs, .list .tmp STy ys]) (exitK (tsOf Try.f11) [.bool] (decide (xs = ys), ()))
def g_same_vc (xs : List Stk) (ys : List Stk) : Prop :=
  ((!decide ((↑xs.length : Int) = (↑ys.length : Int))) = true → (false, ()) = (decide (xs = ys), ())) ∧
  ((!decide ((↑xs.length : Int) = (↑ys.length : Int))) = false →
    (True ∧ (0 : Int) ≤ (0 : Int) ∧ (0 : Int) ≤ (↑xs.length : Int) ∧ ∀ (j : Nat), j < Int.toNat (0 : Int) → xs[j]? = ys[j]?) ∧
      ∀ (x : Int × Unit),
        ((0 : Int) ≤ x.fst ∧ x.fst ≤ (↑xs.length : Int) ∧ ∀ (j : Nat), j < x.fst.toNat → xs[j]? = ys[j]?) →
          (decide (x.fst < (↑xs.length : Int)) = true →
              ((0 : Int) ≤ x.fst ∧ x.fst < (↑xs.length : Int)) ∧
                ∀ (x_1 : Int × Int × Int × Int),
                  xs[x.fst.toNat]? = some x_1 →
                    ((0 : Int) ≤ x.fst ∧ x.fst < (↑ys.length : Int)) ∧
                      ∀ (x_2 : Int × Int × Int × Int),
                        ys[x.fst.toNat]? = some x_2 →
                          ((!(decide (x_1.fst = x_2.fst) &&
                                    (decide (x_1.snd.fst = x_2.snd.fst) && (decide (x_1.snd.snd.fst = x_2.snd.snd.fst) && (decide (x_1.snd.snd.snd = x_2.snd.snd.snd) && true))))) =
                                true →
                              (false, ()) = (decide (xs = ys), ())) ∧
                            ((!(decide (x_1.fst = x_2.fst) &&
                                    (decide (x_1.snd.fst = x_2.snd.fst) && (decide (x_1.snd.snd.fst = x_2.snd.snd.fst) && (decide (x_1.snd.snd.snd = x_2.snd.snd.snd) && true))))) =
                                false →
                              ((-9223372036854775808 : Int) ≤ x.fst + (1 : Int) ∧ x.fst + (1 : Int) ≤ (9223372036854775807 : Int)) ∧
                                True ∧
                                  ((0 : Int) ≤ x.fst + (1 : Int) ∧ x.fst + (1 : Int) ≤ (↑xs.length : Int) ∧ ∀ (j : Nat), j < (x.fst + (1 : Int)).toNat → xs[j]? = ys[j]?) ∧
                                    ((↑xs.length : Int) - (x.fst + (1 : Int))).toNat < ((↑xs.length : Int) - x.fst).toNat)) ∧
            (decide (x.fst < (↑xs.length : Int)) = false → (true, ()) = (decide (xs = ys), ())))

theorem g_same_eq (xs ys : List Stk) : g_same xs ys = g_same_vc xs ys := by kernel_rfl

/-! law18.two -/
def twoL : List Stk := [(2, 1, 8000, 0), (2, 0, 10000, 3)]
noncomputable def env_two : Env where
  P := Try.prog
  ty := fun | 24 => some STy | _ => none
noncomputable def g_two  : Prop := vc (env_two ) (codeOf Try.f21) (start0 Try.f21 []) (exitK (tsOf Try.f21) [.list .full STy] (twoL, ()))
def g_two_vc : Prop :=
  ([((2 : Int), (1 : Int), (8000 : Int), (0 : Int)), ((2 : Int), (0 : Int), (10000 : Int), (3 : Int))], ()) = (twoL, ())

theorem g_two_eq  : g_two  = g_two_vc  := by kernel_rfl

theorem g_two_ok : g_two_vc := rfl
theorem g_same_ok (xs ys : List Stk) (h : xs.length ≤ 1000000000) : g_same_vc xs ys := by
  unfold g_same_vc
  simp only [Bool.not_eq_true', decide_eq_false_iff_not, Bool.not_eq_false', decide_eq_true_eq, true_and, Int.ofNat_inj, Int.toNat_zero, Nat.not_lt_zero]
  refine ⟨fun hne => ?_, fun hlen => ⟨⟨by omega, by omega, fun j hj => hj.elim⟩, ?_⟩⟩
  · have : xs ≠ ys := fun e => hne (by rw [e])
    simp [this]
  rintro ⟨i, _⟩ ⟨h1, h2, h3⟩
  simp only at *
  refine ⟨fun hlt => ⟨⟨h1, hlt⟩, fun x hx => ⟨⟨h1, by omega⟩, fun y hy => ⟨fun e => ?_, fun e => ⟨by omega, ⟨by omega, by omega, fun j hj => ?_⟩, by omega⟩⟩⟩⟩, fun hge => ?_⟩
  · have : xs ≠ ys := by
      rintro rfl
      rw [hx] at hy
      cases hy
      simp at e
    simp [this]
  · by_cases hji : j < i.toNat
    · exact h3 j hji
    · have : j = i.toNat := by omega
      subst this
      obtain ⟨a1, a2, a3, a4⟩ := x
      obtain ⟨b1, b2, b3, b4⟩ := y
      simp at e
      obtain ⟨rfl, rfl, rfl, rfl⟩ := e
      rw [hx, hy]
  · have : xs = ys := by
      apply List.ext_getElem?
      intro j
      by_cases hj : j < i.toNat
      · exact h3 j hj
      · rw [List.getElem?_eq_none (by omega), List.getElem?_eq_none (by omega)]
    simp [this]
theorem g_refAt_ok (l : List Stk) (e p : Int) (h : l.length ≤ 1000000000) : g_refAt_vc l e p := by
  unfold g_refAt_vc
  refine ⟨⟨trivial, by simp [Inv15, best]⟩, ?_⟩
  rintro ⟨i, a, s, f, hit, _⟩ hI
  have hI0 := hI
  obtain ⟨h1, h2, h3⟩ := hI0
  simp only [decide_eq_true_eq, decide_eq_false_iff_not, true_and] at *
  have step : ∀ (x : Stk) a' s' f' hit', i < l.length → l[i.toNat]? = some x → (match take e p (best (l.take i.toNat) e p) x with
    | none => hit' = false ∧ a' = 0 ∧ s' = 10000
    | some q => hit' = true ∧ a' = q.2.1 ∧ s' = q.2.2.1 ∧ f' = q.2.2.2) → Inv15 l e p (i + 1) a' s' f' hit' := by
    intro x a' s' f' hit' hi hx hm
    refine ⟨by omega, by omega, ?_⟩
    rw [toNat_next h1, best_take hx]
    exact hm
  refine ⟨fun hi => ⟨⟨h1, hi⟩, fun x hx => ?_⟩, fun hi => ?_⟩
  · have st := fun a' s' f' hit' => step x a' s' f' hit' hi hx
    clear step
    generalize best (l.take i.toNat) e p = b at h3 st
    have m1 : ((l.length : Int) - (i + 1)).toNat < ((l.length : Int) - i).toNat := by omega
    have m2 : -9223372036854775808 ≤ i + 1 ∧ i + 1 ≤ 9223372036854775807 := by omega
    simp only [m1, m2, and_true, true_and, and_self]
    simp only [take] at st
    cases b with
    | none => simp only at h3 st ⊢; grind
    | some q => simp only at h3 st ⊢; grind
  · have hl : l.take i.toNat = l := List.take_of_length_le (by omega)
    rw [hl] at h3
    unfold atF
    split at h3
    · rename_i hb; rw [hb]; simp [h3.2.1, h3.2.2]
    · rename_i q hb; rw [hb]; simp [h3.2.1, h3.2.2.1]

theorem two_pure  : Pure Try.prog 21 [] (.list .full STy twoL) :=
  Pure.of_vc (E := env_two ) (ts := tsOf Try.f21) (ps := [.list .full STy]) (r := (twoL, ())) (fn := Try.f21) (c := codeOf Try.f21) (specs_ok (P := Try.prog) rfl [] [] rfl rfl) mixed Try.func21 rfl rfl (by
    have := g_two_ok 
    rw [← g_two_eq] at this
    exact this)
def q_two  : Prop × V := (True, (.list .full STy twoL))
noncomputable def sp_two : FSpec Try.prog where
  f := 21
  run := fun args => match args with
    | [] => some (q_two )
    | _ => none
  ok := fun args pre r h hp => by
    try dsimp only at h
    split at h
    ·
      have h := Option.some.inj h
      unfold q_two at h
      cases h
      exact (two_pure ).weak .nil
    · cases h
theorem same_pure (xs ys : List Stk) (h : xs.length ≤ 1000000000) : Pure Try.prog 11 [.list .tmp STy xs, .list .tmp STy ys] (.bool (decide (xs = ys))) :=
  Pure.of_vc (E := env_same xs ys) (ts := tsOf Try.f11) (ps := [.bool]) (r := (decide (xs = ys), ())) (fn := Try.f11) (c := codeOf Try.f11) (specs_ok (P := Try.prog) rfl [] [] rfl rfl) mixed Try.func11 rfl rfl (by
    have := g_same_ok xs ys h
    rw [← g_same_eq] at this
    exact this)
def q_same (xs ys : List Stk) : Prop × V := (xs.length ≤ 1000000000, (.bool (decide (xs = ys))))
noncomputable def sp_same : FSpec Try.prog where
  f := 11
  run := fun args => match args with
    | [v0, v1] => (match (asL STy v0 : Option (List Stk)) with | some xs => (match (asL STy v1 : Option (List Stk)) with | some ys => some (q_same xs ys) | none => none) | none => none)
    | _ => none
  ok := fun args pre r h hp => by
    try dsimp only at h
    split at h
    · rename_i v0 v1
      cases h0 : (asL STy v0 : Option (List Stk)) with
      | none => rw [h0] at h; cases h
      | some xs =>
      rw [h0] at h
      try dsimp only at h
      cases h1 : (asL STy v1 : Option (List Stk)) with
      | none => rw [h1] at h; cases h
      | some ys =>
      rw [h1] at h
      try dsimp only at h
      have h := Option.some.inj h
      unfold q_same at h
      cases h
      exact (same_pure xs ys hp).weak (.cons (asL_weak h0) (.cons (asL_weak h1) .nil))
    · cases h
theorem refAt_pure (l : List Stk) (e p : Int) (h : l.length ≤ 1000000000) : Pure Try.prog 15 [.list .tmp STy l, .int .i64 e, .int .i64 p] (.tuple [.int .i64 (atF l e p).1, .int .i64 (atF l e p).2]) :=
  Pure.of_vc (E := env_refAt l e p) (ts := tsOf Try.f15) (ps := [.int .i64, .int .i64]) (r := ((atF l e p).1, (atF l e p).2, ())) (fn := Try.f15) (c := codeOf Try.f15) (specs_ok (P := Try.prog) rfl [] [] rfl rfl) mixed Try.func15 rfl rfl (by
    have := g_refAt_ok l e p h
    rw [← g_refAt_eq] at this
    exact this)
def q_refAt (l : List Stk) (e p : Int) : Prop × V := (l.length ≤ 1000000000, (.tuple [.int .i64 (atF l e p).1, .int .i64 (atF l e p).2]))
noncomputable def sp_refAt : FSpec Try.prog where
  f := 15
  run := fun args => match args with
    | [v0, .int .i64 e, .int .i64 p] => (match (asL STy v0 : Option (List Stk)) with | some l => some (q_refAt l e p) | none => none)
    | _ => none
  ok := fun args pre r h hp => by
    try dsimp only at h
    split at h
    · rename_i v0 e p
      cases h0 : (asL STy v0 : Option (List Stk)) with
      | none => rw [h0] at h; cases h
      | some l =>
      rw [h0] at h
      try dsimp only at h
      have h := Option.some.inj h
      unfold q_refAt at h
      cases h
      exact (refAt_pure l e p hp).weak (.cons (asL_weak h0) (.cons (Weak.refl _) (.cons (Weak.refl _) .nil)))
    · cases h

end Go.Proofs.Ytoiofigknkpieaa
