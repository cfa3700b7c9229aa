/-
  The laws StakeHolds, StakeTells, StakeSpans: walks.
-/
import Derived.Test.YtoiofigknkpieaaStake10
namespace Go.Proofs.Ytoiofigknkpieaa
open Go.Vm

noncomputable def env_holds (_l : List Stk) (_e _p : Int) : Env where
  P := Try.prog
  ty := tys
  specs := specsOf [sp_awake, sp_at_, sp_refAt, sp_froms, sp_refFroms, sp_sameInts]
noncomputable def g_holds (l : List Stk) (e p : Int) : Prop := vc (env_holds l e p) (codeOf Try.f4) (start0 Try.f4 [.list .tmp STy l, .int .i64 e, .int .i64 p]) (exitK (tsOf Try.f4) [.bool] (true, ()))
def g_holds_vc (l : List Stk) (e : Int) (p : Int) : Prop :=
  (decide ((100 : Int) < (↑l.length : Int)) = true → True ∧ (true, ()) = (true, ())) ∧
  (decide ((100 : Int) < (↑l.length : Int)) = false →
    l.length ≤ (1000000000 : Nat) ∧
      l.length ≤ (1000000000 : Nat) ∧
        (decide ((atF l e p).fst = (atF l e p).fst) = true →
            (decide ((atF l e p).snd = (atF l e p).snd) = true →
                l.length ≤ (1000000000 : Nat) ∧
                  l.length ≤ (1000000000 : Nat) ∧
                    (fromsF l e).length ≤ (1000000000 : Nat) ∧
                      (decide (fromsF l e = fromsF l e) = true → True ∧ (true, ()) = (true, ())) ∧ (decide (fromsF l e = fromsF l e) = !true → (false, ()) = (true, ()))) ∧
              (decide ((atF l e p).snd = (atF l e p).snd) = !true → (false, ()) = (true, ()))) ∧
          (decide ((atF l e p).fst = (atF l e p).fst) = !true → (false, ()) = (true, ())))

theorem g_holds_eq (l : List Stk) (e p : Int) : g_holds l e p = g_holds_vc l e p := by kernel_rfl
noncomputable def env_tells (_l : List Stk) (_a _b _c _d : Int) (_n : Int) : Env where
  P := Try.prog
  ty := tys
  specs := specsOf [sp_awake, sp_add, sp_refAdd, sp_same, sp_check, sp_refCheck]
noncomputable def g_tells (l : List Stk) (a b c d : Int) (n : Int) : Prop := vc (env_tells l a b c d n) (codeOf Try.f3) (start0 Try.f3 [.list .tmp STy l, .agg [.int .i64 a, .int .i64 b, .int .i64 c, .int .i64 d], .int .i64 n]) (exitK (tsOf Try.f3) [.bool] (true, ()))
def g_tells_vc (l : List Stk) (a : Int) (b : Int) (c : Int) (d : Int) (n : Int) : Prop :=
  (decide ((30 : Int) < (↑l.length : Int)) = true →
    (decide ((↑l.length : Int) < (400 : Int)) = false →
        (decide ((420 : Int) < (↑l.length : Int)) = false →
            (decide ((60 : Int) < n) = true → True ∧ (true, ()) = (true, ())) ∧
              (decide ((60 : Int) < n) = false →
                l.length ≤ (1000000000 : Nat) ∧
                  l.length ≤ (1000000000 : Nat) ∧
                    (addF l (a, b, c, d) n).fst.length ≤ (1000000000 : Nat) ∧
                      ((!decide ((addF l (a, b, c, d) n).fst = (addF l (a, b, c, d) n).fst)) = false →
                          ((!decide ((addF l (a, b, c, d) n).snd = (addF l (a, b, c, d) n).snd)) = true → (false, ()) = (true, ())) ∧
                            ((!decide ((addF l (a, b, c, d) n).snd = (addF l (a, b, c, d) n).snd)) = false →
                              (decide ((↑l.length : Int) = (400 : Int)) = true → True ∧ (true, ()) = (true, ())) ∧
                                (decide ((↑l.length : Int) = (400 : Int)) = false →
                                  l.length ≤ (1000000000 : Nat) ∧
                                    l.length ≤ (1000000000 : Nat) ∧
                                      (decide ((checkF l n).fst = (checkF l n).fst) = true →
                                          (decide ((checkF l n).snd = (checkF l n).snd) = true → True ∧ (true, ()) = (true, ())) ∧
                                            (decide ((checkF l n).snd = (checkF l n).snd) = !true → (false, ()) = (true, ()))) ∧
                                        (decide ((checkF l n).fst = (checkF l n).fst) = !true → (false, ()) = (true, ()))))) ∧
                        ((!decide ((addF l (a, b, c, d) n).fst = (addF l (a, b, c, d) n).fst)) = !false → (false, ()) = (true, ())))) ∧
          (decide ((420 : Int) < (↑l.length : Int)) = !false → True ∧ (true, ()) = (true, ()))) ∧
      (decide ((↑l.length : Int) < (400 : Int)) = !false → True ∧ (true, ()) = (true, ()))) ∧
  (decide ((30 : Int) < (↑l.length : Int)) = !true →
    (decide ((420 : Int) < (↑l.length : Int)) = false →
        (decide ((60 : Int) < n) = true → True ∧ (true, ()) = (true, ())) ∧
          (decide ((60 : Int) < n) = false →
            l.length ≤ (1000000000 : Nat) ∧
              l.length ≤ (1000000000 : Nat) ∧
                (addF l (a, b, c, d) n).fst.length ≤ (1000000000 : Nat) ∧
                  ((!decide ((addF l (a, b, c, d) n).fst = (addF l (a, b, c, d) n).fst)) = false →
                      ((!decide ((addF l (a, b, c, d) n).snd = (addF l (a, b, c, d) n).snd)) = true → (false, ()) = (true, ())) ∧
                        ((!decide ((addF l (a, b, c, d) n).snd = (addF l (a, b, c, d) n).snd)) = false →
                          (decide ((↑l.length : Int) = (400 : Int)) = true → True ∧ (true, ()) = (true, ())) ∧
                            (decide ((↑l.length : Int) = (400 : Int)) = false →
                              l.length ≤ (1000000000 : Nat) ∧
                                l.length ≤ (1000000000 : Nat) ∧
                                  (decide ((checkF l n).fst = (checkF l n).fst) = true →
                                      (decide ((checkF l n).snd = (checkF l n).snd) = true → True ∧ (true, ()) = (true, ())) ∧
                                        (decide ((checkF l n).snd = (checkF l n).snd) = !true → (false, ()) = (true, ()))) ∧
                                    (decide ((checkF l n).fst = (checkF l n).fst) = !true → (false, ()) = (true, ()))))) ∧
                    ((!decide ((addF l (a, b, c, d) n).fst = (addF l (a, b, c, d) n).fst)) = !false → (false, ()) = (true, ())))) ∧
      (decide ((420 : Int) < (↑l.length : Int)) = !false → True ∧ (true, ()) = (true, ())))

theorem g_tells_eq (l : List Stk) (a b c d : Int) (n : Int) : g_tells l a b c d n = g_tells_vc l a b c d n := by kernel_rfl
def InvL7 (l : List Stk) (e : Int) (k next : Int) : Prop := 0 ≤ k ∧ k ≤ (spansF l e).length ∧ next = (if k = 0 then 0 else match (spansF l e)[k.toNat - 1]? with
  | some x => x.2.1 + 1
  | none => 0)
noncomputable def env_spansLaw (l : List Stk) (e : Int) : Env where
  P := Try.prog
  ty := tys
  specs := specsOf [sp_awake, sp_spans, sp_refSpans]
  heads := fun
    | 8 => some { slots := [(8, .int .i64), (7, .int .i64)], boxes := [], inv := fun _ (x : Int × Int × Unit) => InvL7 l e x.1 x.2.1, measure := fun _ (x : Int × Int × Unit) => ((spansF l e).length - x.1).toNat }
    | _ => none
noncomputable def g_spansLaw (l : List Stk) (e : Int) : Prop := vc (env_spansLaw l e) (codeOf Try.f7) (start0 Try.f7 [.list .tmp STy l, .int .i64 e]) (exitK (tsOf Try.f7) [.bool] (true, ()))
def g_spansLaw_vc (l : List Stk) (e : Int) : Prop :=
  (decide ((60 : Int) < (↑l.length : Int)) = true → True ∧ (true, ()) = (true, ())) ∧
  (decide ((60 : Int) < (↑l.length : Int)) = false →
    l.length ≤ (1000000000 : Nat) ∧
      l.length ≤ (1000000000 : Nat) ∧
        ((!decide ((↑(spansF l e).length : Int) = (↑(spansF l e).length : Int))) = true → (false, ()) = (true, ())) ∧
          ((!decide ((↑(spansF l e).length : Int) = (↑(spansF l e).length : Int))) = false →
            (True ∧ InvL7 l e (0 : Int) (0 : Int)) ∧
              ∀ (x : Int × Int × Unit),
                InvL7 l e x.fst x.snd.fst →
                  (decide (x.fst < (↑(spansF l e).length : Int)) = true →
                      ((0 : Int) ≤ x.fst ∧ x.fst < (↑(spansF l e).length : Int)) ∧
                        ∀ (x_1 : Int × Int × Int × Int),
                          (spansF l e)[x.fst.toNat]? = some x_1 →
                            ((0 : Int) ≤ x.fst ∧ x.fst < (↑(spansF l e).length : Int)) ∧
                              ∀ (x_2 : Int × Int × Int × Int),
                                (spansF l e)[x.fst.toNat]? = some x_2 →
                                  ((0 : Int) ≤ x.fst ∧ x.fst < (↑(spansF l e).length : Int)) ∧
                                    ∀ (x_3 : Int × Int × Int × Int),
                                      (spansF l e)[x.fst.toNat]? = some x_3 →
                                        ((0 : Int) ≤ x.fst ∧ x.fst < (↑(spansF l e).length : Int)) ∧
                                          ∀ (x_4 : Int × Int × Int × Int),
                                            (spansF l e)[x.fst.toNat]? = some x_4 →
                                              ((0 : Int) ≤ x.fst ∧ x.fst < (↑(spansF l e).length : Int)) ∧
                                                ∀ (x_5 : Int × Int × Int × Int),
                                                  (spansF l e)[x.fst.toNat]? = some x_5 →
                                                    ((!(decide (x_1.fst = x_2.fst) &&
                                                              (decide (x_1.snd.fst = x_3.snd.fst) &&
                                                                (decide (x_1.snd.snd.fst = x_4.snd.snd.fst) && (decide (x_1.snd.snd.snd = x_5.snd.snd.snd) && true))))) =
                                                          false →
                                                        ((0 : Int) ≤ x.fst ∧ x.fst < (↑(spansF l e).length : Int)) ∧
                                                          ∀ (x_6 : Int × Int × Int × Int),
                                                            (spansF l e)[x.fst.toNat]? = some x_6 →
                                                              ((!decide (x_6.fst = x.snd.fst)) = false →
                                                                  ((0 : Int) ≤ x.fst ∧ x.fst < (↑(spansF l e).length : Int)) ∧
                                                                    ∀ (x_7 : Int × Int × Int × Int),
                                                                      (spansF l e)[x.fst.toNat]? = some x_7 →
                                                                        (decide (x_7.snd.fst < x.snd.fst) = true → (false, ()) = (true, ())) ∧
                                                                          (decide (x_7.snd.fst < x.snd.fst) = false →
                                                                            ((0 : Int) ≤ x.fst ∧ x.fst < (↑(spansF l e).length : Int)) ∧
                                                                              ∀ (x_8 : Int × Int × Int × Int),
                                                                                (spansF l e)[x.fst.toNat]? = some x_8 →
                                                                                  ((-9223372036854775808 : Int) ≤ x_8.snd.fst + (1 : Int) ∧ x_8.snd.fst + (1 : Int) ≤ (9223372036854775807 : Int)) ∧
                                                                                    (decide ((0 : Int) < x.fst) = true →
                                                                                        ((0 : Int) ≤ x.fst ∧ x.fst < (↑(spansF l e).length : Int)) ∧
                                                                                          ∀ (x_9 : Int × Int × Int × Int),
                                                                                            (spansF l e)[x.fst.toNat]? = some x_9 →
                                                                                              ((-9223372036854775808 : Int) ≤ x.fst - (1 : Int) ∧ x.fst - (1 : Int) ≤ (9223372036854775807 : Int)) ∧
                                                                                                ((0 : Int) ≤ x.fst - (1 : Int) ∧ x.fst - (1 : Int) < (↑(spansF l e).length : Int)) ∧
                                                                                                  ∀ (x_10 : Int × Int × Int × Int),
                                                                                                    (spansF l e)[(x.fst - (1 : Int)).toNat]? = some x_10 →
                                                                                                      (decide (x_9.snd.snd.fst = x_10.snd.snd.fst) = true →
                                                                                                          ((0 : Int) ≤ x.fst ∧ x.fst < (↑(spansF l e).length : Int)) ∧
                                                                                                            ∀ (x_11 : Int × Int × Int × Int),
                                                                                                              (spansF l e)[x.fst.toNat]? = some x_11 →
                                                                                                                ((-9223372036854775808 : Int) ≤ x.fst - (1 : Int) ∧
                                                                                                                    x.fst - (1 : Int) ≤ (9223372036854775807 : Int)) ∧
                                                                                                                  ((0 : Int) ≤ x.fst - (1 : Int) ∧ x.fst - (1 : Int) < (↑(spansF l e).length : Int)) ∧
                                                                                                                    ∀ (x_12 : Int × Int × Int × Int),
                                                                                                                      (spansF l e)[(x.fst - (1 : Int)).toNat]? = some x_12 →
                                                                                                                        (decide (x_11.snd.snd.snd = x_12.snd.snd.snd) = true →
                                                                                                                            (false, ()) = (true, ())) ∧
                                                                                                                          (decide (x_11.snd.snd.snd = x_12.snd.snd.snd) = false →
                                                                                                                            ((-9223372036854775808 : Int) ≤ x.fst + (1 : Int) ∧
                                                                                                                                x.fst + (1 : Int) ≤ (9223372036854775807 : Int)) ∧
                                                                                                                              True ∧
                                                                                                                                InvL7 l e (x.fst + (1 : Int)) (x_8.snd.fst + (1 : Int)) ∧
                                                                                                                                  ((↑(spansF l e).length : Int) - (x.fst + (1 : Int))).toNat <
                                                                                                                                    ((↑(spansF l e).length : Int) - x.fst).toNat)) ∧
                                                                                                        (decide (x_9.snd.snd.fst = x_10.snd.snd.fst) = !true →
                                                                                                          ((-9223372036854775808 : Int) ≤ x.fst + (1 : Int) ∧
                                                                                                              x.fst + (1 : Int) ≤ (9223372036854775807 : Int)) ∧
                                                                                                            True ∧
                                                                                                              InvL7 l e (x.fst + (1 : Int)) (x_8.snd.fst + (1 : Int)) ∧
                                                                                                                ((↑(spansF l e).length : Int) - (x.fst + (1 : Int))).toNat <
                                                                                                                  ((↑(spansF l e).length : Int) - x.fst).toNat)) ∧
                                                                                      (decide ((0 : Int) < x.fst) = !true →
                                                                                        ((-9223372036854775808 : Int) ≤ x.fst + (1 : Int) ∧ x.fst + (1 : Int) ≤ (9223372036854775807 : Int)) ∧
                                                                                          True ∧
                                                                                            InvL7 l e (x.fst + (1 : Int)) (x_8.snd.fst + (1 : Int)) ∧
                                                                                              ((↑(spansF l e).length : Int) - (x.fst + (1 : Int))).toNat <
                                                                                                ((↑(spansF l e).length : Int) - x.fst).toNat))) ∧
                                                                ((!decide (x_6.fst = x.snd.fst)) = !false → (false, ()) = (true, ()))) ∧
                                                      ((!(decide (x_1.fst = x_2.fst) &&
                                                              (decide (x_1.snd.fst = x_3.snd.fst) &&
                                                                (decide (x_1.snd.snd.fst = x_4.snd.snd.fst) && (decide (x_1.snd.snd.snd = x_5.snd.snd.snd) && true))))) =
                                                          !false →
                                                        (false, ()) = (true, ()))) ∧
                    (decide (x.fst < (↑(spansF l e).length : Int)) = false →
                      (decide (x.snd.fst = (24 : Int)) = true → True ∧ (true, ()) = (true, ())) ∧ (decide (x.snd.fst = (24 : Int)) = !true → (false, ()) = (true, ())))))

theorem g_spansLaw_eq (l : List Stk) (e : Int) : g_spansLaw l e = g_spansLaw_vc l e := by kernel_rfl
theorem g_holds_ok (l : List Stk) (e p : Int) : g_holds_vc l e p := by
  unfold g_holds_vc
  have hF := fromsF_len l e
  simp only [decide_eq_true_eq, decide_eq_false_iff_not, Bool.not_true, decide_true, Bool.true_eq_false, Bool.false_eq_true, true_and, and_true, implies_true, false_implies, forall_const, not_true_eq_false]
  exact fun h => ⟨by omega, by omega, by omega, by omega, by omega⟩
theorem holds_pure (l : List Stk) (e p : Int) : Pure Try.prog 4 [.list .tmp STy l, .int .i64 e, .int .i64 p] (.bool true) :=
  Pure.of_vc (E := env_holds l e p) (ts := tsOf Try.f4) (ps := [.bool]) (r := (true, ())) (fn := Try.f4) (c := codeOf Try.f4) (specs_ok (P := Try.prog) rfl [sp_awake, sp_at_, sp_refAt, sp_froms, sp_refFroms, sp_sameInts] [] rfl rfl) mixed Try.func4 rfl rfl (by
    have := g_holds_ok l e p
    rw [← g_holds_eq] at this
    exact this)
def q_holds (l : List Stk) (e p : Int) : Prop × V := (True, (.bool true))
noncomputable def sp_holds : FSpec Try.prog where
  f := 4
  run := fun args => match args with
    | [v0, .int .i64 e, .int .i64 p] => (match (asL STy v0 : Option (List Stk)) with | some l => some (q_holds l e p) | none => none)
    | _ => none
  ok := fun args pre r h hp => by
    try dsimp only at h
    split at h
    · rename_i v0 e p
      cases h0 : (asL STy v0 : Option (List Stk)) with
      | none => rw [h0] at h; cases h
      | some l =>
      rw [h0] at h
      try dsimp only at h
      have h := Option.some.inj h
      unfold q_holds at h
      cases h
      exact (holds_pure l e p).weak (.cons (asL_weak h0) (.cons (Weak.refl _) (.cons (Weak.refl _) .nil)))
    · cases h
theorem addF_len (l : List Stk) (s : Stk) (n : Int) : (addF l s n).1.length ≤ l.length + 1 := by
  unfold addF
  split
  · simp
  · split <;> simp
theorem g_tells_ok (l : List Stk) (a b c d n : Int) : g_tells_vc l a b c d n := by
  unfold g_tells_vc
  have hF := addF_len l (a, b, c, d) n
  simp only [decide_eq_true_eq, decide_eq_false_iff_not, Bool.not_true, Bool.not_false, decide_true, Bool.true_eq_false, Bool.false_eq_true, true_and, and_true, implies_true, false_implies, forall_const, not_true_eq_false]
  refine ⟨fun _ _ _ _ => ⟨by omega, by omega, by omega, fun _ => ⟨by omega, by omega⟩⟩, fun _ _ _ => ⟨by omega, by omega, by omega, fun _ => ⟨by omega, by omega⟩⟩⟩
theorem tells_pure (l : List Stk) (a b c d : Int) (n : Int) : Pure Try.prog 3 [.list .tmp STy l, .agg [.int .i64 a, .int .i64 b, .int .i64 c, .int .i64 d], .int .i64 n] (.bool true) :=
  Pure.of_vc (E := env_tells l a b c d n) (ts := tsOf Try.f3) (ps := [.bool]) (r := (true, ())) (fn := Try.f3) (c := codeOf Try.f3) (specs_ok (P := Try.prog) rfl [sp_awake, sp_add, sp_refAdd, sp_same, sp_check, sp_refCheck] [] rfl rfl) mixed Try.func3 rfl rfl (by
    have := g_tells_ok l a b c d n
    rw [← g_tells_eq] at this
    exact this)
def q_tells (l : List Stk) (a b c d : Int) (n : Int) : Prop × V := (True, (.bool true))
noncomputable def sp_tells : FSpec Try.prog where
  f := 3
  run := fun args => match args with
    | [v0, .agg [.int .i64 a, .int .i64 b, .int .i64 c, .int .i64 d], .int .i64 n] => (match (asL STy v0 : Option (List Stk)) with | some l => some (q_tells l a b c d n) | none => none)
    | _ => none
  ok := fun args pre r h hp => by
    try dsimp only at h
    split at h
    · rename_i v0 a b c d n
      cases h0 : (asL STy v0 : Option (List Stk)) with
      | none => rw [h0] at h; cases h
      | some l =>
      rw [h0] at h
      try dsimp only at h
      have h := Option.some.inj h
      unfold q_tells at h
      cases h
      exact (tells_pure l a b c d n).weak (.cons (asL_weak h0) (.cons (Weak.refl _) (.cons (Weak.refl _) .nil)))
    · cases h

/-- What the pieces are like. -/
structure SpOk (o : List Stk) (k : Int) : Prop where
  pos : 0 < o.length
  first : ∀ x, o[0]? = some x → x.1 = 0
  ord : ∀ (i : Nat) x, o[i]? = some x → x.1 ≤ x.2.1 ∧ 0 ≤ x.1 ∧ x.2.1 ≤ k
  adj : ∀ (i : Nat) x y, o[i]? = some x → o[i + 1]? = some y → y.1 = x.2.1 + 1 ∧ ¬ (y.2.2.1 = x.2.2.1 ∧ y.2.2.2 = x.2.2.2)
  last : (lastS o).2.1 = k
theorem snoc_get {a : List Stk} {x y : Stk} {i : Nat} : (a ++ [x])[i]? = some y ↔ (i < a.length ∧ a[i]? = some y) ∨ (i = a.length ∧ y = x) := by
  rw [List.getElem?_append]
  split
  · rename_i h
    constructor
    · exact fun hh => .inl ⟨h, hh⟩
    · rintro (hh | hh)
      · exact hh.2
      · omega
  · rename_i h
    constructor
    · intro hh
      have : i - a.length = 0 := by
        have := (List.getElem?_eq_some_iff.1 hh).1
        simp at this; omega
      rw [this] at hh
      simp at hh
      exact .inr ⟨by omega, hh.symm⟩
    · rintro (hh | ⟨rfl, rfl⟩)
      · omega
      · simp
theorem spOk_step {l : List Stk} {e : Int} {o : List Stk} {k : Nat} (h : SpOk o k) : SpOk (spStep l e o (k + 1)) ((k + 1 : Nat) : Int) := by
  obtain ⟨h1, h2, h3, h4, h5⟩ := h
  obtain ⟨a, x, rfl⟩ := snoc_of h1
  rw [lastS_app] at h5
  have hx := h3 a.length x (snoc_get.2 (.inr ⟨rfl, rfl⟩))
  unfold spStep
  rw [lastS_app, setTo_app]
  split
  · refine ⟨by simp, fun y hy => ?_, fun i y hy => ?_, fun i y z hy hz => ?_, by rw [lastS_app]⟩
    · rcases snoc_get.1 hy with ⟨q1, q2⟩ | ⟨q1, q2⟩
      · exact h2 y (snoc_get.2 (.inl ⟨q1, q2⟩))
      · subst q2; exact h2 x (snoc_get.2 (.inr ⟨q1, rfl⟩))
    · rcases snoc_get.1 hy with ⟨q1, q2⟩ | ⟨q1, q2⟩
      · have := h3 i y (snoc_get.2 (.inl ⟨q1, q2⟩)); omega
      · subst q2; simp only; omega
    · rcases snoc_get.1 hy with ⟨q1, q2⟩ | ⟨q1, q2⟩
      · rcases snoc_get.1 hz with ⟨p1, p2⟩ | ⟨p1, p2⟩
        · exact h4 i y z (snoc_get.2 (.inl ⟨q1, q2⟩)) (snoc_get.2 (.inl ⟨p1, p2⟩))
        · subst p2; exact h4 i y x (snoc_get.2 (.inl ⟨q1, q2⟩)) (snoc_get.2 (.inr ⟨p1, rfl⟩))
      · have := (List.getElem?_eq_some_iff.1 hz).1
        simp at this; omega
  · rename_i hn
    have hne : ¬ (x.2.2.1 = (atF l e ((k + 1 : Nat) : Int)).1 ∧ x.2.2.2 = (atF l e ((k + 1 : Nat) : Int)).2) := fun hh => hn ⟨by simp, hh.1, hh.2⟩
    refine ⟨by simp, fun y hy => ?_, fun i y hy => ?_, fun i y z hy hz => ?_, by rw [lastS_app]⟩
    · rcases snoc_get.1 hy with ⟨q1, q2⟩ | ⟨q1, q2⟩
      · exact h2 y q2
      · simp at q1
    · rcases snoc_get.1 hy with ⟨q1, q2⟩ | ⟨q1, q2⟩
      · have := h3 i y q2; omega
      · subst q2; simp only; omega
    · rcases snoc_get.1 hz with ⟨p1, p2⟩ | ⟨p1, p2⟩
      · rcases snoc_get.1 hy with ⟨q1, q2⟩ | ⟨q1, q2⟩
        · exact h4 i y z q2 p2
        · omega
      · subst p2
        rcases snoc_get.1 hy with ⟨q1, q2⟩ | ⟨q1, q2⟩
        · have hxe : y = x := by
            rcases snoc_get.1 q2 with ⟨r1, r2⟩ | ⟨r1, r2⟩
            · simp at p1; omega
            · exact r2
          subst hxe
          refine ⟨by simp only; omega, fun hh => hne ⟨hh.1.symm, hh.2.symm⟩⟩
        · omega
theorem spOk_upto (l : List Stk) (e : Int) : ∀ k : Nat, SpOk (upto l e (k + 1)) k
  | 0 => by
    show SpOk [((0 : Int), (0 : Int), (atF l e 0).1, (atF l e 0).2)] 0
    refine ⟨by simp, fun x hx => by simp at hx; subst hx; rfl, fun i x hx => ?_, fun i x y hx hy => by simp at hy, rfl⟩
    match i with
    | 0 => simp at hx; subst hx; simp
    | i + 1 => simp at hx
  | k + 1 => by
    rw [upto_succ]
    exact spOk_step (spOk_upto l e k)
theorem spOk_spans (l : List Stk) (e : Int) : SpOk (spansF l e) 23 := spOk_upto l e 23
theorem spansF_len (l : List Stk) (e : Int) : (spansF l e).length ≤ 24 := by
  have : ∀ k : Nat, (upto l e k).length ≤ k := by
    intro k
    induction k with
    | zero => exact Nat.le_refl _
    | succ k ih =>
      rw [upto_succ]
      unfold spStep
      split
      · rw [setTo_len]; omega
      · simp; omega
  exact this 24
theorem invL7_s {l : List Stk} {e k next : Int} {x : Stk} (h : InvL7 l e k next) (hk : k < (spansF l e).length) (hx : (spansF l e)[k.toNat]? = some x) : InvL7 l e (k + 1) (x.2.1 + 1) := by
  obtain ⟨h1, h2, h3⟩ := h
  refine ⟨by omega, by omega, ?_⟩
  rw [if_neg (by omega), show (k + 1).toNat - 1 = k.toNat by omega, hx]
theorem invL7_next {l : List Stk} {e k next : Int} {x : Stk} (h : InvL7 l e k next) (hx : (spansF l e)[k.toNat]? = some x) : x.1 = next := by
  obtain ⟨h1, h2, h3⟩ := h
  have H := spOk_spans l e
  by_cases h0 : k = 0
  · rw [if_pos h0] at h3
    subst h0
    rw [h3]
    exact H.first x hx
  · rw [if_neg h0] at h3
    have hk := (List.getElem?_eq_some_iff.1 hx).1
    obtain ⟨y, hy⟩ : ∃ y, (spansF l e)[k.toNat - 1]? = some y := ⟨_, List.getElem?_eq_getElem (by omega)⟩
    rw [hy] at h3
    have := (H.adj (k.toNat - 1) y x hy (by rw [show k.toNat - 1 + 1 = k.toNat by omega]; exact hx)).1
    rw [h3]
    exact this
theorem g_spansLaw_ok (l : List Stk) (e : Int) : g_spansLaw_vc l e := by
  unfold g_spansLaw_vc
  have hlen := spansF_len l e
  have H := spOk_spans l e
  have hI0 : InvL7 l e 0 0 := ⟨by omega, by omega, by simp⟩
  simp only [decide_eq_true_eq, decide_eq_false_iff_not, Bool.not_true, Bool.not_false, decide_true, Bool.true_eq_false, Bool.false_eq_true, true_and, and_true, implies_true, false_implies, forall_const, not_true_eq_false, Bool.and_true]
  refine fun h0 => ⟨by omega, by omega, hI0, ?_⟩
  rintro ⟨k, next, _⟩ hI
  have hb : 0 ≤ k ∧ k ≤ (spansF l e).length := ⟨hI.1, hI.2.1⟩
  simp only at hI hb ⊢
  refine ⟨fun hk => ?_, fun hk => ?_⟩
  · obtain ⟨x, hx⟩ : ∃ x, (spansF l e)[k.toNat]? = some x := ⟨_, List.getElem?_eq_getElem (by omega)⟩
    have hn := invL7_next hI hx
    have ho := H.ord _ _ hx
    have hs := invL7_s hI hk hx
    have hr : 0 ≤ k ∧ k < (spansF l e).length := ⟨hb.1, hk⟩
    simp only [hx, Option.some.injEq, forall_eq', decide_true, Bool.and_true, Bool.not_true, Bool.true_eq_false, Bool.false_eq_true, false_implies, true_implies, hn]
    refine ⟨hr, hr, hr, hr, hr, ?_⟩
    repeat' (first | (with_reducible apply And.intro) | intro _)
    all_goals first
      | exact hs
      | trivial
      | omega
      | (exfalso; omega)
      | (rename_i hpos y hy c1 z hz c2
         rw [hy] at hz
         cases hz
         have := (H.adj (k - 1).toNat y x hy (by rw [show (k - 1).toNat + 1 = k.toNat by omega]; exact hx)).2
         exact absurd ⟨c1, c2⟩ this)
  · have hkl : k = (spansF l e).length := by omega
    obtain ⟨h1, h2, h3⟩ := hI
    have hp := H.pos
    rw [if_neg (by omega), show k.toNat - 1 = (spansF l e).length - 1 by omega, lastS_at hp, ] at h3
    simp only [H.last] at h3
    subst h3
    simp
theorem spansLaw_pure (l : List Stk) (e : Int) : Pure Try.prog 7 [.list .tmp STy l, .int .i64 e] (.bool true) :=
  Pure.of_vc (E := env_spansLaw l e) (ts := tsOf Try.f7) (ps := [.bool]) (r := (true, ())) (fn := Try.f7) (c := codeOf Try.f7) (specs_ok (P := Try.prog) rfl [sp_awake, sp_spans, sp_refSpans] [] rfl rfl) mixed Try.func7 rfl rfl (by
    have := g_spansLaw_ok l e
    rw [← g_spansLaw_eq] at this
    exact this)
def q_spansLaw (l : List Stk) (e : Int) : Prop × V := (True, (.bool true))
noncomputable def sp_spansLaw : FSpec Try.prog where
  f := 7
  run := fun args => match args with
    | [v0, .int .i64 e] => (match (asL STy v0 : Option (List Stk)) with | some l => some (q_spansLaw l e) | none => none)
    | _ => none
  ok := fun args pre r h hp => by
    try dsimp only at h
    split at h
    · rename_i v0 e
      cases h0 : (asL STy v0 : Option (List Stk)) with
      | none => rw [h0] at h; cases h
      | some l =>
      rw [h0] at h
      try dsimp only at h
      have h := Option.some.inj h
      unfold q_spansLaw at h
      cases h
      exact (spansLaw_pure l e).weak (.cons (asL_weak h0) (.cons (Weak.refl _) .nil))
    · cases h

end Go.Proofs.Ytoiofigknkpieaa
