/-
  RateTells, RateSets, RateCrosses: the walks.
-/
import Derived.Test.YtccmidojhagppaaDoorRate6
namespace Go.Proofs.YtccmidojhagppaaDoor
open Go.Vm

noncomputable def env_rtells (l : List Rt) (a b c p n d : Int) : Env where
  P := Tryd.prog
  ty := tys0
  specs := specsOf [sp_awake, sp_check, sp_rcheckl, sp_set, sp_rset, sp_rsame]
noncomputable def g_rtells (l : List Rt) (a b c p n d : Int) : Prop := vc (env_rtells l a b c p n d) (codeOf Tryd.f3) (start0 Tryd.f3 [.list .tmp RTy l, .agg [.int .i64 a, .int .i64 b, .int .i64 c, .int .i64 p, .int .i64 n, .int .i64 d]]) (exitK (tsOf Tryd.f3) [.bool] (true, ()))
def g_rtells_vc (l : List Rt) (a : Int) (b : Int) (c : Int) (p : Int) (n : Int) (d : Int) : Prop :=
  (decide ((2100 : Int) < (↑l.length : Int)) = true → True ∧ (true, ()) = (true, ())) ∧
  (decide ((2100 : Int) < (↑l.length : Int)) = false →
    True ∧
      True ∧
        l.length ≤ (1000000 : Nat) ∧
          l.length ≤ (1000000 : Nat) ∧
            (decide ((checkF l).fst = (checkF l).fst) = true →
                (decide ((checkF l).snd = (checkF l).snd) = true →
                    ((setF l (a, b, c, p, n, d)).fst.length ≤ (1000000 : Nat) ∧ (setF l (a, b, c, p, n, d)).fst.length ≤ (1000000 : Nat)) ∧
                      (decide ((setF l (a, b, c, p, n, d)).fst = (setF l (a, b, c, p, n, d)).fst) = true →
                          (decide ((setF l (a, b, c, p, n, d)).snd = (setF l (a, b, c, p, n, d)).snd) = true → True ∧ (true, ()) = (true, ())) ∧
                            (decide ((setF l (a, b, c, p, n, d)).snd = (setF l (a, b, c, p, n, d)).snd) = !true → (false, ()) = (true, ()))) ∧
                        (decide ((setF l (a, b, c, p, n, d)).fst = (setF l (a, b, c, p, n, d)).fst) = !true → (false, ()) = (true, ()))) ∧
                  (decide ((checkF l).snd = (checkF l).snd) = !true → (false, ()) = (true, ()))) ∧
              (decide ((checkF l).fst = (checkF l).fst) = !true → (false, ()) = (true, ())))

theorem g_rtells_eq (l : List Rt) (a b c p n d : Int) : g_rtells l a b c p n d = g_rtells_vc l a b c p n d := by kernel_rfl
noncomputable def env_rsets (l : List Rt) (a b c p n d e f g q m t : Int) : Env where
  P := Tryd.prog
  ty := tys0
  specs := specsOf [sp_awake, sp_set, sp_find, sp_one]
noncomputable def g_rsets (l : List Rt) (a b c p n d e f g q m t : Int) : Prop := vc (env_rsets l a b c p n d e f g q m t) (codeOf Tryd.f4) (start0 Tryd.f4 [.list .tmp RTy l, .agg [.int .i64 a, .int .i64 b, .int .i64 c, .int .i64 p, .int .i64 n, .int .i64 d], .agg [.int .i64 e, .int .i64 f, .int .i64 g, .int .i64 q, .int .i64 m, .int .i64 t]]) (exitK (tsOf Tryd.f4) [.bool] (true, ()))
def g_rsets_vc (l : List Rt) (a : Int) (b : Int) (c : Int) (p : Int) (n : Int) (d : Int) (e : Int) (f : Int) (g : Int) (q : Int) (m : Int) (t : Int) : Prop :=
  (decide ((100 : Int) < (↑l.length : Int)) = true → True ∧ (true, ()) = (true, ())) ∧
  (decide ((100 : Int) < (↑l.length : Int)) = false →
    l.length ≤ (1000000 : Nat) ∧
      ((!decide ((setF l (a, b, c, p, n, d)).snd = (0 : Int))) = true →
          (decide ((↑(setF l (a, b, c, p, n, d)).fst.length : Int) = (0 : Int)) = true → True ∧ (true, ()) = (true, ())) ∧
            (decide ((↑(setF l (a, b, c, p, n, d)).fst.length : Int) = (0 : Int)) = !true → (false, ()) = (true, ()))) ∧
        ((!decide ((setF l (a, b, c, p, n, d)).snd = (0 : Int))) = false →
          (setF l (a, b, c, p, n, d)).fst.length ≤ (1000000 : Nat) ∧
            ((!(decide ((findF (setF l (a, b, c, p, n, d)).fst (a, b, c, p, n, d)).fst.fst = n) && (decide ((findF (setF l (a, b, c, p, n, d)).fst (a, b, c, p, n, d)).fst.snd = d) && true))) = false →
                ((!(findF (setF l (a, b, c, p, n, d)).fst (a, b, c, p, n, d)).snd) = false →
                    (decide ((↑(setF l (a, b, c, p, n, d)).fst.length : Int) < (↑l.length : Int)) = false →
                        ((-9223372036854775808 : Int) ≤ (↑l.length : Int) + (1 : Int) ∧ (↑l.length : Int) + (1 : Int) ≤ (9223372036854775807 : Int)) ∧
                          (decide ((↑l.length : Int) + (1 : Int) < (↑(setF l (a, b, c, p, n, d)).fst.length : Int)) = true → (false, ()) = (true, ())) ∧
                            (decide ((↑l.length : Int) + (1 : Int) < (↑(setF l (a, b, c, p, n, d)).fst.length : Int)) = false →
                              l.length ≤ (1000000 : Nat) ∧
                                l.length ≤ (1000000 : Nat) ∧
                                  (setF l (a, b, c, p, n, d)).fst.length ≤ (1000000 : Nat) ∧
                                    (((findF l (a, b, c, p, n, d)).snd == decide ((↑(setF l (a, b, c, p, n, d)).fst.length : Int) = (↑l.length : Int))) = true →
                                        True ∧
                                          (sameB (a, b, c, p, n, d) (e, f, g, q, m, t) = false →
                                              ((decide ((findF l (e, f, g, q, m, t)).fst.fst = (findF (setF l (a, b, c, p, n, d)).fst (e, f, g, q, m, t)).fst.fst) &&
                                                      (decide ((findF l (e, f, g, q, m, t)).fst.snd = (findF (setF l (a, b, c, p, n, d)).fst (e, f, g, q, m, t)).fst.snd) && true)) =
                                                    true →
                                                  (((findF l (e, f, g, q, m, t)).snd == (findF (setF l (a, b, c, p, n, d)).fst (e, f, g, q, m, t)).snd) = true → True ∧ (true, ()) = (true, ())) ∧
                                                    (((findF l (e, f, g, q, m, t)).snd == (findF (setF l (a, b, c, p, n, d)).fst (e, f, g, q, m, t)).snd) = !true → (false, ()) = (true, ()))) ∧
                                                ((decide ((findF l (e, f, g, q, m, t)).fst.fst = (findF (setF l (a, b, c, p, n, d)).fst (e, f, g, q, m, t)).fst.fst) &&
                                                      (decide ((findF l (e, f, g, q, m, t)).fst.snd = (findF (setF l (a, b, c, p, n, d)).fst (e, f, g, q, m, t)).fst.snd) && true)) =
                                                    !true →
                                                  (false, ()) = (true, ()))) ∧
                                            (sameB (a, b, c, p, n, d) (e, f, g, q, m, t) = !false → True ∧ (true, ()) = (true, ()))) ∧
                                      (((findF l (a, b, c, p, n, d)).snd == decide ((↑(setF l (a, b, c, p, n, d)).fst.length : Int) = (↑l.length : Int))) = !true → (false, ()) = (true, ())))) ∧
                      (decide ((↑(setF l (a, b, c, p, n, d)).fst.length : Int) < (↑l.length : Int)) = !false → (false, ()) = (true, ()))) ∧
                  ((!(findF (setF l (a, b, c, p, n, d)).fst (a, b, c, p, n, d)).snd) = !false → (false, ()) = (true, ()))) ∧
              ((!(decide ((findF (setF l (a, b, c, p, n, d)).fst (a, b, c, p, n, d)).fst.fst = n) && (decide ((findF (setF l (a, b, c, p, n, d)).fst (a, b, c, p, n, d)).fst.snd = d) && true))) =
                  !false →
                (false, ()) = (true, ()))))

theorem g_rsets_eq (l : List Rt) (a b c p n d e f g q m t : Int) : g_rsets l a b c p n d e f g q m t = g_rsets_vc l a b c p n d e f g q m t := by kernel_rfl
noncomputable def env_rcrosses (l : List Rt) (a b c p n d : Int) : Env where
  P := Tryd.prog
  ty := tys0
  specs := specsOf [sp_awake, sp_find, sp_cross, sp_check, sp_inv, sp_rcheck]
noncomputable def g_rcrosses (l : List Rt) (a b c p n d : Int) : Prop := vc (env_rcrosses l a b c p n d) (codeOf Tryd.f5) (start0 Tryd.f5 [.list .tmp RTy l, .agg [.int .i64 a, .int .i64 b, .int .i64 c, .int .i64 p, .int .i64 n, .int .i64 d]]) (exitK (tsOf Tryd.f5) [.bool] (true, ()))
def g_rcrosses_vc (l : List Rt) (a : Int) (b : Int) (c : Int) (p : Int) (n : Int) (d : Int) : Prop :=
  (decide ((100 : Int) < (↑l.length : Int)) = true → True ∧ (true, ()) = (true, ())) ∧
  (decide ((100 : Int) < (↑l.length : Int)) = false →
    l.length ≤ (1000000 : Nat) ∧
      l.length ≤ (1000000 : Nat) ∧
        l.length ≤ (1000000 : Nat) ∧
          ((findF l (a, b, c, p, n, d)).snd = true →
              ((!(decide ((crossF l (a, b, c, p, n, d)).fst.fst = (findF l (a, b, c, p, n, d)).fst.fst) &&
                        (decide ((crossF l (a, b, c, p, n, d)).fst.snd = (findF l (a, b, c, p, n, d)).fst.snd) && true))) =
                    false →
                  ((!(crossF l (a, b, c, p, n, d)).snd) = true → (false, ()) = (true, ())) ∧
                    ((!(crossF l (a, b, c, p, n, d)).snd) = false →
                      True ∧
                        ((!decide ((checkF l).snd = (0 : Int))) = true → True ∧ (true, ()) = (true, ())) ∧
                          ((!decide ((checkF l).snd = (0 : Int))) = false →
                            ((findF l (a, b, c, p, n, d)).snd = true →
                                ((!(findF l (b, a, c, p, (0 : Int), (0 : Int))).snd) = true →
                                    l.length ≤ (1000000 : Nat) ∧
                                      True ∧
                                        ((!(decide ((crossF l (b, a, c, p, (0 : Int), (0 : Int))).fst.fst = (invF (findF l (a, b, c, p, n, d)).fst.fst (findF l (a, b, c, p, n, d)).fst.snd).fst.fst) &&
                                                  (decide
                                                      ((crossF l (b, a, c, p, (0 : Int), (0 : Int))).fst.snd =
                                                        (invF (findF l (a, b, c, p, n, d)).fst.fst (findF l (a, b, c, p, n, d)).fst.snd).fst.snd) &&
                                                    true))) =
                                              false →
                                            ((!(crossF l (b, a, c, p, (0 : Int), (0 : Int))).snd) = false →
                                                ((!decide ((invF (findF l (a, b, c, p, n, d)).fst.fst (findF l (a, b, c, p, n, d)).fst.snd).snd = (0 : Int))) = true → (false, ()) = (true, ())) ∧
                                                  ((!decide ((invF (findF l (a, b, c, p, n, d)).fst.fst (findF l (a, b, c, p, n, d)).fst.snd).snd = (0 : Int))) = false →
                                                    ((!(crossF l (a, b, c, p, n, d)).snd) = false →
                                                        True ∧
                                                          (decide (ratioF (crossF l (a, b, c, p, n, d)).fst.fst (crossF l (a, b, c, p, n, d)).fst.snd = (0 : Int)) = true →
                                                              True ∧ (true, ()) = (true, ())) ∧
                                                            (decide (ratioF (crossF l (a, b, c, p, n, d)).fst.fst (crossF l (a, b, c, p, n, d)).fst.snd = (0 : Int)) = !true →
                                                              (false, ()) = (true, ()))) ∧
                                                      ((!(crossF l (a, b, c, p, n, d)).snd) = !false → True ∧ (true, ()) = (true, ())))) ∧
                                              ((!(crossF l (b, a, c, p, (0 : Int), (0 : Int))).snd) = !false → (false, ()) = (true, ()))) ∧
                                          ((!(decide
                                                    ((crossF l (b, a, c, p, (0 : Int), (0 : Int))).fst.fst =
                                                      (invF (findF l (a, b, c, p, n, d)).fst.fst (findF l (a, b, c, p, n, d)).fst.snd).fst.fst) &&
                                                  (decide
                                                      ((crossF l (b, a, c, p, (0 : Int), (0 : Int))).fst.snd =
                                                        (invF (findF l (a, b, c, p, n, d)).fst.fst (findF l (a, b, c, p, n, d)).fst.snd).fst.snd) &&
                                                    true))) =
                                              !false →
                                            (false, ()) = (true, ()))) ∧
                                  ((!(findF l (b, a, c, p, (0 : Int), (0 : Int))).snd) = false →
                                    ((!(crossF l (a, b, c, p, n, d)).snd) = false →
                                        True ∧
                                          (decide (ratioF (crossF l (a, b, c, p, n, d)).fst.fst (crossF l (a, b, c, p, n, d)).fst.snd = (0 : Int)) = true → True ∧ (true, ()) = (true, ())) ∧
                                            (decide (ratioF (crossF l (a, b, c, p, n, d)).fst.fst (crossF l (a, b, c, p, n, d)).fst.snd = (0 : Int)) = !true → (false, ()) = (true, ()))) ∧
                                      ((!(crossF l (a, b, c, p, n, d)).snd) = !false → True ∧ (true, ()) = (true, ())))) ∧
                              ((findF l (a, b, c, p, n, d)).snd = !true →
                                ((!(crossF l (a, b, c, p, n, d)).snd) = false →
                                    True ∧
                                      (decide (ratioF (crossF l (a, b, c, p, n, d)).fst.fst (crossF l (a, b, c, p, n, d)).fst.snd = (0 : Int)) = true → True ∧ (true, ()) = (true, ())) ∧
                                        (decide (ratioF (crossF l (a, b, c, p, n, d)).fst.fst (crossF l (a, b, c, p, n, d)).fst.snd = (0 : Int)) = !true → (false, ()) = (true, ()))) ∧
                                  ((!(crossF l (a, b, c, p, n, d)).snd) = !false → True ∧ (true, ()) = (true, ())))))) ∧
                ((!(decide ((crossF l (a, b, c, p, n, d)).fst.fst = (findF l (a, b, c, p, n, d)).fst.fst) &&
                        (decide ((crossF l (a, b, c, p, n, d)).fst.snd = (findF l (a, b, c, p, n, d)).fst.snd) && true))) =
                    !false →
                  (false, ()) = (true, ()))) ∧
            ((findF l (a, b, c, p, n, d)).snd = !true →
              True ∧
                ((!decide ((checkF l).snd = (0 : Int))) = true → True ∧ (true, ()) = (true, ())) ∧
                  ((!decide ((checkF l).snd = (0 : Int))) = false →
                    ((findF l (a, b, c, p, n, d)).snd = true →
                        ((!(findF l (b, a, c, p, (0 : Int), (0 : Int))).snd) = true →
                            l.length ≤ (1000000 : Nat) ∧
                              True ∧
                                ((!(decide ((crossF l (b, a, c, p, (0 : Int), (0 : Int))).fst.fst = (invF (findF l (a, b, c, p, n, d)).fst.fst (findF l (a, b, c, p, n, d)).fst.snd).fst.fst) &&
                                          (decide ((crossF l (b, a, c, p, (0 : Int), (0 : Int))).fst.snd = (invF (findF l (a, b, c, p, n, d)).fst.fst (findF l (a, b, c, p, n, d)).fst.snd).fst.snd) &&
                                            true))) =
                                      false →
                                    ((!(crossF l (b, a, c, p, (0 : Int), (0 : Int))).snd) = false →
                                        ((!decide ((invF (findF l (a, b, c, p, n, d)).fst.fst (findF l (a, b, c, p, n, d)).fst.snd).snd = (0 : Int))) = true → (false, ()) = (true, ())) ∧
                                          ((!decide ((invF (findF l (a, b, c, p, n, d)).fst.fst (findF l (a, b, c, p, n, d)).fst.snd).snd = (0 : Int))) = false →
                                            ((!(crossF l (a, b, c, p, n, d)).snd) = false →
                                                True ∧
                                                  (decide (ratioF (crossF l (a, b, c, p, n, d)).fst.fst (crossF l (a, b, c, p, n, d)).fst.snd = (0 : Int)) = true → True ∧ (true, ()) = (true, ())) ∧
                                                    (decide (ratioF (crossF l (a, b, c, p, n, d)).fst.fst (crossF l (a, b, c, p, n, d)).fst.snd = (0 : Int)) = !true → (false, ()) = (true, ()))) ∧
                                              ((!(crossF l (a, b, c, p, n, d)).snd) = !false → True ∧ (true, ()) = (true, ())))) ∧
                                      ((!(crossF l (b, a, c, p, (0 : Int), (0 : Int))).snd) = !false → (false, ()) = (true, ()))) ∧
                                  ((!(decide ((crossF l (b, a, c, p, (0 : Int), (0 : Int))).fst.fst = (invF (findF l (a, b, c, p, n, d)).fst.fst (findF l (a, b, c, p, n, d)).fst.snd).fst.fst) &&
                                          (decide ((crossF l (b, a, c, p, (0 : Int), (0 : Int))).fst.snd = (invF (findF l (a, b, c, p, n, d)).fst.fst (findF l (a, b, c, p, n, d)).fst.snd).fst.snd) &&
                                            true))) =
                                      !false →
                                    (false, ()) = (true, ()))) ∧
                          ((!(findF l (b, a, c, p, (0 : Int), (0 : Int))).snd) = false →
                            ((!(crossF l (a, b, c, p, n, d)).snd) = false →
                                True ∧
                                  (decide (ratioF (crossF l (a, b, c, p, n, d)).fst.fst (crossF l (a, b, c, p, n, d)).fst.snd = (0 : Int)) = true → True ∧ (true, ()) = (true, ())) ∧
                                    (decide (ratioF (crossF l (a, b, c, p, n, d)).fst.fst (crossF l (a, b, c, p, n, d)).fst.snd = (0 : Int)) = !true → (false, ()) = (true, ()))) ∧
                              ((!(crossF l (a, b, c, p, n, d)).snd) = !false → True ∧ (true, ()) = (true, ())))) ∧
                      ((findF l (a, b, c, p, n, d)).snd = !true →
                        ((!(crossF l (a, b, c, p, n, d)).snd) = false →
                            True ∧
                              (decide (ratioF (crossF l (a, b, c, p, n, d)).fst.fst (crossF l (a, b, c, p, n, d)).fst.snd = (0 : Int)) = true → True ∧ (true, ()) = (true, ())) ∧
                                (decide (ratioF (crossF l (a, b, c, p, n, d)).fst.fst (crossF l (a, b, c, p, n, d)).fst.snd = (0 : Int)) = !true → (false, ()) = (true, ()))) ∧
                          ((!(crossF l (a, b, c, p, n, d)).snd) = !false → True ∧ (true, ()) = (true, ()))))))

theorem g_rcrosses_eq (l : List Rt) (a b c p n d : Int) : g_rcrosses l a b c p n d = g_rcrosses_vc l a b c p n d := by kernel_rfl
theorem g_rtells_ok (l : List Rt) (a b c p n d : Int) : g_rtells_vc l a b c p n d := by
  unfold g_rtells_vc
  simp only [decide_eq_true_eq, decide_eq_false_iff_not]
  refine ⟨fun _ => ⟨trivial, trivial⟩, fun h => ?_⟩
  have hs : (setF l (a, b, c, p, n, d)).1.length ≤ l.length + 1 := by
    unfold setF
    split
    · split
      · simp
      · split
        · simp
        · simp
    · simp
  refine ⟨trivial, trivial, by omega, by omega, ?_⟩
  have h1 : (setF l (a, b, c, p, n, d)).1.length ≤ 1000000 := by omega
  simp [h1]
set_option maxRecDepth 20000 in
theorem rtells_pure (l : List Rt) (a b c p n d : Int) : Pure Tryd.prog 3 [.list .tmp RTy l, .agg [.int .i64 a, .int .i64 b, .int .i64 c, .int .i64 p, .int .i64 n, .int .i64 d]] (.bool true) :=
  Pure.of_g (E := env_rtells l a b c p n d) (ts := tsOf Tryd.f3) (ps := [.bool]) (r := (true, ())) (fn := Tryd.f3) (c := codeOf Tryd.f3) (specs_ok (P := Tryd.prog) rfl [sp_awake, sp_check, sp_rcheckl, sp_set, sp_rset, sp_rsame] [] rfl rfl) mixed Tryd.func3 rfl rfl (g := g_rtells l a b c p n d) (by delta g_rtells start0; first | with_reducible exact Eq.refl _ | exact Eq.refl _) (by rw [g_rtells_eq l a b c p n d]; exact g_rtells_ok l a b c p n d)
noncomputable def q_rtells (l : List Rt) (a b c p n d : Int) : Prop × V := (True, (.bool true))
noncomputable def sp_rtells : FSpec Tryd.prog where
  f := 3
  run := fun args => match args with
    | [v0, .agg [.int .i64 a, .int .i64 b, .int .i64 c, .int .i64 p, .int .i64 n, .int .i64 d]] => (match (asL RTy v0 : Option (List Rt)) with | some l => some (q_rtells l a b c p n d) | none => none)
    | _ => none
  ok := fun args pre r h hp => by
    try dsimp only at h
    split at h
    · rename_i v0 a b c p n d
      cases h0 : (asL RTy v0 : Option (List Rt)) with
      | none => rw [h0] at h; cases h
      | some l =>
      rw [h0] at h
      try dsimp only at h
      have h := Option.some.inj h
      unfold q_rtells at h
      cases h
      exact (rtells_pure l a b c p n d).weak (.cons (asL_weak h0) (.cons (Weak.refl _) .nil))
    · cases h
theorem find_at {l : List Rt} {k : Rt} : (findF l k).2 = decide (0 ≤ lastF l k) := by
  rcases last_spec k l with ⟨h1, _⟩ | ⟨h1, h2, x, hx, _⟩
  · rw [find_none (by omega), decide_eq_false (by omega)]
  · rw [find_some (by omega) hx, decide_eq_true h1]
theorem set_spec {l : List Rt} {r : Rt} (h : (setF l r).2 = 0) : findF (setF l r).1 r = (r.2.2.2.2, true) ∧ l.length ≤ (setF l r).1.length ∧ (setF l r).1.length ≤ l.length + 1 ∧
    (findF l r).2 = decide (((setF l r).1.length : Int) = l.length) ∧ ∀ k, sameB r k = false → findF (setF l r).1 k = findF l k := by
  by_cases hm : mayR r = 0
  · by_cases hl : 0 ≤ lastF l r
    · rw [set_there hm hl]
      dsimp only
      rcases last_spec r l with ⟨h1, _⟩ | ⟨_, h2, x, hx, hs⟩
      · omega
      have hi : (lastF l r).toNat < l.length := by omega
      refine ⟨?_, by simp, by simp, ?_, fun k hk => ?_⟩
      · have e := last_set (k := r) hx hs
        rw [find_some (x := r) (by rw [e]; omega) (by rw [e]; exact List.getElem?_set_self hi)]
      · rw [find_at, decide_eq_true hl, decide_eq_true (by simp)]
      · have e := last_set (k := k) hx hs
        rcases last_spec k l with ⟨g1, _⟩ | ⟨g1, g2, y, hy, gs⟩
        · rw [find_none (by omega), find_none (by omega)]
        · have hne : (lastF l r).toNat ≠ (lastF l k).toNat := fun hh => by
            rw [hh, hy] at hx
            cases hx
            rw [same_trans hs, hk] at gs
            cases gs
          rw [find_some (l := l) (by omega) hy, find_some (x := y) (by rw [e]; omega) (by rw [e, List.getElem?_set_ne hne]; exact hy)]
    · by_cases hf : 2000 ≤ (l.length : Int)
      · rw [set_full hm hl hf] at h
        cases h
      · rw [set_new hm hl hf]
        dsimp only
        refine ⟨?_, by simp, by simp, ?_, fun k hk => ?_⟩
        · have e := last_snoc l r r
          rw [same_self, if_pos rfl] at e
          rw [find_some (x := r) (by rw [e]; omega) (by rw [e, Int.toNat_natCast]; simp)]
        · rw [find_at, decide_eq_false hl, decide_eq_false (by rw [List.length_append, List.length_singleton]; omega)]
        · have e := last_snoc l k r
          rw [hk, if_neg (by decide)] at e
          rcases last_spec k l with ⟨g1, _⟩ | ⟨g1, g2, y, hy, gs⟩
          · rw [find_none (by omega), find_none (by omega)]
          · rw [find_some (l := l) (by omega) hy, find_some (x := y) (by rw [e]; omega) (by rw [e, List.getElem?_append_left (by omega)]; exact hy)]
  · rw [set_bad hm] at h
    exact absurd h hm
theorem g_rsets_ok (l : List Rt) (a b c p n d e f g q m t : Int) : g_rsets_vc l a b c p n d e f g q m t := by
  unfold g_rsets_vc
  simp only [decide_eq_true_eq, decide_eq_false_iff_not, Bool.not_eq_true', Bool.not_eq_false', Bool.not_false, Bool.not_true]
  refine ⟨fun _ => ⟨trivial, trivial⟩, fun h => ⟨by omega, fun k => ?_, fun k => ?_⟩⟩
  · have hz : (setF l (a, b, c, p, n, d)).1.length = 0 := by
      unfold setF at k ⊢
      by_cases h1 : mayR (a, b, c, p, n, d) = 0
      · rw [if_pos h1] at k ⊢
        by_cases h2 : 0 ≤ lastF l (a, b, c, p, n, d)
        · rw [if_pos h2] at k
          exact absurd rfl k
        · rw [if_neg h2] at k ⊢
          by_cases h3 : 2000 ≤ (l.length : Int)
          · rw [if_pos h3]
            rfl
          · rw [if_neg h3] at k
            exact absurd rfl k
      · rw [if_neg h1]
        rfl
    rw [hz]
    exact ⟨fun _ => ⟨trivial, trivial⟩, fun x => absurd rfl x⟩
  · obtain ⟨s1, s2, s3, s4, s5⟩ := set_spec k
    rw [s1, s4]
    have s6 : sameB (a, b, c, p, n, d) (e, f, g, q, m, t) = false → findF (setF l (a, b, c, p, n, d)).1 (e, f, g, q, m, t) = findF l (e, f, g, q, m, t) := s5 _
    generalize (setF l (a, b, c, p, n, d)).1 = S at *
    have hl : S.length ≤ 1000000 := by omega
    have hl0 : l.length ≤ 1000000 := by omega
    have h4 : ¬ ((l.length : Int) + 1 < S.length) := by omega
    have h5 : ¬ ((S.length : Int) < l.length) := by omega
    have h6 : (-9223372036854775808 : Int) ≤ (l.length : Int) + 1 ∧ (l.length : Int) + 1 ≤ 9223372036854775807 := by omega
    cases hb : sameB (a, b, c, p, n, d) (e, f, g, q, m, t) with
    | true => simp [hl, hl0, h4, h5, h6]
    | false =>
      rw [s6 hb]
      simp [hl, hl0, h4, h5, h6]
set_option maxRecDepth 20000 in
theorem rsets_pure (l : List Rt) (a b c p n d e f g q m t : Int) : Pure Tryd.prog 4 [.list .tmp RTy l, .agg [.int .i64 a, .int .i64 b, .int .i64 c, .int .i64 p, .int .i64 n, .int .i64 d], .agg [.int .i64 e, .int .i64 f, .int .i64 g, .int .i64 q, .int .i64 m, .int .i64 t]] (.bool true) :=
  Pure.of_g (E := env_rsets l a b c p n d e f g q m t) (ts := tsOf Tryd.f4) (ps := [.bool]) (r := (true, ())) (fn := Tryd.f4) (c := codeOf Tryd.f4) (specs_ok (P := Tryd.prog) rfl [sp_awake, sp_set, sp_find, sp_one] [] rfl rfl) mixed Tryd.func4 rfl rfl (g := g_rsets l a b c p n d e f g q m t) (by delta g_rsets start0; first | with_reducible exact Eq.refl _ | exact Eq.refl _) (by rw [g_rsets_eq l a b c p n d e f g q m t]; exact g_rsets_ok l a b c p n d e f g q m t)
noncomputable def q_rsets (l : List Rt) (a b c p n d e f g q m t : Int) : Prop × V := (True, (.bool true))
noncomputable def sp_rsets : FSpec Tryd.prog where
  f := 4
  run := fun args => match args with
    | [v0, .agg [.int .i64 a, .int .i64 b, .int .i64 c, .int .i64 p, .int .i64 n, .int .i64 d], .agg [.int .i64 e, .int .i64 f, .int .i64 g, .int .i64 q, .int .i64 m, .int .i64 t]] => (match (asL RTy v0 : Option (List Rt)) with | some l => some (q_rsets l a b c p n d e f g q m t) | none => none)
    | _ => none
  ok := fun args pre r h hp => by
    try dsimp only at h
    split at h
    · rename_i v0 a b c p n d e f g q m t
      cases h0 : (asL RTy v0 : Option (List Rt)) with
      | none => rw [h0] at h; cases h
      | some l =>
      rw [h0] at h
      try dsimp only at h
      have h := Option.some.inj h
      unfold q_rsets at h
      cases h
      exact (rsets_pure l a b c p n d e f g q m t).weak (.cons (asL_weak h0) (.cons (Weak.refl _) (.cons (Weak.refl _) .nil)))
    · cases h

theorem bad_none : ∀ {l : List Rt} {i : Int}, (badL l i).2 = 0 → ∀ x ∈ l, mayR x = 0
  | [], _, _, x, hx => by cases hx
  | y :: r, i, h, x, hx => by
    unfold badL at h
    by_cases c : mayR y = 0
    · rw [if_pos c] at h
      rcases List.mem_cons.1 hx with rfl | hx
      · exact c
      · exact bad_none h x hx
    · rw [if_neg c] at h
      exact absurd h c
theorem check_all {l : List Rt} (h : (checkF l).2 = 0) : ∀ x ∈ l, mayR x = 0 := by
  by_cases c : 2000 < (l.length : Int)
  · rw [check_big c] at h
    cases h
  · rw [check_small c] at h
    exact bad_none h
theorem find_may {l : List Rt} {k : Rt} (h : (checkF l).2 = 0) (hf : (findF l k).2 = true) : ratioF (findF l k).1.1 (findF l k).1.2 = 0 := by
  rcases last_spec k l with ⟨h1, _⟩ | ⟨h1, h2, x, hx, _⟩
  · rw [find_none (by omega)] at hf
    cases hf
  · rw [find_some (by omega) hx]
    exact may_ratio (check_all h x (List.mem_of_getElem? hx))
theorem leg_may {l : List Rt} {k : Rt} {f t : Int} (h : (checkF l).2 = 0) (hl : (legF l k f t).2 = true) : ratioF (legF l k f t).1.1 (legF l k f t).1.2 = 0 := by
  unfold legF at hl ⊢
  by_cases c : (findF l (f, t, k.2.2)).2 = true
  · rw [if_pos c]
    exact find_may h c
  · rw [if_neg c] at hl ⊢
    rw [Bool.and_eq_true, decide_eq_true_eq] at hl
    exact inv_may hl.2
theorem firstC_from {l : List Rt} {k : Rt} {r : Int × Int} : ∀ {n : Nat}, firstC l k n = some r → ∃ i, crossAt l k i = some r
  | 0, h => by cases h
  | n + 1, h => by
    unfold firstC at h
    split at h
    · rename_i r' hr
      cases h
      exact firstC_from hr
    · exact ⟨_, h⟩
theorem cross_may {l : List Rt} {k : Rt} (h : (checkF l).2 = 0) (hc : (crossF l k).2 = true) : ratioF (crossF l k).1.1 (crossF l k).1.2 = 0 := by
  by_cases c : (legF l k k.1 k.2.1).2 = true
  · rw [cross_direct c]
    exact leg_may h c
  · unfold crossF at hc ⊢
    rw [if_neg c] at hc ⊢
    cases hf : firstC l k 8 with
    | none => rw [hf] at hc; cases hc
    | some r =>
      obtain ⟨i, hi⟩ := firstC_from hf
      unfold crossAt at hi
      split at hi
      · cases hi
      · rename_i hn
        cases hi
        refine times_may ?_
        by_cases z : (timesF (legF l k k.1 i).1.1 (legF l k k.1 i).1.2 (legF l k i k.2.1).1.1 (legF l k i k.2.1).1.2).2 = 0
        · exact z
        · exact absurd (.inr (.inr (.inr (.inr z)))) hn
theorem cross_found {l : List Rt} {k : Rt} (h : (findF l k).2 = true) : crossF l k = ((findF l k).1, true) := by
  have e : findF l (k.1, k.2.1, k.2.2) = findF l k := rfl
  have hl : legF l k k.1 k.2.1 = ((findF l k).1, true) := by
    unfold legF
    rw [e, if_pos h]
  rw [cross_direct (by rw [hl]), hl]
theorem cross_back {l : List Rt} {a b c p n d : Int} (h : (checkF l).2 = 0) (hf : (findF l (a, b, c, p, n, d)).2 = true) (hb : (findF l (b, a, c, p, 0, 0)).2 = false) :
    crossF l (b, a, c, p, 0, 0) = ((invF (findF l (a, b, c, p, n, d)).1.1 (findF l (a, b, c, p, n, d)).1.2).1, true) ∧ (invF (findF l (a, b, c, p, n, d)).1.1 (findF l (a, b, c, p, n, d)).1.2).2 = 0 := by
  have hr := find_may h hf
  have hi : (invF (findF l (a, b, c, p, n, d)).1.1 (findF l (a, b, c, p, n, d)).1.2).2 = 0 := by unfold invF; rw [if_pos hr]
  have ek : findF l (a, b, c, p, 0, 0) = findF l (a, b, c, p, n, d) := find_key ⟨rfl, rfl, rfl, rfl⟩ l
  have hl : legF l (b, a, c, p, 0, 0) b a = ((invF (findF l (a, b, c, p, n, d)).1.1 (findF l (a, b, c, p, n, d)).1.2).1, true) := by
    unfold legF
    dsimp only
    rw [if_neg (by rw [hb]; decide), ek, hf, hi]
    rfl
  refine ⟨?_, hi⟩
  rw [cross_direct (k := (b, a, c, p, 0, 0)) (by show (legF l (b, a, c, p, 0, 0) b a).2 = true; rw [hl])]
  show ((legF l (b, a, c, p, 0, 0) b a).1, true) = _
  rw [hl]
theorem g_rcrosses_ok (l : List Rt) (a b c p n d : Int) : g_rcrosses_vc l a b c p n d := by
  have A := cross_found (l := l) (k := (a, b, c, p, n, d))
  have B := cross_back (l := l) (a := a) (b := b) (c := c) (p := p) (n := n) (d := d)
  have C := cross_may (l := l) (k := (a, b, c, p, n, d))
  unfold g_rcrosses_vc
  generalize findF l (a, b, c, p, n, d) = F at *
  generalize crossF l (a, b, c, p, n, d) = X at *
  generalize findF l (b, a, c, p, 0, 0) = G at *
  generalize crossF l (b, a, c, p, 0, 0) = Y at *
  generalize (checkF l).2 = ck at *
  generalize invF F.1.1 F.1.2 = J at *
  obtain ⟨⟨f1, f2⟩, fb⟩ := F
  obtain ⟨⟨x1, x2⟩, xb⟩ := X
  obtain ⟨⟨y1, y2⟩, yb⟩ := Y
  obtain ⟨gg, gb⟩ := G
  obtain ⟨⟨j1, j2⟩, jz⟩ := J
  dsimp only at A B C ⊢
  simp only [decide_eq_true_eq, decide_eq_false_iff_not, Bool.not_eq_true', Bool.not_eq_false', Bool.not_false, Bool.not_true, Bool.and_true]
  refine ⟨fun _ => ⟨trivial, trivial⟩, fun hl => ?_⟩
  have h1 : l.length ≤ 1000000 := by omega
  cases fb with
  | false => cases gb <;> cases xb <;> simp_all
  | true =>
    obtain ⟨⟨rfl, rfl⟩, rfl⟩ := (by simpa using A rfl : (x1 = f1 ∧ x2 = f2) ∧ xb = true)
    cases gb <;> simp_all
set_option maxRecDepth 20000 in
theorem rcrosses_pure (l : List Rt) (a b c p n d : Int) : Pure Tryd.prog 5 [.list .tmp RTy l, .agg [.int .i64 a, .int .i64 b, .int .i64 c, .int .i64 p, .int .i64 n, .int .i64 d]] (.bool true) :=
  Pure.of_g (E := env_rcrosses l a b c p n d) (ts := tsOf Tryd.f5) (ps := [.bool]) (r := (true, ())) (fn := Tryd.f5) (c := codeOf Tryd.f5) (specs_ok (P := Tryd.prog) rfl [sp_awake, sp_find, sp_cross, sp_check, sp_inv, sp_rcheck] [] rfl rfl) mixed Tryd.func5 rfl rfl (g := g_rcrosses l a b c p n d) (by delta g_rcrosses start0; first | with_reducible exact Eq.refl _ | exact Eq.refl _) (by rw [g_rcrosses_eq l a b c p n d]; exact g_rcrosses_ok l a b c p n d)
noncomputable def q_rcrosses (l : List Rt) (a b c p n d : Int) : Prop × V := (True, (.bool true))
noncomputable def sp_rcrosses : FSpec Tryd.prog where
  f := 5
  run := fun args => match args with
    | [v0, .agg [.int .i64 a, .int .i64 b, .int .i64 c, .int .i64 p, .int .i64 n, .int .i64 d]] => (match (asL RTy v0 : Option (List Rt)) with | some l => some (q_rcrosses l a b c p n d) | none => none)
    | _ => none
  ok := fun args pre r h hp => by
    try dsimp only at h
    split at h
    · rename_i v0 a b c p n d
      cases h0 : (asL RTy v0 : Option (List Rt)) with
      | none => rw [h0] at h; cases h
      | some l =>
      rw [h0] at h
      try dsimp only at h
      have h := Option.some.inj h
      unfold q_rcrosses at h
      cases h
      exact (rcrosses_pure l a b c p n d).weak (.cons (asL_weak h0) (.cons (Weak.refl _) .nil))
    · cases h

end Go.Proofs.YtccmidojhagppaaDoor
