/-
  rate: some answers; RateTells, RateSets, RateCrosses: the walks.
-/
import Derived.Test.YtccmidojhagppaaDoorRate5
namespace Go.Proofs.YtccmidojhagppaaDoor
open Go.Vm

noncomputable def env_awake : Env where
  P := Tryd.prog
  ty := tys0
  specs := specsOf [sp_two, sp_check, sp_cross, sp_find, sp_set, sp_known, sp_sameInts]
noncomputable def g_awake  : Prop := vc (env_awake ) (codeOf Tryd.f6) (start0 Tryd.f6 []) (exitK (tsOf Tryd.f6) [.bool] (true, ()))
def g_awake_vc : Prop :=
  True ∧
  True ∧
    True ∧
      twoL.length ≤ (1000000 : Nat) ∧
        True ∧
          twoL.length ≤ (1000000 : Nat) ∧
            True ∧
              twoL.length ≤ (1000000 : Nat) ∧
                True ∧
                  twoL.length ≤ (1000000 : Nat) ∧
                    True ∧
                      twoL.length ≤ (1000000 : Nat) ∧
                        True ∧
                          twoL.length ≤ (1000000 : Nat) ∧
                            (decide ((checkF twoL).fst = (2 : Int)) = true →
                                (decide ((checkF twoL).snd = (0 : Int)) = true →
                                    ((decide ((crossF twoL ((1 : Int), (3 : Int), (1 : Int), (0 : Int), (0 : Int), (0 : Int))).fst.fst = (3 : Int)) &&
                                            (decide ((crossF twoL ((1 : Int), (3 : Int), (1 : Int), (0 : Int), (0 : Int), (0 : Int))).fst.snd = (1 : Int)) && true)) =
                                          true →
                                        ((crossF twoL ((1 : Int), (3 : Int), (1 : Int), (0 : Int), (0 : Int), (0 : Int))).snd = true →
                                            ((decide ((crossF twoL ((2 : Int), (1 : Int), (1 : Int), (0 : Int), (0 : Int), (0 : Int))).fst.fst = (2 : Int)) &&
                                                    (decide ((crossF twoL ((2 : Int), (1 : Int), (1 : Int), (0 : Int), (0 : Int), (0 : Int))).fst.snd = (3 : Int)) && true)) =
                                                  true →
                                                ((crossF twoL ((2 : Int), (1 : Int), (1 : Int), (0 : Int), (0 : Int), (0 : Int))).snd = true →
                                                    ((!(findF twoL ((2 : Int), (1 : Int), (1 : Int), (0 : Int), (0 : Int), (0 : Int))).snd) = true →
                                                        (decide ((↑(setF twoL ((1 : Int), (2 : Int), (1 : Int), (0 : Int), (5 : Int), (1 : Int))).fst.length : Int) = (2 : Int)) = true →
                                                            (decide ((setF twoL ((1 : Int), (2 : Int), (1 : Int), (0 : Int), (5 : Int), (1 : Int))).snd = (0 : Int)) = true →
                                                                ((0 : Int) ≤ (0 : Int) ∧
                                                                    (0 : Int) < (↑(setF twoL ((1 : Int), (2 : Int), (1 : Int), (0 : Int), (5 : Int), (1 : Int))).fst.length : Int)) ∧
                                                                  ∀ (x : Int × Int × Int × Int × Int × Int),
                                                                    (setF twoL ((1 : Int), (2 : Int), (1 : Int), (0 : Int), (5 : Int), (1 : Int))).fst[Int.toNat (0 : Int)]? = some x →
                                                                      (decide (x.snd.snd.snd.snd.fst = (5 : Int)) = true →
                                                                          (decide ((setF twoL ((1 : Int), (1 : Int), (1 : Int), (0 : Int), (5 : Int), (1 : Int))).snd = (23 : Int)) = true →
                                                                              (decide ((↑(setF twoL ((1 : Int), (2 : Int), (1 : Int), (4 : Int), (5 : Int), (1 : Int))).fst.length : Int) = (3 : Int)) =
                                                                                    true →
                                                                                  (decide ((setF twoL ((1 : Int), (2 : Int), (1 : Int), (4 : Int), (5 : Int), (1 : Int))).snd = (0 : Int)) = true →
                                                                                      (setF twoL ((1 : Int), (2 : Int), (1 : Int), (4 : Int), (5 : Int), (1 : Int))).fst.length ≤ (1000000 : Nat) ∧
                                                                                        ((knownF (setF twoL ((1 : Int), (2 : Int), (1 : Int), (4 : Int), (5 : Int), (1 : Int))).fst
                                                                                                  ((1 : Int), (2 : Int), (1 : Int), (0 : Int), (0 : Int), (0 : Int))).length ≤
                                                                                              (1000000 : Nat) ∧
                                                                                            (2 : Nat) ≤ (1000000 : Nat)) ∧
                                                                                          (decide
                                                                                                (knownF (setF twoL ((1 : Int), (2 : Int), (1 : Int), (4 : Int), (5 : Int), (1 : Int))).fst
                                                                                                    ((1 : Int), (2 : Int), (1 : Int), (0 : Int), (0 : Int), (0 : Int)) =
                                                                                                  [(0 : Int), (4 : Int)]),
                                                                                              ()) =
                                                                                            (true, ())) ∧
                                                                                    (decide ((setF twoL ((1 : Int), (2 : Int), (1 : Int), (4 : Int), (5 : Int), (1 : Int))).snd = (0 : Int)) = !true →
                                                                                      (false, ()) = (true, ()))) ∧
                                                                                (decide
                                                                                      ((↑(setF twoL ((1 : Int), (2 : Int), (1 : Int), (4 : Int), (5 : Int), (1 : Int))).fst.length : Int) = (3 : Int)) =
                                                                                    !true →
                                                                                  (false, ()) = (true, ()))) ∧
                                                                            (decide ((setF twoL ((1 : Int), (1 : Int), (1 : Int), (0 : Int), (5 : Int), (1 : Int))).snd = (23 : Int)) = !true →
                                                                              (false, ()) = (true, ()))) ∧
                                                                        (decide (x.snd.snd.snd.snd.fst = (5 : Int)) = !true → (false, ()) = (true, ()))) ∧
                                                              (decide ((setF twoL ((1 : Int), (2 : Int), (1 : Int), (0 : Int), (5 : Int), (1 : Int))).snd = (0 : Int)) = !true →
                                                                (false, ()) = (true, ()))) ∧
                                                          (decide ((↑(setF twoL ((1 : Int), (2 : Int), (1 : Int), (0 : Int), (5 : Int), (1 : Int))).fst.length : Int) = (2 : Int)) = !true →
                                                            (false, ()) = (true, ()))) ∧
                                                      ((!(findF twoL ((2 : Int), (1 : Int), (1 : Int), (0 : Int), (0 : Int), (0 : Int))).snd) = !true → (false, ()) = (true, ()))) ∧
                                                  ((crossF twoL ((2 : Int), (1 : Int), (1 : Int), (0 : Int), (0 : Int), (0 : Int))).snd = !true → (false, ()) = (true, ()))) ∧
                                              ((decide ((crossF twoL ((2 : Int), (1 : Int), (1 : Int), (0 : Int), (0 : Int), (0 : Int))).fst.fst = (2 : Int)) &&
                                                    (decide ((crossF twoL ((2 : Int), (1 : Int), (1 : Int), (0 : Int), (0 : Int), (0 : Int))).fst.snd = (3 : Int)) && true)) =
                                                  !true →
                                                (false, ()) = (true, ()))) ∧
                                          ((crossF twoL ((1 : Int), (3 : Int), (1 : Int), (0 : Int), (0 : Int), (0 : Int))).snd = !true → (false, ()) = (true, ()))) ∧
                                      ((decide ((crossF twoL ((1 : Int), (3 : Int), (1 : Int), (0 : Int), (0 : Int), (0 : Int))).fst.fst = (3 : Int)) &&
                                            (decide ((crossF twoL ((1 : Int), (3 : Int), (1 : Int), (0 : Int), (0 : Int), (0 : Int))).fst.snd = (1 : Int)) && true)) =
                                          !true →
                                        (false, ()) = (true, ()))) ∧
                                  (decide ((checkF twoL).snd = (0 : Int)) = !true → (false, ()) = (true, ()))) ∧
                              (decide ((checkF twoL).fst = (2 : Int)) = !true → (false, ()) = (true, ()))

theorem g_awake_eq  : g_awake  = g_awake_vc  := by kernel_rfl
theorem norm_of {n d g : Int} (h : ratioF n d = 0) (hg : (Nat.gcd n.toNat d.toNat : Int) = g) : normF n d = (n.tdiv g, d.tdiv g) := by
  unfold normF
  rw [if_pos h, gcdI_eq, hg]
abbrev k13 : Rt := (1, 3, 1, 0, 0, 0)
abbrev k21 : Rt := (2, 1, 1, 0, 0, 0)
theorem n32 : normF 3 2 = (3, 2) := norm_of (g := 1) (by decide) (by decide)
theorem n21 : normF 2 1 = (2, 1) := norm_of (g := 1) (by decide) (by decide)
theorem n31 : normF 3 1 = (3, 1) := norm_of (g := 1) (by decide) (by decide)
theorem n22 : normF 2 2 = (1, 1) := norm_of (g := 2) (by decide) (by decide)
theorem n23 : normF 2 3 = (2, 3) := norm_of (g := 1) (by decide) (by decide)
theorem i12 : invF 1 2 = ((2, 1), 0) := by unfold invF; rw [if_pos (by decide), n21]
theorem i32 : invF 3 2 = ((2, 3), 0) := by unfold invF; rw [if_pos (by decide), n23]
theorem t3221 : timesF 3 2 2 1 = ((3, 1), 0) := by
  unfold timesF
  rw [if_pos (by decide), n32, n21]
  show prodF (normF 3 1).1 (normF 2 2).1 (normF 3 1).2 (normF 2 2).2 = _
  rw [n31, n22]
  decide
theorem f13 : findF twoL (1, 3, 1, 0, 0, 0) = ((0, 0), false) := by decide
theorem f31 : findF twoL (3, 1, 1, 0, 0, 0) = ((0, 0), false) := by decide
theorem f12 : findF twoL (1, 2, 1, 0, 0, 0) = ((3, 2), true) := by decide
theorem f23 : findF twoL (2, 3, 1, 0, 0, 0) = ((0, 0), false) := by decide
theorem f32 : findF twoL (3, 2, 1, 0, 0, 0) = ((1, 2), true) := by decide
theorem f21 : findF twoL (2, 1, 1, 0, 0, 0) = ((0, 0), false) := by decide
theorem l13 : (legF twoL k13 1 3).2 = false := by
  unfold legF
  dsimp only
  rw [f13, f31]
  rfl
theorem l12 : legF twoL k13 1 2 = ((3, 2), true) := by
  unfold legF
  dsimp only
  rw [f12]
  rfl
theorem l23 : legF twoL k13 2 3 = ((2, 1), true) := by
  unfold legF
  dsimp only
  rw [f23, f32, if_neg (by decide)]
  dsimp only
  rw [i12]
  rfl
theorem l21 : legF twoL k21 2 1 = ((2, 3), true) := by
  unfold legF
  dsimp only
  rw [f21, f12, if_neg (by decide)]
  dsimp only
  rw [i32]
  rfl
theorem c13 : crossF twoL k13 = ((3, 1), true) := by
  have h1 : firstC twoL k13 1 = none := (firstC_next (i := 1) (by decide) rfl).trans (at_none (.inl rfl))
  have h2 : crossAt twoL k13 2 = some (3, 1) := by
    have := at_some (l := twoL) (k := k13) (i := 2) (by decide) (by decide) (by rw [l12]) (by rw [l23]) (by rw [l12, l23]; show (timesF 3 2 2 1).2 = 0; rw [t3221])
    rw [this, l12, l23]
    show some (timesF 3 2 2 1).1 = _
    rw [t3221]
  exact cross_some (i := 2) l13 (by decide) (by decide) h1 h2
theorem c21 : crossF twoL k21 = ((2, 3), true) := by
  have h := cross_direct (l := twoL) (k := k21) (by show (legF twoL k21 2 1).2 = true; rw [l21])
  rw [h]
  show ((legF twoL k21 2 1).1, true) = _
  rw [l21]
theorem aw1 : checkF twoL = (2, 0) := by decide
theorem aw2 : setF twoL (1, 2, 1, 0, 5, 1) = ([(1, 2, 1, 0, 5, 1), (3, 2, 1, 0, 1, 2)], 0) := by rfl
theorem aw3 : setF twoL (1, 1, 1, 0, 5, 1) = ([], 23) := by rfl
theorem aw4 : setF twoL (1, 2, 1, 4, 5, 1) = ([(1, 2, 1, 0, 3, 2), (3, 2, 1, 0, 1, 2), (1, 2, 1, 4, 5, 1)], 0) := by rfl
theorem aw5 : knownF [(1, 2, 1, 0, 3, 2), (3, 2, 1, 0, 1, 2), (1, 2, 1, 4, 5, 1)] (1, 2, 1, 0, 0, 0) = [0, 4] := by decide

theorem g_awake_ok : g_awake_vc := by
  unfold g_awake_vc
  simp only [aw1, aw2, aw3, aw4, aw5, c13, c21, f21]
  simp
set_option maxRecDepth 20000 in
theorem awake_pure  : Pure Tryd.prog 6 [] (.bool true) :=
  Pure.of_g (E := env_awake ) (ts := tsOf Tryd.f6) (ps := [.bool]) (r := (true, ())) (fn := Tryd.f6) (c := codeOf Tryd.f6) (specs_ok (P := Tryd.prog) rfl [sp_two, sp_check, sp_cross, sp_find, sp_set, sp_known, sp_sameInts] [] rfl rfl) mixed Tryd.func6 rfl rfl (g := g_awake ) (by delta g_awake start0; first | with_reducible exact Eq.refl _ | exact Eq.refl _) (by rw [g_awake_eq ]; exact g_awake_ok )
noncomputable def q_awake  : Prop × V := (True, (.bool true))
noncomputable def sp_awake : FSpec Tryd.prog where
  f := 6
  run := fun args => match args with
    | [] => some (q_awake )
    | _ => none
  ok := fun args pre r h hp => by
    try dsimp only at h
    split at h
    ·
      have h := Option.some.inj h
      unfold q_awake at h
      cases h
      exact (awake_pure ).weak .nil
    · cases h

end Go.Proofs.YtccmidojhagppaaDoor
