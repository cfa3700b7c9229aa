/-
  Some answers that the document fixes.
-/
import Derived.Test.YtgmcfgegldmieaaEntry12
namespace Go.Proofs.Ytgmcfgegldmieaa
open Go.Vm

noncomputable def env_awake : Env where
  P := Try.prog
  ty := tys
  specs := specsOf [sp_pairE, sp_check, sp_opp, sp_total, sp_parts, sp_same, sp_ents, sp_sameInts]
  frz := fun | 60 => true | 61 => true | 93 => true | 94 => true | 113 => true | 114 => true | 116 => true | _ => false
noncomputable def g_awake  : Prop := vc (env_awake ) (codeOf Try.f8) (start0 Try.f8 []) (exitK (tsOf Try.f8) [.bool] (true, ()))
def g_awake_vc : Prop :=
  True ∧
  (InL [((1 : Int), (4 : Int), (0 : Int), (5 : Int)), ((1 : Int), (5 : Int), (2 : Int), (-5 : Int))] ∧ (2 : Nat) ≤ (1000 : Nat)) ∧
    True ∧
      (InL [((1 : Int), (4 : Int), (0 : Int), (5 : Int)), ((1 : Int), (5 : Int), (2 : Int), (-4 : Int))] ∧ (2 : Nat) ≤ (1000 : Nat)) ∧
        True ∧
          (InL [((1 : Int), (4 : Int), (0 : Int), (5 : Int)), ((1 : Int), (5 : Int), (2 : Int), (-5 : Int))] ∧ (2 : Nat) ≤ (1000 : Nat)) ∧
            (InL [] ∧ (0 : Nat) ≤ (1000 : Nat)) ∧
              True ∧
                (InL [((1 : Int), (4 : Int), (0 : Int), (5 : Int)), ((1 : Int), (5 : Int), (2 : Int), (-5 : Int))] ∧ (2 : Nat) ≤ (1000 : Nat)) ∧
                  True ∧
                    (InL [((1 : Int), (4 : Int), (0 : Int), (-9223372036854775808 : Int)), ((1 : Int), (5 : Int), (2 : Int), (1 : Int))] ∧ (2 : Nat) ≤ (1000 : Nat)) ∧
                      True ∧
                        (2 : Nat) ≤ (1000000000 : Nat) ∧
                          True ∧
                            (2 : Nat) ≤ (1000 : Nat) ∧
                              (decide ((↑(partsF (1 : Int) (0 : Int) [((1 : Int), (4 : Int), (0 : Int), (5 : Int)), ((1 : Int), (5 : Int), (2 : Int), (-4 : Int))]).length : Int) = (1 : Int)) = true →
                                  ((0 : Int) ≤ (0 : Int) ∧
                                      (0 : Int) < (↑(partsF (1 : Int) (0 : Int) [((1 : Int), (4 : Int), (0 : Int), (5 : Int)), ((1 : Int), (5 : Int), (2 : Int), (-4 : Int))]).length : Int)) ∧
                                    ∀ (x : Int × Int × List (Int × Int × Int × Int)),
                                      (partsF (1 : Int) (0 : Int) [((1 : Int), (4 : Int), (0 : Int), (5 : Int)), ((1 : Int), (5 : Int), (2 : Int), (-4 : Int))])[Int.toNat (0 : Int)]? = some x →
                                        True ∧
                                          x.snd.snd.length ≤ (1000000000 : Nat) ∧
                                            (sameE x.fst x.snd.fst x.snd.snd (1 : Int) (0 : Int) [((1 : Int), (4 : Int), (0 : Int), (5 : Int)), ((1 : Int), (5 : Int), (2 : Int), (-4 : Int))] = true →
                                                (decide
                                                        ((checkF (1 : Int) [((1 : Int), (4 : Int), (0 : Int), (5 : Int)), ((1 : Int), (5 : Int), (2 : Int), (-5 : Int))] (2 : Int) (5 : Int)).fst =
                                                          (2 : Int)) =
                                                      true →
                                                    (decide
                                                            ((checkF (1 : Int) [((1 : Int), (4 : Int), (0 : Int), (5 : Int)), ((1 : Int), (5 : Int), (2 : Int), (-5 : Int))] (2 : Int) (5 : Int)).snd =
                                                              (0 : Int)) =
                                                          true →
                                                        (decide
                                                                ((checkF (1 : Int) [((1 : Int), (4 : Int), (0 : Int), (5 : Int)), ((1 : Int), (5 : Int), (2 : Int), (-4 : Int))] (2 : Int)
                                                                      (5 : Int)).fst =
                                                                  (-1 : Int)) =
                                                              true →
                                                            (decide
                                                                    ((checkF (1 : Int) [((1 : Int), (4 : Int), (0 : Int), (5 : Int)), ((1 : Int), (5 : Int), (2 : Int), (-4 : Int))] (2 : Int)
                                                                          (5 : Int)).snd =
                                                                      (32 : Int)) =
                                                                  true →
                                                                (decide
                                                                        ((checkF (1 : Int) [((1 : Int), (4 : Int), (0 : Int), (5 : Int)), ((1 : Int), (5 : Int), (2 : Int), (-5 : Int))] (1 : Int)
                                                                              (5 : Int)).fst =
                                                                          (1 : Int)) =
                                                                      true →
                                                                    (decide
                                                                            ((checkF (1 : Int) [((1 : Int), (4 : Int), (0 : Int), (5 : Int)), ((1 : Int), (5 : Int), (2 : Int), (-5 : Int))] (1 : Int)
                                                                                  (5 : Int)).snd =
                                                                              (24 : Int)) =
                                                                          true →
                                                                        (decide ((checkF (0 : Int) [] (2 : Int) (5 : Int)).snd = (30 : Int)) = true →
                                                                            True ∧
                                                                              (oppF (1 : Int) (0 : Int)
                                                                                            [((1 : Int), (4 : Int), (0 : Int), (5 : Int)),
                                                                                              ((1 : Int), (5 : Int), (2 : Int), (-5 : Int))]).fst.snd.snd.length ≤
                                                                                  (1000000000 : Nat) ∧
                                                                                (sameE
                                                                                        (oppF (1 : Int) (0 : Int)
                                                                                              [((1 : Int), (4 : Int), (0 : Int), (5 : Int)), ((1 : Int), (5 : Int), (2 : Int), (-5 : Int))]).fst.fst
                                                                                        (oppF (1 : Int) (0 : Int)
                                                                                                [((1 : Int), (4 : Int), (0 : Int), (5 : Int)),
                                                                                                  ((1 : Int), (5 : Int), (2 : Int), (-5 : Int))]).fst.snd.fst
                                                                                        (oppF (1 : Int) (0 : Int)
                                                                                                [((1 : Int), (4 : Int), (0 : Int), (5 : Int)),
                                                                                                  ((1 : Int), (5 : Int), (2 : Int), (-5 : Int))]).fst.snd.snd
                                                                                        (1 : Int) (0 : Int)
                                                                                        [((1 : Int), (4 : Int), (0 : Int), (-5 : Int)), ((1 : Int), (5 : Int), (2 : Int), (5 : Int))] =
                                                                                      true →
                                                                                    (decide
                                                                                            ((oppF (1 : Int) (0 : Int)
                                                                                                  [((1 : Int), (4 : Int), (0 : Int), (5 : Int)), ((1 : Int), (5 : Int), (2 : Int), (-5 : Int))]).snd =
                                                                                              (0 : Int)) =
                                                                                          true →
                                                                                        (decide
                                                                                                ((oppF (1 : Int) (0 : Int)
                                                                                                      [((1 : Int), (4 : Int), (0 : Int), (-9223372036854775808 : Int)),
                                                                                                        ((1 : Int), (5 : Int), (2 : Int), (1 : Int))]).snd =
                                                                                                  (10 : Int)) =
                                                                                              true →
                                                                                            (decide
                                                                                                    ((netF
                                                                                                          (amtsL
                                                                                                            [((1 : Int), (4 : Int), (0 : Int), (5 : Int)),
                                                                                                              ((1 : Int), (5 : Int), (2 : Int), (-4 : Int))]
                                                                                                            (1 : Int))
                                                                                                          []).fst =
                                                                                                      (1 : Int)) =
                                                                                                  true →
                                                                                                (decide
                                                                                                        ((netF
                                                                                                              (amtsL
                                                                                                                [((1 : Int), (4 : Int), (0 : Int), (5 : Int)),
                                                                                                                  ((1 : Int), (5 : Int), (2 : Int), (-4 : Int))]
                                                                                                                (1 : Int))
                                                                                                              []).snd =
                                                                                                          (0 : Int)) =
                                                                                                      true →
                                                                                                    True ∧
                                                                                                      (2 : Nat) ≤ (1000000000 : Nat) ∧
                                                                                                        (entsF
                                                                                                                [((1 : Int), (4 : Int), (0 : Int), (1 : Int)),
                                                                                                                  ((1 : Int), (5 : Int), (2 : Int), (1 : Int))]).length ≤
                                                                                                            (1000000000 : Nat) ∧
                                                                                                          (decide
                                                                                                                (entsF
                                                                                                                    [((1 : Int), (4 : Int), (0 : Int), (1 : Int)),
                                                                                                                      ((1 : Int), (5 : Int), (2 : Int), (1 : Int))] =
                                                                                                                  [(1 : Int)]),
                                                                                                              ()) =
                                                                                                            (true, ())) ∧
                                                                                                  (decide
                                                                                                        ((netF
                                                                                                              (amtsL
                                                                                                                [((1 : Int), (4 : Int), (0 : Int), (5 : Int)),
                                                                                                                  ((1 : Int), (5 : Int), (2 : Int), (-4 : Int))]
                                                                                                                (1 : Int))
                                                                                                              []).snd =
                                                                                                          (0 : Int)) =
                                                                                                      !true →
                                                                                                    (false, ()) = (true, ()))) ∧
                                                                                              (decide
                                                                                                    ((netF
                                                                                                          (amtsL
                                                                                                            [((1 : Int), (4 : Int), (0 : Int), (5 : Int)),
                                                                                                              ((1 : Int), (5 : Int), (2 : Int), (-4 : Int))]
                                                                                                            (1 : Int))
                                                                                                          []).fst =
                                                                                                      (1 : Int)) =
                                                                                                  !true →
                                                                                                (false, ()) = (true, ()))) ∧
                                                                                          (decide
                                                                                                ((oppF (1 : Int) (0 : Int)
                                                                                                      [((1 : Int), (4 : Int), (0 : Int), (-9223372036854775808 : Int)),
                                                                                                        ((1 : Int), (5 : Int), (2 : Int), (1 : Int))]).snd =
                                                                                                  (10 : Int)) =
                                                                                              !true →
                                                                                            (false, ()) = (true, ()))) ∧
                                                                                      (decide
                                                                                            ((oppF (1 : Int) (0 : Int)
                                                                                                  [((1 : Int), (4 : Int), (0 : Int), (5 : Int)), ((1 : Int), (5 : Int), (2 : Int), (-5 : Int))]).snd =
                                                                                              (0 : Int)) =
                                                                                          !true →
                                                                                        (false, ()) = (true, ()))) ∧
                                                                                  (sameE
                                                                                        (oppF (1 : Int) (0 : Int)
                                                                                              [((1 : Int), (4 : Int), (0 : Int), (5 : Int)), ((1 : Int), (5 : Int), (2 : Int), (-5 : Int))]).fst.fst
                                                                                        (oppF (1 : Int) (0 : Int)
                                                                                                [((1 : Int), (4 : Int), (0 : Int), (5 : Int)),
                                                                                                  ((1 : Int), (5 : Int), (2 : Int), (-5 : Int))]).fst.snd.fst
                                                                                        (oppF (1 : Int) (0 : Int)
                                                                                                [((1 : Int), (4 : Int), (0 : Int), (5 : Int)),
                                                                                                  ((1 : Int), (5 : Int), (2 : Int), (-5 : Int))]).fst.snd.snd
                                                                                        (1 : Int) (0 : Int)
                                                                                        [((1 : Int), (4 : Int), (0 : Int), (-5 : Int)), ((1 : Int), (5 : Int), (2 : Int), (5 : Int))] =
                                                                                      !true →
                                                                                    (false, ()) = (true, ()))) ∧
                                                                          (decide ((checkF (0 : Int) [] (2 : Int) (5 : Int)).snd = (30 : Int)) = !true → (false, ()) = (true, ()))) ∧
                                                                      (decide
                                                                            ((checkF (1 : Int) [((1 : Int), (4 : Int), (0 : Int), (5 : Int)), ((1 : Int), (5 : Int), (2 : Int), (-5 : Int))] (1 : Int)
                                                                                  (5 : Int)).snd =
                                                                              (24 : Int)) =
                                                                          !true →
                                                                        (false, ()) = (true, ()))) ∧
                                                                  (decide
                                                                        ((checkF (1 : Int) [((1 : Int), (4 : Int), (0 : Int), (5 : Int)), ((1 : Int), (5 : Int), (2 : Int), (-5 : Int))] (1 : Int)
                                                                              (5 : Int)).fst =
                                                                          (1 : Int)) =
                                                                      !true →
                                                                    (false, ()) = (true, ()))) ∧
                                                              (decide
                                                                    ((checkF (1 : Int) [((1 : Int), (4 : Int), (0 : Int), (5 : Int)), ((1 : Int), (5 : Int), (2 : Int), (-4 : Int))] (2 : Int)
                                                                          (5 : Int)).snd =
                                                                      (32 : Int)) =
                                                                  !true →
                                                                (false, ()) = (true, ()))) ∧
                                                          (decide
                                                                ((checkF (1 : Int) [((1 : Int), (4 : Int), (0 : Int), (5 : Int)), ((1 : Int), (5 : Int), (2 : Int), (-4 : Int))] (2 : Int)
                                                                      (5 : Int)).fst =
                                                                  (-1 : Int)) =
                                                              !true →
                                                            (false, ()) = (true, ()))) ∧
                                                      (decide
                                                            ((checkF (1 : Int) [((1 : Int), (4 : Int), (0 : Int), (5 : Int)), ((1 : Int), (5 : Int), (2 : Int), (-5 : Int))] (2 : Int) (5 : Int)).snd =
                                                              (0 : Int)) =
                                                          !true →
                                                        (false, ()) = (true, ()))) ∧
                                                  (decide
                                                        ((checkF (1 : Int) [((1 : Int), (4 : Int), (0 : Int), (5 : Int)), ((1 : Int), (5 : Int), (2 : Int), (-5 : Int))] (2 : Int) (5 : Int)).fst =
                                                          (2 : Int)) =
                                                      !true →
                                                    (false, ()) = (true, ()))) ∧
                                              (sameE x.fst x.snd.fst x.snd.snd (1 : Int) (0 : Int) [((1 : Int), (4 : Int), (0 : Int), (5 : Int)), ((1 : Int), (5 : Int), (2 : Int), (-4 : Int))] =
                                                  !true →
                                                (false, ()) = (true, ()))) ∧
                                (decide ((↑(partsF (1 : Int) (0 : Int) [((1 : Int), (4 : Int), (0 : Int), (5 : Int)), ((1 : Int), (5 : Int), (2 : Int), (-4 : Int))]).length : Int) = (1 : Int)) =
                                    !true →
                                  (false, ()) = (true, ()))

theorem g_awake_eq  : g_awake  = g_awake_vc  := by kernel_rfl
theorem aw1 : partsF 1 0 [((1 : Int), (4 : Int), (0 : Int), (5 : Int)), ((1 : Int), (5 : Int), (2 : Int), (-4 : Int))] = [(1, 0, [((1 : Int), (4 : Int), (0 : Int), (5 : Int)), ((1 : Int), (5 : Int), (2 : Int), (-4 : Int))])] := by kernel_rfl
theorem aw2 : checkF 1 [((1 : Int), (4 : Int), (0 : Int), (5 : Int)), ((1 : Int), (5 : Int), (2 : Int), (-5 : Int))] 2 5 = (2, 0) := by decide
theorem aw3 : checkF 1 [((1 : Int), (4 : Int), (0 : Int), (5 : Int)), ((1 : Int), (5 : Int), (2 : Int), (-4 : Int))] 2 5 = (-1, 32) := by decide
theorem aw4 : checkF 1 [((1 : Int), (4 : Int), (0 : Int), (5 : Int)), ((1 : Int), (5 : Int), (2 : Int), (-5 : Int))] 1 5 = (1, 24) := by decide
theorem aw5 : checkF 0 [] 2 5 = (-1, 30) := by decide
theorem aw6 : oppF 1 0 [((1 : Int), (4 : Int), (0 : Int), (5 : Int)), ((1 : Int), (5 : Int), (2 : Int), (-5 : Int))] = ((1, 0, [((1 : Int), (4 : Int), (0 : Int), (-5 : Int)), ((1 : Int), (5 : Int), (2 : Int), (5 : Int))]), 0) := by kernel_rfl
theorem aw7 : oppF 1 0 [((1 : Int), (4 : Int), (0 : Int), (-9223372036854775808 : Int)), ((1 : Int), (5 : Int), (2 : Int), (1 : Int))] = ((0, 0, []), 10) := by kernel_rfl
theorem aw8 : netF (amtsL [((1 : Int), (4 : Int), (0 : Int), (5 : Int)), ((1 : Int), (5 : Int), (2 : Int), (-4 : Int))] 1) [] = (1, 0) := by decide
theorem aw9 : entsF [((1 : Int), (4 : Int), (0 : Int), (1 : Int)), ((1 : Int), (5 : Int), (2 : Int), (1 : Int))] = [1] := by decide
theorem awL : InL [((1 : Int), (4 : Int), (0 : Int), (5 : Int)), ((1 : Int), (5 : Int), (2 : Int), (-5 : Int))] ∧ InL [((1 : Int), (4 : Int), (0 : Int), (5 : Int)), ((1 : Int), (5 : Int), (2 : Int), (-4 : Int))] ∧ InL [((1 : Int), (4 : Int), (0 : Int), (-9223372036854775808 : Int)), ((1 : Int), (5 : Int), (2 : Int), (1 : Int))] ∧ InL [] := by
  simp [InL, InI]
theorem aw10 (L : List Ln) (p r : Int) : sameE p r L p r L = true := by simp [sameE]
theorem g_awake_ok : g_awake_vc := by
  obtain ⟨l1, l2, l3, l4⟩ := awL
  unfold g_awake_vc
  simp only [aw1, aw2, aw3, aw4, aw5, aw6, aw7, aw8, aw9, l1, l2, l3, l4]
  simp [aw10]
set_option maxRecDepth 20000 in
theorem awake_pure  : Pure Try.prog 8 [] (.bool true) :=
  Pure.of_g (E := env_awake ) (ts := tsOf Try.f8) (ps := [.bool]) (r := (true, ())) (fn := Try.f8) (c := codeOf Try.f8) (specs_ok (P := Try.prog) rfl [sp_pairE, sp_check, sp_opp, sp_total, sp_parts, sp_same, sp_ents, sp_sameInts] [] rfl rfl) mixed Try.func8 rfl rfl (g := g_awake ) (by delta g_awake start0; first | with_reducible exact Eq.refl _ | exact Eq.refl _) (by rw [g_awake_eq ]; exact g_awake_ok )
def q_awake  : Prop × V := (True, (.bool true))
noncomputable def sp_awake : FSpec Try.prog where
  f := 8
  run := fun args => match args with
    | [] => some (q_awake )
    | _ => none
  ok := fun args pre r h hp => by
    try dsimp only at h
    split at h
    ·
      have h := Option.some.inj h
      unfold q_awake at h
      cases h
      exact (awake_pure ).weak .nil
    · cases h

end Go.Proofs.Ytgmcfgegldmieaa
