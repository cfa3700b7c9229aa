/-
  law18.awake.
-/
import Derived.Test.YtoiofigknkpieaaStake9
namespace Go.Proofs.Ytoiofigknkpieaa
open Go.Vm

noncomputable def env_awake : Env where
  P := Try.prog
  ty := tys
  specs := specsOf [sp_two, sp_check, sp_at_, sp_add, sp_spans, sp_froms, sp_sameInts]
noncomputable def g_awake  : Prop := vc (env_awake ) (codeOf Try.f8) (start0 Try.f8 []) (exitK (tsOf Try.f8) [.bool] (true, ()))
def g_awake_vc : Prop :=
  True ∧
  twoL.length ≤ (1000000000 : Nat) ∧
    True ∧
      twoL.length ≤ (1000000000 : Nat) ∧
        True ∧
          twoL.length ≤ (1000000000 : Nat) ∧
            True ∧
              twoL.length ≤ (1000000000 : Nat) ∧
                True ∧
                  twoL.length ≤ (1000000000 : Nat) ∧
                    (1 : Nat) ≤ (1000000000 : Nat) ∧
                      True ∧
                        twoL.length ≤ (1000000000 : Nat) ∧
                          (decide ((↑(spansF twoL (2 : Int)).length : Int) = (2 : Int)) = true →
                              ((0 : Int) ≤ (0 : Int) ∧ (0 : Int) < (↑(spansF twoL (2 : Int)).length : Int)) ∧
                                ∀ (x : Int × Int × Int × Int),
                                  (spansF twoL (2 : Int))[Int.toNat (0 : Int)]? = some x →
                                    ((decide (x.fst = (0 : Int)) && (decide (x.snd.fst = (2 : Int)) && (decide (x.snd.snd.fst = (1 : Int)) && (decide (x.snd.snd.snd = (8000 : Int)) && true)))) =
                                          true →
                                        ((0 : Int) ≤ (1 : Int) ∧ (1 : Int) < (↑(spansF twoL (2 : Int)).length : Int)) ∧
                                          ∀ (x : Int × Int × Int × Int),
                                            (spansF twoL (2 : Int))[Int.toNat (1 : Int)]? = some x →
                                              ((decide (x.fst = (3 : Int)) &&
                                                      (decide (x.snd.fst = (23 : Int)) && (decide (x.snd.snd.fst = (0 : Int)) && (decide (x.snd.snd.snd = (10000 : Int)) && true)))) =
                                                    true →
                                                  (decide ((checkF twoL (2 : Int)).fst = (2 : Int)) = true →
                                                      (decide ((checkF twoL (2 : Int)).snd = (0 : Int)) = true →
                                                          (decide ((atF twoL (2 : Int) (2 : Int)).fst = (1 : Int)) = true →
                                                              (decide ((atF twoL (2 : Int) (2 : Int)).snd = (8000 : Int)) = true →
                                                                  (decide ((atF twoL (2 : Int) (3 : Int)).fst = (0 : Int)) = true →
                                                                      (decide ((atF twoL (2 : Int) (3 : Int)).snd = (10000 : Int)) = true →
                                                                          (decide ((addF twoL ((1 : Int), (2 : Int), (1 : Int), (2 : Int)) (2 : Int)).snd = (26 : Int)) = true →
                                                                              (decide ((↑(addF twoL ((1 : Int), (2 : Int), (1 : Int), (3 : Int)) (2 : Int)).fst.length : Int) = (3 : Int)) = true →
                                                                                  (decide ((addF twoL ((1 : Int), (2 : Int), (1 : Int), (3 : Int)) (2 : Int)).snd = (0 : Int)) = true →
                                                                                      (decide ((checkF [((1 : Int), (1 : Int), (1 : Int), (0 : Int))] (1 : Int)).fst = (0 : Int)) = true →
                                                                                          (decide ((checkF [((1 : Int), (1 : Int), (1 : Int), (0 : Int))] (1 : Int)).snd = (26 : Int)) = true →
                                                                                              True ∧
                                                                                                twoL.length ≤ (1000000000 : Nat) ∧
                                                                                                  (fromsF twoL (2 : Int)).length ≤ (1000000000 : Nat) ∧
                                                                                                    (decide (fromsF twoL (2 : Int) = [(0 : Int), (3 : Int)]), ()) = (true, ())) ∧
                                                                                            (decide ((checkF [((1 : Int), (1 : Int), (1 : Int), (0 : Int))] (1 : Int)).snd = (26 : Int)) = !true →
                                                                                              (false, ()) = (true, ()))) ∧
                                                                                        (decide ((checkF [((1 : Int), (1 : Int), (1 : Int), (0 : Int))] (1 : Int)).fst = (0 : Int)) = !true →
                                                                                          (false, ()) = (true, ()))) ∧
                                                                                    (decide ((addF twoL ((1 : Int), (2 : Int), (1 : Int), (3 : Int)) (2 : Int)).snd = (0 : Int)) = !true →
                                                                                      (false, ()) = (true, ()))) ∧
                                                                                (decide ((↑(addF twoL ((1 : Int), (2 : Int), (1 : Int), (3 : Int)) (2 : Int)).fst.length : Int) = (3 : Int)) = !true →
                                                                                  (false, ()) = (true, ()))) ∧
                                                                            (decide ((addF twoL ((1 : Int), (2 : Int), (1 : Int), (2 : Int)) (2 : Int)).snd = (26 : Int)) = !true →
                                                                              (false, ()) = (true, ()))) ∧
                                                                        (decide ((atF twoL (2 : Int) (3 : Int)).snd = (10000 : Int)) = !true → (false, ()) = (true, ()))) ∧
                                                                    (decide ((atF twoL (2 : Int) (3 : Int)).fst = (0 : Int)) = !true → (false, ()) = (true, ()))) ∧
                                                                (decide ((atF twoL (2 : Int) (2 : Int)).snd = (8000 : Int)) = !true → (false, ()) = (true, ()))) ∧
                                                            (decide ((atF twoL (2 : Int) (2 : Int)).fst = (1 : Int)) = !true → (false, ()) = (true, ()))) ∧
                                                        (decide ((checkF twoL (2 : Int)).snd = (0 : Int)) = !true → (false, ()) = (true, ()))) ∧
                                                    (decide ((checkF twoL (2 : Int)).fst = (2 : Int)) = !true → (false, ()) = (true, ()))) ∧
                                                ((decide (x.fst = (3 : Int)) &&
                                                      (decide (x.snd.fst = (23 : Int)) && (decide (x.snd.snd.fst = (0 : Int)) && (decide (x.snd.snd.snd = (10000 : Int)) && true)))) =
                                                    !true →
                                                  (false, ()) = (true, ()))) ∧
                                      ((decide (x.fst = (0 : Int)) && (decide (x.snd.fst = (2 : Int)) && (decide (x.snd.snd.fst = (1 : Int)) && (decide (x.snd.snd.snd = (8000 : Int)) && true)))) =
                                          !true →
                                        (false, ()) = (true, ()))) ∧
                            (decide ((↑(spansF twoL (2 : Int)).length : Int) = (2 : Int)) = !true → (false, ()) = (true, ()))

theorem g_awake_eq  : g_awake  = g_awake_vc  := by kernel_rfl
theorem aw1 : spansF twoL 2 = [(0, 2, 1, 8000), (3, 23, 0, 10000)] := by decide +kernel
theorem aw2 : checkF twoL 2 = (2, 0) := by decide +kernel
theorem aw3 : atF twoL 2 2 = (1, 8000) := by decide +kernel
theorem aw4 : atF twoL 2 3 = (0, 10000) := by decide +kernel
theorem aw5 : addF twoL (1, 2, 1, 2) 2 = ([], 26) := by decide +kernel
theorem aw6 : addF twoL (1, 2, 1, 3) 2 = (twoL ++ [(1, 2, 1, 3)], 0) := by decide +kernel
theorem aw7 : checkF [(1, 1, 1, 0)] 1 = (0, 26) := by decide +kernel
theorem aw8 : fromsF twoL 2 = [0, 3] := by decide +kernel
theorem aw9 : twoL.length = 2 := rfl
theorem g_awake_ok : g_awake_vc := by
  unfold g_awake_vc
  simp [aw1, aw2, aw3, aw4, aw5, aw6, aw7, aw8, aw9]
theorem awake_pure  : Pure Try.prog 8 [] (.bool true) :=
  Pure.of_vc (E := env_awake ) (ts := tsOf Try.f8) (ps := [.bool]) (r := (true, ())) (fn := Try.f8) (c := codeOf Try.f8) (specs_ok (P := Try.prog) rfl [sp_two, sp_check, sp_at_, sp_add, sp_spans, sp_froms, sp_sameInts] [] rfl rfl) mixed Try.func8 rfl rfl (by
    have := g_awake_ok 
    rw [← g_awake_eq] at this
    exact this)
def q_awake  : Prop × V := (True, (.bool true))
noncomputable def sp_awake : FSpec Try.prog where
  f := 8
  run := fun args => match args with
    | [] => some (q_awake )
    | _ => none
  ok := fun args pre r h hp => by
    try dsimp only at h
    split at h
    ·
      have h := Option.some.inj h
      unfold q_awake at h
      cases h
      exact (awake_pure ).weak .nil
    · cases h

end Go.Proofs.Ytoiofigknkpieaa
