/-
  ValueTexts, ValueRates: the walks.
-/
import Derived.Test.YtkifiopfapnpnaaGreatDoorVal1
namespace Go.Proofs.YtkifiopfapnpnaaGreatDoor
open Go.Vm

noncomputable def env_awake : Env where
  P := Tryz.prog
  ty := tys0
  specs := specsOf [sp_vparse, sp_vnet, sp_vscale, sp_vprint]
  frz := fun | 34 => true | 42 => true | 49 => true | 56 => true | 63 => true | _ => false
noncomputable def g_awake  : Prop := vc (env_awake ) (codeOf Tryz.f4) (start0 Tryz.f4 []) (exitK (tsOf Tryz.f4) [.bool] (true, ()))
def g_awake_vc : Prop :=
  (8 : Nat) ≤ (10000 : Nat) ∧
  (2 : Nat) ≤ (10000 : Nat) ∧
    (2 : Nat) ≤ (10000 : Nat) ∧
      (0 : Nat) ≤ (10000 : Nat) ∧
        ((2 : Nat) ≤ (1000000 : Nat) ∧ (0 : Nat) ≤ (1000000 : Nat)) ∧
          ((decide ((vnetF [((5 : Int), (0 : Int)), ((0 : Int), (40 : Int))] []).fst = (0 : Int)) && (decide ((vnetF [((5 : Int), (0 : Int)), ((0 : Int), (40 : Int))] []).snd = (40 : Int)) && true)) =
                true →
              ((1 : Nat) ≤ (1000000 : Nat) ∧ (1 : Nat) ≤ (1000000 : Nat)) ∧
                ((decide ((vnetF [((5 : Int), (0 : Int))] [((7 : Int), (0 : Int))]).fst = (-2 : Int)) && (decide ((vnetF [((5 : Int), (0 : Int))] [((7 : Int), (0 : Int))]).snd = (0 : Int)) && true)) =
                      true →
                    (InI (5 : Int) ∧ InI (1 : Int) ∧ InI (2 : Int)) ∧
                      ((decide ((vscaleF (5 : Int) (0 : Int) (1 : Int) (2 : Int) true).fst = (2 : Int)) && (decide ((vscaleF (5 : Int) (0 : Int) (1 : Int) (2 : Int) true).snd = (0 : Int)) && true)) =
                            true →
                          (InI (5 : Int) ∧ InI (1 : Int) ∧ InI (2 : Int)) ∧
                            ((decide ((vscaleF (5 : Int) (0 : Int) (1 : Int) (2 : Int) false).fst = (0 : Int)) &&
                                    (decide ((vscaleF (5 : Int) (0 : Int) (1 : Int) (2 : Int) false).snd = (40 : Int)) && true)) =
                                  true →
                                (InI (0 : Int) ∧ InI (1 : Int) ∧ InI (2 : Int)) ∧
                                  ((decide ((vscaleF (0 : Int) (0 : Int) (1 : Int) (2 : Int) false).fst = (0 : Int)) &&
                                          (decide ((vscaleF (0 : Int) (0 : Int) (1 : Int) (2 : Int) false).snd = (0 : Int)) && true)) =
                                        true →
                                      (InI (0 : Int) ∧ InI (40 : Int)) ∧
                                        (decide (vprintF (0 : Int) (40 : Int) = [(101 : UInt8), (114 : UInt8), (114 : UInt8), (111 : UInt8), (114 : UInt8), (32 : UInt8), (52 : UInt8), (48 : UInt8)]) =
                                              true →
                                            (InI (5 : Int) ∧ InI (0 : Int)) ∧
                                              (decide (vprintF (5 : Int) (0 : Int) = [(53 : UInt8)]) = true →
                                                  ((decide
                                                            ((vparseF [(101 : UInt8), (114 : UInt8), (114 : UInt8), (111 : UInt8), (114 : UInt8), (32 : UInt8), (52 : UInt8), (48 : UInt8)]).fst =
                                                              (0 : Int)) &&
                                                          (decide
                                                              ((vparseF [(101 : UInt8), (114 : UInt8), (114 : UInt8), (111 : UInt8), (114 : UInt8), (32 : UInt8), (52 : UInt8), (48 : UInt8)]).snd.fst =
                                                                (40 : Int)) &&
                                                            true)) =
                                                        true →
                                                      (decide
                                                              ((vparseF [(101 : UInt8), (114 : UInt8), (114 : UInt8), (111 : UInt8), (114 : UInt8), (32 : UInt8), (52 : UInt8), (48 : UInt8)]).snd.snd =
                                                                (0 : Int)) =
                                                            true →
                                                          (decide ((vparseF [(45 : UInt8), (55 : UInt8)]).fst = (-7 : Int)) = true →
                                                              (decide ((vparseF [(45 : UInt8), (55 : UInt8)]).snd.snd = (0 : Int)) = true →
                                                                  (decide ((vparseF [(55 : UInt8), (32 : UInt8)]).snd.snd = (6 : Int)) = true →
                                                                      (decide ((vparseF []).snd.snd = (4 : Int)), ()) = (true, ())) ∧
                                                                    (decide ((vparseF [(55 : UInt8), (32 : UInt8)]).snd.snd = (6 : Int)) = !true → (false, ()) = (true, ()))) ∧
                                                                (decide ((vparseF [(45 : UInt8), (55 : UInt8)]).snd.snd = (0 : Int)) = !true → (false, ()) = (true, ()))) ∧
                                                            (decide ((vparseF [(45 : UInt8), (55 : UInt8)]).fst = (-7 : Int)) = !true → (false, ()) = (true, ()))) ∧
                                                        (decide
                                                              ((vparseF [(101 : UInt8), (114 : UInt8), (114 : UInt8), (111 : UInt8), (114 : UInt8), (32 : UInt8), (52 : UInt8), (48 : UInt8)]).snd.snd =
                                                                (0 : Int)) =
                                                            !true →
                                                          (false, ()) = (true, ()))) ∧
                                                    ((decide
                                                            ((vparseF [(101 : UInt8), (114 : UInt8), (114 : UInt8), (111 : UInt8), (114 : UInt8), (32 : UInt8), (52 : UInt8), (48 : UInt8)]).fst =
                                                              (0 : Int)) &&
                                                          (decide
                                                              ((vparseF [(101 : UInt8), (114 : UInt8), (114 : UInt8), (111 : UInt8), (114 : UInt8), (32 : UInt8), (52 : UInt8), (48 : UInt8)]).snd.fst =
                                                                (40 : Int)) &&
                                                            true)) =
                                                        !true →
                                                      (false, ()) = (true, ()))) ∧
                                                (decide (vprintF (5 : Int) (0 : Int) = [(53 : UInt8)]) = !true → (false, ()) = (true, ()))) ∧
                                          (decide
                                                (vprintF (0 : Int) (40 : Int) = [(101 : UInt8), (114 : UInt8), (114 : UInt8), (111 : UInt8), (114 : UInt8), (32 : UInt8), (52 : UInt8), (48 : UInt8)]) =
                                              !true →
                                            (false, ()) = (true, ()))) ∧
                                    ((decide ((vscaleF (0 : Int) (0 : Int) (1 : Int) (2 : Int) false).fst = (0 : Int)) &&
                                          (decide ((vscaleF (0 : Int) (0 : Int) (1 : Int) (2 : Int) false).snd = (0 : Int)) && true)) =
                                        !true →
                                      (false, ()) = (true, ()))) ∧
                              ((decide ((vscaleF (5 : Int) (0 : Int) (1 : Int) (2 : Int) false).fst = (0 : Int)) &&
                                    (decide ((vscaleF (5 : Int) (0 : Int) (1 : Int) (2 : Int) false).snd = (40 : Int)) && true)) =
                                  !true →
                                (false, ()) = (true, ()))) ∧
                        ((decide ((vscaleF (5 : Int) (0 : Int) (1 : Int) (2 : Int) true).fst = (2 : Int)) &&
                              (decide ((vscaleF (5 : Int) (0 : Int) (1 : Int) (2 : Int) true).snd = (0 : Int)) && true)) =
                            !true →
                          (false, ()) = (true, ()))) ∧
                  ((decide ((vnetF [((5 : Int), (0 : Int))] [((7 : Int), (0 : Int))]).fst = (-2 : Int)) &&
                        (decide ((vnetF [((5 : Int), (0 : Int))] [((7 : Int), (0 : Int))]).snd = (0 : Int)) && true)) =
                      !true →
                    (false, ()) = (true, ()))) ∧
            ((decide ((vnetF [((5 : Int), (0 : Int)), ((0 : Int), (40 : Int))] []).fst = (0 : Int)) &&
                  (decide ((vnetF [((5 : Int), (0 : Int)), ((0 : Int), (40 : Int))] []).snd = (40 : Int)) && true)) =
                !true →
              (false, ()) = (true, ()))

theorem g_awake_eq  : g_awake  = g_awake_vc  := by kernel_rfl
theorem aw1 : vnetF [((5 : Int), (0 : Int)), ((0 : Int), (40 : Int))] [] = (0, 40) := by decide
theorem aw2 : vnetF [((5 : Int), (0 : Int))] [((7 : Int), (0 : Int))] = (-2, 0) := by decide
theorem aw3 : vscaleF 5 0 1 2 true = (2, 0) := by decide
theorem aw4 : vscaleF 5 0 1 2 false = (0, 40) := by decide
theorem aw5 : vscaleF 0 0 1 2 false = (0, 0) := by decide
theorem aw6 : vprintF 0 40 = [(101 : UInt8), (114 : UInt8), (114 : UInt8), (111 : UInt8), (114 : UInt8), (32 : UInt8), (52 : UInt8), (48 : UInt8)] := by
  have h0 : Lib.decDigits 40 = [(52 : UInt8), (48 : UInt8)] := by
    rw [Lib.decDigits, dif_neg (by decide), Lib.decDigits, dif_pos (by decide)]
    rfl
  have h1 : vprintF 0 40 = errB ++ Lib.decDigits 40 := rfl
  rw [h1, h0]
  rfl
theorem aw7 : vprintF 5 0 = [(53 : UInt8)] := by
  have h0 : Lib.decDigits 5 = [(53 : UInt8)] := by
    rw [Lib.decDigits, dif_pos (by decide)]
    rfl
  have h1 : vprintF 5 0 = Lib.decDigits 5 := rfl
  rw [h1, h0]
theorem aw8 : vparseF [(101 : UInt8), (114 : UInt8), (114 : UInt8), (111 : UInt8), (114 : UInt8), (32 : UInt8), (52 : UInt8), (48 : UInt8)] = (0, 40, 0) := by decide
theorem aw9 : vparseF [(45 : UInt8), (55 : UInt8)] = (-7, 0, 0) := by decide
theorem aw10 : vparseF [(55 : UInt8), (32 : UInt8)] = (0, 0, 6) := by decide
theorem aw11 : vparseF [] = (0, 0, 4) := by decide
theorem aw12 : InI 5 ∧ InI 1 ∧ InI 2 ∧ InI 0 ∧ InI 40 := ⟨⟨by decide, by decide⟩, ⟨by decide, by decide⟩, ⟨by decide, by decide⟩, ⟨by decide, by decide⟩, ⟨by decide, by decide⟩⟩
theorem g_awake_ok : g_awake_vc := by
  obtain ⟨i1, i2, i3, i4, i5⟩ := aw12
  unfold g_awake_vc
  simp only [aw1, aw2, aw3, aw4, aw5, aw6, aw7, aw8, aw9, aw10, aw11, i1, i2, i3, i4, i5]
  simp
set_option maxRecDepth 20000 in
theorem awake_pure  : Pure Tryz.prog 4 [] (.bool true) :=
  Pure.of_g (E := env_awake ) (ts := tsOf Tryz.f4) (ps := [.bool]) (r := (true, ())) (fn := Tryz.f4) (c := codeOf Tryz.f4) (specs_ok (P := Tryz.prog) rfl [sp_vparse, sp_vnet, sp_vscale, sp_vprint] [] rfl rfl) mixed Tryz.func4 rfl rfl (g := g_awake ) (by delta g_awake start0; first | with_reducible exact Eq.refl _ | exact Eq.refl _) (by rw [g_awake_eq ]; exact g_awake_ok )
def q_awake  : Prop × V := (True, (.bool true))
noncomputable def sp_awake : FSpec Tryz.prog where
  f := 4
  run := fun args => match args with
    | [] => some (q_awake )
    | _ => none
  ok := fun args pre r h hp => by
    try dsimp only at h
    split at h
    ·
      have h := Option.some.inj h
      unfold q_awake at h
      cases h
      exact (awake_pure ).weak .nil
    · cases h


end Go.Proofs.YtkifiopfapnpnaaGreatDoor
