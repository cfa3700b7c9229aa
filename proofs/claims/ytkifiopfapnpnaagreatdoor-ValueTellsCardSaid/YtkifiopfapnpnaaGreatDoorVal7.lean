/-
  ValueTells: the walk.
-/
import Derived.Test.YtkifiopfapnpnaaGreatDoorVal6
namespace Go.Proofs.YtkifiopfapnpnaaGreatDoor
open Go.Vm

noncomputable def env_tells (l m : List (Int × Int)) (a e n d : Int) (has : Bool) : Env where
  P := Tryz.prog
  ty := tys0
  specs := specsOf [sp_awake, sp_vnet, sp_rvnet, sp_vscale, sp_rvscale]
noncomputable def g_tells (l m : List (Int × Int)) (a e n d : Int) (has : Bool) : Prop := vc (env_tells l m a e n d has) (codeOf Tryz.f3) (start0 Tryz.f3 [.list .tmp Vl l, .list .tmp Vl m, .agg [.int .i64 a, .int .i64 e, .int .i64 n, .int .i64 d, .bool has]]) (exitK (tsOf Tryz.f3) [.bool] (true, ()))
def g_tells_vc (l : List (Int × Int)) (m : List (Int × Int)) (a : Int) (e : Int) (n : Int) (d : Int) (has : Bool) : Prop :=
  (decide ((100 : Int) < (↑l.length : Int)) = false →
    (decide ((100 : Int) < (↑m.length : Int)) = true → True ∧ (true, ()) = (true, ())) ∧
      (decide ((100 : Int) < (↑m.length : Int)) = false →
        (l.length ≤ (1000000 : Nat) ∧ m.length ≤ (1000000 : Nat)) ∧
          (l.length ≤ (100 : Nat) ∧ m.length ≤ (100 : Nat) ∧ InVs l ∧ InVs m) ∧
            ((decide ((vnetF l m).fst = (vnetF l m).fst) && (decide ((vnetF l m).snd = (vnetF l m).snd) && true)) = true →
                (InI a ∧ InI n ∧ InI d) ∧
                  (InI a ∧ InI n ∧ InI d) ∧
                    ((decide ((vscaleF a e n d has).fst = (vscaleF a e n d has).fst) && (decide ((vscaleF a e n d has).snd = (vscaleF a e n d has).snd) && true)) = true →
                        True ∧ (true, ()) = (true, ())) ∧
                      ((decide ((vscaleF a e n d has).fst = (vscaleF a e n d has).fst) && (decide ((vscaleF a e n d has).snd = (vscaleF a e n d has).snd) && true)) = !true →
                        (false, ()) = (true, ()))) ∧
              ((decide ((vnetF l m).fst = (vnetF l m).fst) && (decide ((vnetF l m).snd = (vnetF l m).snd) && true)) = !true → (false, ()) = (true, ())))) ∧
  (decide ((100 : Int) < (↑l.length : Int)) = !false → True ∧ (true, ()) = (true, ()))

theorem g_tells_eq (l m : List (Int × Int)) (a e n d : Int) (has : Bool) : g_tells l m a e n d has = g_tells_vc l m a e n d has := by kernel_rfl
theorem g_tells_ok (l m : List (Int × Int)) (a e n d : Int) (has : Bool) (h : InVs l ∧ InVs m ∧ InI a ∧ InI n ∧ InI d) : g_tells_vc l m a e n d has := by
  obtain ⟨hl, hm, hi⟩ := h
  unfold g_tells_vc
  simp only [decide_eq_true_eq, decide_eq_false_iff_not, Bool.not_false]
  refine ⟨fun c1 => ⟨fun _ => ⟨trivial, trivial⟩, fun c2 => ⟨by omega, ⟨by omega, by omega, hl, hm⟩, fun _ => ⟨hi, hi, ?_⟩, ?_⟩⟩, fun _ => ⟨trivial, trivial⟩⟩
  · simp
  · simp
set_option maxRecDepth 20000 in
theorem tells_pure (l m : List (Int × Int)) (a e n d : Int) (has : Bool) (h : InVs l ∧ InVs m ∧ InI a ∧ InI n ∧ InI d) : Pure Tryz.prog 3 [.list .tmp Vl l, .list .tmp Vl m, .agg [.int .i64 a, .int .i64 e, .int .i64 n, .int .i64 d, .bool has]] (.bool true) :=
  Pure.of_g (E := env_tells l m a e n d has) (ts := tsOf Tryz.f3) (ps := [.bool]) (r := (true, ())) (fn := Tryz.f3) (c := codeOf Tryz.f3) (specs_ok (P := Tryz.prog) rfl [sp_awake, sp_vnet, sp_rvnet, sp_vscale, sp_rvscale] [] rfl rfl) mixed Tryz.func3 rfl rfl (g := g_tells l m a e n d has) (by delta g_tells start0; first | with_reducible exact Eq.refl _ | exact Eq.refl _) (by rw [g_tells_eq l m a e n d has]; exact g_tells_ok l m a e n d has h)
def q_tells (l m : List (Int × Int)) (a e n d : Int) (has : Bool) : Prop × V := (InVs l ∧ InVs m ∧ InI a ∧ InI n ∧ InI d, (.bool true))
noncomputable def sp_tells : FSpec Tryz.prog where
  f := 3
  run := fun args => match args with
    | [v0, v1, .agg [.int .i64 a, .int .i64 e, .int .i64 n, .int .i64 d, v2_4]] => (match (asL Vl v0 : Option (List (Int × Int))) with | some l => (match (asL Vl v1 : Option (List (Int × Int))) with | some m => (match boolOf v2_4 with | some has => some (q_tells l m a e n d has) | none => none) | none => none) | none => none)
    | _ => none
  ok := fun args pre r h hp => by
    try dsimp only at h
    split at h
    · rename_i v0 v1 a e n d v2_4
      cases h0 : (asL Vl v0 : Option (List (Int × Int))) with
      | none => rw [h0] at h; cases h
      | some l =>
      rw [h0] at h
      try dsimp only at h
      cases h1 : (asL Vl v1 : Option (List (Int × Int))) with
      | none => rw [h1] at h; cases h
      | some m =>
      rw [h1] at h
      try dsimp only at h
      cases h2_4 : boolOf v2_4 with
      | none => rw [h2_4] at h; cases h
      | some has =>
      rw [h2_4] at h
      try dsimp only at h
      have h := Option.some.inj h
      unfold q_tells at h
      cases h
      exact (tells_pure l m a e n d has hp).weak (.cons (asL_weak h0) (.cons (asL_weak h1) (.cons (Weak.agg (.cons (Weak.refl _) (.cons (Weak.refl _) (.cons (Weak.refl _) (.cons (Weak.refl _) (.cons (boolOf_weak h2_4) .nil)))))) .nil)))
    · cases h

end Go.Proofs.YtkifiopfapnpnaaGreatDoor
