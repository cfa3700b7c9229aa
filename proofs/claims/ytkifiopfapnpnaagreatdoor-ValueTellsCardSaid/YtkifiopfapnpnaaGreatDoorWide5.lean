/-
  By a rate.
-/
import Derived.Test.YtkifiopfapnpnaaGreatDoorWide4
namespace Go.Proofs.YtkifiopfapnpnaaGreatDoor
open Go.Vm

def applyF (x a b : Int) : Int × Int := if ratioF a b = 0 then evenF (x * a) b else (0, 11)
noncomputable def env_apply (x a b : Int) : Env where
  P := Tryz.prog
  ty := tys0
  specs := specsOf [sp_rcheck, sp_sscale]
noncomputable def g_apply (x a b : Int) : Prop := vc (env_apply x a b) (codeOf Tryz.f18) (start0 Tryz.f18 [.int .i64 x, .agg [.int .i64 a, .int .i64 b]]) (exitK (tsOf Tryz.f18) [.int .i64, .int .i64] ((applyF x a b).1, (applyF x a b).2, ()))
def g_apply_vc (x : Int) (a : Int) (b : Int) : Prop :=
  True ∧
  ((!decide (ratioF a b = (0 : Int))) = true → ((0 : Int), ratioF a b, ()) = ((applyF x a b).fst, (applyF x a b).snd, ())) ∧
    ((!decide (ratioF a b = (0 : Int))) = false → (InI x ∧ InI a ∧ InI b) ∧ ((evenF (x * a) b).fst, (evenF (x * a) b).snd, ()) = ((applyF x a b).fst, (applyF x a b).snd, ()))

theorem g_apply_eq (x a b : Int) : g_apply x a b = g_apply_vc x a b := by kernel_rfl
theorem g_apply_ok (x a b : Int) (h : InI x ∧ InI a ∧ InI b) : g_apply_vc x a b := by
  unfold g_apply_vc applyF
  have e : ratioF a b = 0 ∨ ratioF a b = 11 := by unfold ratioF; split <;> simp
  refine ⟨trivial, fun c => ?_, fun c => ⟨h, ?_⟩⟩
  · rcases e with e | e <;> rw [e] at c ⊢
    · simp at c
    · rfl
  · rcases e with e | e <;> rw [e] at c ⊢
    · rfl
    · simp at c
set_option maxRecDepth 20000 in
theorem apply_pure (x a b : Int) (h : InI x ∧ InI a ∧ InI b) : Pure Tryz.prog 18 [.int .i64 x, .agg [.int .i64 a, .int .i64 b]] (.tuple [.int .i64 (applyF x a b).1, .int .i64 (applyF x a b).2]) :=
  Pure.of_g (E := env_apply x a b) (ts := tsOf Tryz.f18) (ps := [.int .i64, .int .i64]) (r := ((applyF x a b).1, (applyF x a b).2, ())) (fn := Tryz.f18) (c := codeOf Tryz.f18) (specs_ok (P := Tryz.prog) rfl [sp_rcheck, sp_sscale] [] rfl rfl) mixed Tryz.func18 rfl rfl (g := g_apply x a b) (by delta g_apply start0; first | with_reducible exact Eq.refl _ | exact Eq.refl _) (by rw [g_apply_eq x a b]; exact g_apply_ok x a b h)
def q_apply (x a b : Int) : Prop × V := (InI x ∧ InI a ∧ InI b, (.tuple [.int .i64 (applyF x a b).1, .int .i64 (applyF x a b).2]))
noncomputable def sp_apply : FSpec Tryz.prog where
  f := 18
  run := fun args => match args with
    | [.int .i64 x, .agg [.int .i64 a, .int .i64 b]] => some (q_apply x a b)
    | _ => none
  ok := fun args pre r h hp => by
    try dsimp only at h
    split at h
    · rename_i x a b
      have h := Option.some.inj h
      unfold q_apply at h
      cases h
      exact (apply_pure x a b hp).weak (.cons (Weak.refl _) (.cons (Weak.refl _) .nil))
    · cases h

end Go.Proofs.YtkifiopfapnpnaaGreatDoor
