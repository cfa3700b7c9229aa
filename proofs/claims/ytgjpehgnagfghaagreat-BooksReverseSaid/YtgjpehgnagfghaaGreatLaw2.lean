/-
  BooksTell.
-/
import Derived.Test.YtgjpehgnagfghaaGreatPrt
namespace Go.Proofs.YtgjpehgnagfghaaGreat.Bks
open Go.Vm
noncomputable def env_tell (E : List Int) (A : List Acc.AcD) (S : List Ln) (R : List Rts.Rt) (K : List Lck.Lk) (N : List En) (a : Int) : Env where
  P := Tryz.prog
  ty := tys0
  specs := specsOf [sp_few, sp_awake, sp_check, sp_rcheck, sp_used, sp_rused, sp_new, sp_rnew, sp_rsame]
  frz := fun | 43 => true | 46 => true | 50 => true | 51 => true | 52 => true | 55 => true | _ => false
def g_tell_vc (E : List Int) (A : List Acc.AcD) (S : List Ln) (R : List Rts.Rt) (K : List Lck.Lk) (N : List En) (a : Int) : Prop :=
  N.length ≤ (9223372036854775807 : Nat) ∧ ((!fewF E A S R K N) = true → True ∧ (true, ()) = (true, ())) ∧ ((!fewF E A S R K N) = false → Sm E A S R K N ∧ Sm E A S R K N ∧ (decide ((checkF E A S R K N).1 = (checkF E A S R K N).1) = true → (decide ((checkF E A S R K N).2.1 = (checkF E A S R K N).2.1) = true → (decide ((checkF E A S R K N).2.2 = (checkF E A S R K N).2.2) = true → Sm E A S R K N ∧ Sm E A S R K N ∧ ((usedF N a == usedF N a) = true → True ∧ True ∧ (Sm [] Acc.ownL [] [] [] [] ∧ Sm [] Acc.ownL [] [] [] []) ∧ (sameB [] Acc.ownL [] [] [] [] [] Acc.ownL [] [] [] [] = true → True ∧ (true, ()) = (true, ())) ∧ (sameB [] Acc.ownL [] [] [] [] [] Acc.ownL [] [] [] [] = !true → (false, ()) = (true, ()))) ∧ ((usedF N a == usedF N a) = !true → (false, ()) = (true, ()))) ∧ (decide ((checkF E A S R K N).2.2 = (checkF E A S R K N).2.2) = !true → (false, ()) = (true, ()))) ∧ (decide ((checkF E A S R K N).2.1 = (checkF E A S R K N).2.1) = !true → (false, ()) = (true, ()))) ∧ (decide ((checkF E A S R K N).1 = (checkF E A S R K N).1) = !true → (false, ()) = (true, ())))
theorem g_tell_eq (E : List Int) (A : List Acc.AcD) (S : List Ln) (R : List Rts.Rt) (K : List Lck.Lk) (N : List En) (a : Int) : Cond (env_tell E A S R K N a) Tryz.f3 [.agg [.list .tmp I E, .list .tmp AcT A, .list .tmp LnT S, .list .tmp RTy R, .list .tmp Vl K, .list .tmp EnT N], .int .i64 a] [.bool] (true, ()) = g_tell_vc E A S R K N a := by kernel_rfl
theorem g_tell_ok (E : List Int) (A : List Acc.AcD) (S : List Ln) (R : List Rts.Rt) (K : List Lck.Lk) (N : List En) (a : Int) (h : Ok E A S R K N) : g_tell_vc E A S R K N a := by
  unfold g_tell_vc
  refine ⟨h.1, fun c => ⟨trivial, rfl⟩, fun c => ?_⟩
  have hs := sm_few E A S R K N h (by simpa using c)
  have s0 : sameB [] Acc.ownL [] [] [] [] [] Acc.ownL [] [] [] [] = true := by decide +kernel
  simp [hs, sm0, s0]
set_option maxRecDepth 20000
theorem tell_pure (E : List Int) (A : List Acc.AcD) (S : List Ln) (R : List Rts.Rt) (K : List Lck.Lk) (N : List En) (a : Int) (h : Ok E A S R K N) : Pure Tryz.prog 3 [.agg [.list .tmp I E, .list .tmp AcT A, .list .tmp LnT S, .list .tmp RTy R, .list .tmp Vl K, .list .tmp EnT N], .int .i64 a] (.bool true) :=
  by have k := Pure.of_cond (g_tell_eq E A S R K N a) (g_tell_ok E A S R K N a h) (specs_ok rfl [sp_few, sp_awake, sp_check, sp_rcheck, sp_used, sp_rused, sp_new, sp_rnew, sp_rsame] [] rfl rfl) mixed Tryz.func3; exact k
end Go.Proofs.YtgjpehgnagfghaaGreat.Bks
