/-
  Whether books may be, as the document has it.
-/
import Derived.Test.YtgjpehgnagfghaaGreatBks3
namespace Go.Proofs.YtgjpehgnagfghaaGreat.Bks
open Go.Vm
noncomputable def env_rcheck (E : List Int) (A : List Acc.AcD) (S : List Ln) (R : List Rts.Rt) (K : List Lck.Lk) (N : List En) : Env where
  P := Tryz.prog
  ty := tys0
  specs := specsOf [Cur.sp_rcheck, Acc.sp_rcheck, Stk.sp_refCheck, Rts.sp_rcheckl, Lck.sp_rcheck, sp_entries]
def g_rcheck_vc (E : List Int) (A : List Acc.AcD) (S : List Ln) (R : List Rts.Rt) (K : List Lck.Lk) (N : List En) : Prop :=
  E.length ≤ (1000000000 : Nat) ∧ ((!decide ((Cur.checkF E).2 = (0 : Int))) = true → ((1 : Int), (Cur.checkF E).1, (Cur.checkF E).2, ()) = ((checkF E A S R K N).1, (checkF E A S R K N).2.1, (checkF E A S R K N).2.2, ())) ∧ ((!decide ((Cur.checkF E).2 = (0 : Int))) = false → A.length ≤ (1000000 : Nat) ∧ ((!decide ((Acc.checkG (Acc.roundR A) A).2 = (0 : Int))) = true → ((2 : Int), (Acc.checkG (Acc.roundR A) A).1, (Acc.checkG (Acc.roundR A) A).2, ()) = ((checkF E A S R K N).1, (checkF E A S R K N).2.1, (checkF E A S R K N).2.2, ())) ∧ ((!decide ((Acc.checkG (Acc.roundR A) A).2 = (0 : Int))) = false → S.length ≤ (1000000000 : Nat) ∧ ((!decide ((Stk.checkF S (↑E.length : Int)).2 = (0 : Int))) = true → ((3 : Int), (Stk.checkF S (↑E.length : Int)).1, (Stk.checkF S (↑E.length : Int)).2, ()) = ((checkF E A S R K N).1, (checkF E A S R K N).2.1, (checkF E A S R K N).2.2, ())) ∧ ((!decide ((Stk.checkF S (↑E.length : Int)).2 = (0 : Int))) = false → True ∧ ((!decide ((Rts.checkF R).2 = (0 : Int))) = true → ((4 : Int), (Rts.checkF R).1, (Rts.checkF R).2, ()) = ((checkF E A S R K N).1, (checkF E A S R K N).2.1, (checkF E A S R K N).2.2, ())) ∧ ((!decide ((Rts.checkF R).2 = (0 : Int))) = false → K.length ≤ (1000000000 : Nat) ∧ ((!decide ((Lck.checkF K (↑E.length : Int)).2 = (0 : Int))) = true → ((5 : Int), (Lck.checkF K (↑E.length : Int)).1, (Lck.checkF K (↑E.length : Int)).2, ()) = ((checkF E A S R K N).1, (checkF E A S R K N).2.1, (checkF E A S R K N).2.2, ())) ∧ ((!decide ((Lck.checkF K (↑E.length : Int)).2 = (0 : Int))) = false → Sm E A S R K N ∧ ((!decide ((entriesF N (↑E.length : Int) (↑A.length : Int) (Acc.thoseF (Acc.leafF A) A.length)).2 = (0 : Int))) = true → ((6 : Int), (entriesF N (↑E.length : Int) (↑A.length : Int) (Acc.thoseF (Acc.leafF A) A.length)).1, (entriesF N (↑E.length : Int) (↑A.length : Int) (Acc.thoseF (Acc.leafF A) A.length)).2, ()) = ((checkF E A S R K N).1, (checkF E A S R K N).2.1, (checkF E A S R K N).2.2, ())) ∧ ((!decide ((entriesF N (↑E.length : Int) (↑A.length : Int) (Acc.thoseF (Acc.leafF A) A.length)).2 = (0 : Int))) = false → ((0 : Int), (0 : Int), (0 : Int), ()) = ((checkF E A S R K N).1, (checkF E A S R K N).2.1, (checkF E A S R K N).2.2, ())))))))
theorem g_rcheck_eq (E : List Int) (A : List Acc.AcD) (S : List Ln) (R : List Rts.Rt) (K : List Lck.Lk) (N : List En) : Cond (env_rcheck E A S R K N) Tryz.f10 [.agg [.list .tmp I E, .list .tmp AcT A, .list .tmp LnT S, .list .tmp RTy R, .list .tmp Vl K, .list .tmp EnT N]] [.int .i64, .int .i64, .int .i64] ((checkF E A S R K N).1, (checkF E A S R K N).2.1, (checkF E A S R K N).2.2, ()) = g_rcheck_vc E A S R K N := by kernel_rfl
theorem g_rcheck_ok (E : List Int) (A : List Acc.AcD) (S : List Ln) (R : List Rts.Rt) (K : List Lck.Lk) (N : List En) (h : Sm E A S R K N) : g_rcheck_vc E A S R K N := by
  unfold g_rcheck_vc
  simp only [Bool.not_eq_true', Bool.not_eq_false', decide_eq_true_eq, decide_eq_false_iff_not, Acc.check_round]
  have hs := h
  obtain ⟨l1, l2, l3, l4, l5, l6, hi⟩ := hs
  unfold checkF
  rw [← all_eq]
  refine ⟨by omega, fun c1 => by rw [step_1 c1], fun c1 => ⟨by omega, fun c2 => by rw [step_0 c1, step_1 c2], fun c2 => ⟨by omega, fun c3 => by rw [step_0 c1, step_0 c2, step_1 c3], fun c3 => ⟨trivial, fun c4 => by rw [step_0 c1, step_0 c2, step_0 c3, step_1 c4], fun c4 => ⟨by omega, fun c5 => by rw [step_0 c1, step_0 c2, step_0 c3, step_0 c4, step_1 c5], fun c5 => ⟨h, fun c6 => by rw [step_0 c1, step_0 c2, step_0 c3, step_0 c4, step_0 c5, step_1 c6], fun c6 => by rw [step_0 c1, step_0 c2, step_0 c3, step_0 c4, step_0 c5, step_0 c6]⟩⟩⟩⟩⟩⟩
set_option maxRecDepth 20000
theorem rcheck_pure (E : List Int) (A : List Acc.AcD) (S : List Ln) (R : List Rts.Rt) (K : List Lck.Lk) (N : List En) (h : Sm E A S R K N) : Pure Tryz.prog 10 [.agg [.list .tmp I E, .list .tmp AcT A, .list .tmp LnT S, .list .tmp RTy R, .list .tmp Vl K, .list .tmp EnT N]] (.tuple [.int .i64 (checkF E A S R K N).1, .int .i64 (checkF E A S R K N).2.1, .int .i64 (checkF E A S R K N).2.2]) :=
  by have k := Pure.of_cond (g_rcheck_eq E A S R K N) (g_rcheck_ok E A S R K N h) (specs_ok rfl [Cur.sp_rcheck, Acc.sp_rcheck, Stk.sp_refCheck, Rts.sp_rcheckl, Lck.sp_rcheck, sp_entries] [] rfl rfl) mixed Tryz.func10; exact k
noncomputable def q_rcheck (E : List Int) (A : List Acc.AcD) (S : List Ln) (R : List Rts.Rt) (K : List Lck.Lk) (N : List En) : Prop × V := (Sm E A S R K N, (.tuple [.int .i64 (checkF E A S R K N).1, .int .i64 (checkF E A S R K N).2.1, .int .i64 (checkF E A S R K N).2.2]))
noncomputable def sp_rcheck : FSpec Tryz.prog where
 f := 10
 run := fun
  | [.agg [v0_0, v0_1, v0_2, v0_3, v0_4, v0_5]] => (asL I v0_0 : Option (List Int)).bind fun E => (asL AcT v0_1 : Option (List Acc.AcD)).bind fun A => (asL LnT v0_2 : Option (List Ln)).bind fun S => (asL RTy v0_3 : Option (List Rts.Rt)).bind fun R => (asL Vl v0_4 : Option (List Lck.Lk)).bind fun K => (asL EnT v0_5 : Option (List En)).bind fun N => some (q_rcheck E A S R K N)
  | _ => none
 ok := fun args pre r h hp => by
  split at h
  · rename_i v0_0 v0_1 v0_2 v0_3 v0_4 v0_5
    obtain ⟨E, h0_0, h⟩ := Option.bind_eq_some_iff.1 h
    obtain ⟨A, h0_1, h⟩ := Option.bind_eq_some_iff.1 h
    obtain ⟨S, h0_2, h⟩ := Option.bind_eq_some_iff.1 h
    obtain ⟨R, h0_3, h⟩ := Option.bind_eq_some_iff.1 h
    obtain ⟨K, h0_4, h⟩ := Option.bind_eq_some_iff.1 h
    obtain ⟨N, h0_5, h⟩ := Option.bind_eq_some_iff.1 h
    exact of_q h hp fun h => (rcheck_pure E A S R K N h).weak (.cons (Weak.agg (.cons (asL_weak h0_0) (.cons (asL_weak h0_1) (.cons (asL_weak h0_2) (.cons (asL_weak h0_3) (.cons (asL_weak h0_4) (.cons (asL_weak h0_5) .nil))))))) .nil)
  · cases h
end Go.Proofs.YtgjpehgnagfghaaGreat.Bks
