/-
  Some answers that the document fixes.
-/
import Derived.Test.YtgjpehgnagfghaaGreatUse1
namespace Go.Proofs.YtgjpehgnagfghaaGreat.Bks
open Go.Vm
noncomputable def env_awake : Env where
  P := Tryz.prog
  ty := tys0
  specs := specsOf [sp_new, sp_check, sp_some, sp_used, sp_same, sp_copy, sp_rsame]
  frz := fun | 87 => true | 88 => true | 91 => true | 92 => true | 96 => true | 97 => true | 98 => true | 101 => true | 103 => true | 108 => true | 110 => true | _ => false
def g_awake_vc : Prop :=
  True ∧ Sm [] Acc.ownL [] [] [] [] ∧ True ∧ Sm smE smA [] [] [] smN ∧ True ∧ ((0 : Int) ≤ (1 : Int) ∧ (1 : Int) < (↑smN.length : Int)) ∧ ∀ (x : Int × Int × List (Int × Int × Int × Int)), smN[Int.toNat (1 : Int)]? = some x → ((smN.length + (1 : Nat)) * (40 : Nat) ≤ (140737488355328 : Nat) ∧ smN.length + (1 : Nat) ≤ (4611686018427387904 : Nat) ∧ ((0 : Nat) < (1 : Nat) ∨ smN.length = (0 : Nat))) ∧ Sm smE smA [] [] [] (smN ++ [(x.1, x.2.1, x.2.2)]) ∧ Sm [] [] [] [] [] [] ∧ (decide ((checkF [] Acc.ownL [] [] [] []).1 = (0 : Int)) = true → (decide ((checkF [] Acc.ownL [] [] [] []).2.1 = (0 : Int)) = true → (decide ((checkF [] Acc.ownL [] [] [] []).2.2 = (0 : Int)) = true → (decide ((checkF smE smA [] [] [] smN).1 = (0 : Int)) = true → (decide ((checkF smE smA [] [] [] smN).2.2 = (0 : Int)) = true → (decide ((checkF smE smA [] [] [] (smN ++ [(x.1, x.2.1, x.2.2)])).1 = (6 : Int)) = true → (decide ((checkF smE smA [] [] [] (smN ++ [(x.1, x.2.1, x.2.2)])).2.1 = (2 : Int)) = true → (decide ((checkF smE smA [] [] [] (smN ++ [(x.1, x.2.1, x.2.2)])).2.2 = (35 : Int)) = true → (decide ((checkF [] [] [] [] [] []).1 = (2 : Int)) = true → (decide ((checkF [] [] [] [] [] []).2.2 = (28 : Int)) = true → True ∧ Sm smE smA [] [] [] smN ∧ (usedF smN (4 : Int) = true → True ∧ Sm smE smA [] [] [] smN ∧ ((!usedF smN (3 : Int)) = true → True ∧ True ∧ Sm smE smA [] [] [] smN ∧ (sameB smE smA [] [] [] smN smE smA [] [] [] smN = true → True ∧ Sm smE smA [] [] [] smN ∧ ((!sameB smE smA [] [] [] smN smE smA [] [] [] (smN ++ [(x.1, x.2.1, x.2.2)])) = true → Sm smE smA [] [] [] (smN ++ [(x.1, x.2.1, x.2.2)]) ∧ (Sm smE smA [] [] [] (smN ++ [(x.1, x.2.1, x.2.2)]) ∧ Sm smE smA [] [] [] (smN ++ [(x.1, x.2.1, x.2.2)])) ∧ (sameB smE smA [] [] [] (smN ++ [(x.1, x.2.1, x.2.2)]) smE smA [] [] [] (smN ++ [(x.1, x.2.1, x.2.2)]), ()) = (true, ())) ∧ ((!sameB smE smA [] [] [] smN smE smA [] [] [] (smN ++ [(x.1, x.2.1, x.2.2)])) = !true → (false, ()) = (true, ()))) ∧ (sameB smE smA [] [] [] smN smE smA [] [] [] smN = !true → (false, ()) = (true, ()))) ∧ ((!usedF smN (3 : Int)) = !true → (false, ()) = (true, ()))) ∧ (usedF smN (4 : Int) = !true → (false, ()) = (true, ()))) ∧ (decide ((checkF [] [] [] [] [] []).2.2 = (28 : Int)) = !true → (false, ()) = (true, ()))) ∧ (decide ((checkF [] [] [] [] [] []).1 = (2 : Int)) = !true → (false, ()) = (true, ()))) ∧ (decide ((checkF smE smA [] [] [] (smN ++ [(x.1, x.2.1, x.2.2)])).2.2 = (35 : Int)) = !true → (false, ()) = (true, ()))) ∧ (decide ((checkF smE smA [] [] [] (smN ++ [(x.1, x.2.1, x.2.2)])).2.1 = (2 : Int)) = !true → (false, ()) = (true, ()))) ∧ (decide ((checkF smE smA [] [] [] (smN ++ [(x.1, x.2.1, x.2.2)])).1 = (6 : Int)) = !true → (false, ()) = (true, ()))) ∧ (decide ((checkF smE smA [] [] [] smN).2.2 = (0 : Int)) = !true → (false, ()) = (true, ()))) ∧ (decide ((checkF smE smA [] [] [] smN).1 = (0 : Int)) = !true → (false, ()) = (true, ()))) ∧ (decide ((checkF [] Acc.ownL [] [] [] []).2.2 = (0 : Int)) = !true → (false, ()) = (true, ()))) ∧ (decide ((checkF [] Acc.ownL [] [] [] []).2.1 = (0 : Int)) = !true → (false, ()) = (true, ()))) ∧ (decide ((checkF [] Acc.ownL [] [] [] []).1 = (0 : Int)) = !true → (false, ()) = (true, ()))
theorem g_awake_eq  : Cond (env_awake ) Tryz.f8 [] [.bool] (true, ()) = g_awake_vc  := by kernel_rfl
theorem sm_of {E : List Int} {A : List Acc.AcD} {N : List En} (h1 : E.length ≤ 2) (h2 : A.length ≤ 5) (h3 : N.length ≤ 3) (hi : InE N) : Sm E A [] [] [] N := ⟨by omega, by omega, by simp, by simp, by simp, by omega, hi⟩
theorem ine_some : InE (smN ++ [(0, 1, [(1, 4, 0, -5), (1, 5, 0, 5)])]) := fun x hx => by
  simp only [smN, List.cons_append, List.nil_append, List.mem_cons, List.not_mem_nil, or_false] at hx
  rcases hx with rfl | rfl | rfl <;> refine ⟨fun y hy => ?_, by decide⟩ <;> simp only [List.mem_cons, List.not_mem_nil, or_false] at hy <;> rcases hy with rfl | rfl <;> unfold InI <;> decide
theorem sm0 : Sm [] Acc.ownL [] [] [] [] := sm_of (by decide) (by decide) (by decide) (fun x hx => by cases hx)
theorem sm1 : Sm smE smA [] [] [] smN := sm_of (by decide) (by decide) (by decide) (fun x hx => ine_some x (List.mem_append_left _ hx))
theorem sm2 : Sm smE smA [] [] [] (smN ++ [(0, 1, [(1, 4, 0, -5), (1, 5, 0, 5)])]) := sm_of (by decide) (by decide) (by decide) ine_some
theorem sm3 : Sm [] [] [] [] [] [] := sm_of (by decide) (by decide) (by decide) (fun x hx => by cases hx)
theorem c0 : checkF [] Acc.ownL [] [] [] [] = (0, 0, 0) := by decide +kernel
theorem c1 : checkF smE smA [] [] [] smN = (0, 0, 0) := by decide +kernel
theorem c2 : checkF smE smA [] [] [] (smN ++ [(0, 1, [(1, 4, 0, -5), (1, 5, 0, 5)])]) = (6, 2, 35) := by decide +kernel
theorem c3 : checkF [] [] [] [] [] [] = (2, 0, 28) := by decide +kernel
theorem u4 : usedF smN 4 = true := by decide +kernel
theorem u3 : usedF smN 3 = false := by decide +kernel
theorem s1 : sameB smE smA [] [] [] smN smE smA [] [] [] smN = true := by decide +kernel
theorem s2 : sameB smE smA [] [] [] smN smE smA [] [] [] (smN ++ [(0, 1, [(1, 4, 0, -5), (1, 5, 0, 5)])]) = false := by decide +kernel
theorem s3 : sameB smE smA [] [] [] (smN ++ [(0, 1, [(1, 4, 0, -5), (1, 5, 0, 5)])]) smE smA [] [] [] (smN ++ [(0, 1, [(1, 4, 0, -5), (1, 5, 0, 5)])]) = true := by decide +kernel
theorem g_awake_ok : g_awake_vc := by
  unfold g_awake_vc
  refine ⟨trivial, sm0, trivial, sm1, trivial, ⟨by decide, by decide⟩, fun x hx => ?_⟩
  have hx : some ((0 : Int), (1 : Int), [((1 : Int), (4 : Int), (0 : Int), (-5 : Int)), ((1 : Int), (5 : Int), (0 : Int), (5 : Int))]) = some x := hx
  cases hx
  dsimp only
  simp only [c0, c1, c2, c3, u4, u3, s1, s2, s3, decide_true, Bool.not_false, Bool.not_true]
  refine ⟨⟨by decide, by decide, .inl (by decide)⟩, sm2, sm3, ?_⟩
  simp [sm1]
  exact sm2
set_option maxRecDepth 20000
theorem awake_pure  : Pure Tryz.prog 8 [] (.bool true) :=
  by have k := Pure.of_cond (g_awake_eq ) (g_awake_ok ) (specs_ok rfl [sp_new, sp_check, sp_some, sp_used, sp_same, sp_copy, sp_rsame] [] rfl rfl) mixed Tryz.func8; exact k
noncomputable def q_awake  : Prop × V := (True, (.bool true))
noncomputable def sp_awake : FSpec Tryz.prog where
 f := 8
 run := fun
  | [] => some (q_awake )
  | _ => none
 ok := fun args pre r h hp => by
  split at h
  · skip
    exact of_q h hp fun h => (awake_pure ).weak .nil
  · cases h
end Go.Proofs.YtgjpehgnagfghaaGreat.Bks
