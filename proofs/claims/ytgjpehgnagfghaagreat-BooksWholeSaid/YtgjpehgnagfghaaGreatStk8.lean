/-
  stake.Check, stake.Add; ref18.Check, Add.
-/
import Derived.Test.YtgjpehgnagfghaaGreatStk7
namespace Go.Proofs.YtgjpehgnagfghaaGreat.Stk
open Go.Vm
def badAt (l : List Stk) (n : Int) (i : Nat) : Bool := lastF (l.take (i + 1)) n != 0
def checkF (l : List Stk) (n : Int) : Int × Int :=
  if 400 < l.length then (0, 3) else match (List.range l.length).find? (badAt l n) with
    | some i => ((i : Int), lastF (l.take (i + 1)) n)
    | none => ((l.length : Int), 0)
def InvC (l : List Stk) (n : Int) (k : Int) : Prop := 0 ≤ k ∧ k ≤ l.length ∧ l.length ≤ 400 ∧ ∀ j : Nat, j < k.toNat → lastF (l.take (j + 1)) n = 0
theorem invC_b {l : List Stk} {n k : Int} (h : InvC l n k) : 0 ≤ k ∧ k ≤ l.length := ⟨h.1, h.2.1⟩
theorem invC_0 {l : List Stk} {n : Int} (h : l.length ≤ 400) : InvC l n 0 := ⟨by omega, by omega, h, fun j hj => by simp at hj⟩
theorem invC_s {l : List Stk} {n k : Int} (h : InvC l n k) (hk : k < l.length) (hr : lastF (l.take (k + 1).toNat) n = 0) : InvC l n (k + 1) := by
  obtain ⟨h1, h2, h4, h3⟩ := h
  refine ⟨by omega, by omega, h4, fun j hj => ?_⟩
  by_cases e : j < k.toNat
  · exact h3 j e
  · have : j + 1 = (k + 1).toNat := by omega
    rw [this]; exact hr
theorem checkF_bad {l : List Stk} {n k : Int} (h : InvC l n k) (hk : k < l.length) (hr : ¬ lastF (l.take (k + 1).toNat) n = 0) : checkF l n = (k, lastF (l.take (k + 1).toNat) n) := by
  obtain ⟨h1, h2, h4, h3⟩ := h
  have e : k.toNat + 1 = (k + 1).toNat := by omega
  have : (List.range l.length).find? (badAt l n) = some k.toNat := by
    rw [List.find?_range_eq_some]
    refine ⟨by simp only [badAt, bne_iff_ne, ne_eq]; rw [e]; exact hr, List.mem_range.2 (by omega), fun j hj => by simp [badAt, h3 j hj]⟩
  unfold checkF
  rw [if_neg (by omega), this]
  simp only [e]
  congr 1
  omega
theorem checkF_good {l : List Stk} {n k : Int} (h : InvC l n k) (hk : ¬ k < l.length) : checkF l n = ((l.length : Int), 0) := by
  obtain ⟨h1, h2, h4, h3⟩ := h
  have : (List.range l.length).find? (badAt l n) = none := by
    rw [List.find?_eq_none]
    intro j hj
    have := List.mem_range.1 hj
    simp [badAt, h3 j (by omega)]
  unfold checkF
  rw [if_neg (by omega), this]
noncomputable def env_check (l : List Stk) (n : Int) : Env where
  P := Tryz.prog
  ty := tys
  specs := specsOf [sp_last]
  heads := fun
    | 4 => some { slots := [(13, .int .i64)], boxes := [], inv := fun _ (x : Int × Unit) => InvC l n x.1, measure := fun _ (x : Int × Unit) => (l.length - x.1).toNat }
    | _ => none
def g_check_vc (l : List Stk) (n : Int) : Prop :=
  (decide ((400 : Int) < (↑l.length : Int)) = true → ((0 : Int), (3 : Int), ()) = ((checkF l n).1, (checkF l n).2, ())) ∧ (decide ((400 : Int) < (↑l.length : Int)) = false → (True ∧ InvC l n (0 : Int)) ∧ ∀ (x : Int × Unit), InvC l n x.1 → (decide (x.1 < (↑l.length : Int)) = true → ((-9223372036854775808 : Int) ≤ x.1 + (1 : Int) ∧ x.1 + (1 : Int) ≤ (9223372036854775807 : Int)) ∧ ((0 : Int) ≤ x.1 + (1 : Int) ∧ x.1 + (1 : Int) ≤ (↑l.length : Int)) ∧ ((0 : Nat) < (List.take (x.1 + (1 : Int)).toNat l).length ∧ (List.take (x.1 + (1 : Int)).toNat l).length ≤ (1000000000 : Nat)) ∧ ((!decide (lastF (List.take (x.1 + (1 : Int)).toNat l) n = (0 : Int))) = true → (x.1, lastF (List.take (x.1 + (1 : Int)).toNat l) n, ()) = ((checkF l n).1, (checkF l n).2, ())) ∧ ((!decide (lastF (List.take (x.1 + (1 : Int)).toNat l) n = (0 : Int))) = false → ((-9223372036854775808 : Int) ≤ x.1 + (1 : Int) ∧ x.1 + (1 : Int) ≤ (9223372036854775807 : Int)) ∧ True ∧ InvC l n (x.1 + (1 : Int)) ∧ ((↑l.length : Int) - (x.1 + (1 : Int))).toNat < ((↑l.length : Int) - x.1).toNat)) ∧ (decide (x.1 < (↑l.length : Int)) = false → ((↑l.length : Int), (0 : Int), ()) = ((checkF l n).1, (checkF l n).2, ())))
theorem g_check_eq (l : List Stk) (n : Int) : Cond (env_check l n) Tryz.f29 [.list .tmp STy l, .int .i64 n] [.int .i64, .int .i64] ((checkF l n).1, (checkF l n).2, ()) = g_check_vc l n := by kernel_rfl
noncomputable def env_refCheck (l : List Stk) (n : Int) : Env where
  P := Tryz.prog
  ty := tys
  specs := specsOf [sp_refLast]
  heads := fun
    | 4 => some { slots := [(6, .int .i64)], boxes := [], inv := fun _ (x : Int × Unit) => InvC l n x.1, measure := fun _ (x : Int × Unit) => (l.length - x.1).toNat }
    | _ => none
def g_refCheck_vc (l : List Stk) (n : Int) : Prop :=
  (decide ((400 : Int) < (↑l.length : Int)) = true → ((0 : Int), (3 : Int), ()) = ((checkF l n).1, (checkF l n).2, ())) ∧ (decide ((400 : Int) < (↑l.length : Int)) = false → (True ∧ InvC l n (0 : Int)) ∧ ∀ (x : Int × Unit), InvC l n x.1 → (decide (x.1 < (↑l.length : Int)) = true → ((-9223372036854775808 : Int) ≤ x.1 + (1 : Int) ∧ x.1 + (1 : Int) ≤ (9223372036854775807 : Int)) ∧ ((0 : Int) ≤ x.1 + (1 : Int) ∧ x.1 + (1 : Int) ≤ (↑l.length : Int)) ∧ ((0 : Nat) < (List.take (x.1 + (1 : Int)).toNat l).length ∧ (List.take (x.1 + (1 : Int)).toNat l).length ≤ (1000000000 : Nat)) ∧ ((!decide (lastF (List.take (x.1 + (1 : Int)).toNat l) n = (0 : Int))) = true → (x.1, lastF (List.take (x.1 + (1 : Int)).toNat l) n, ()) = ((checkF l n).1, (checkF l n).2, ())) ∧ ((!decide (lastF (List.take (x.1 + (1 : Int)).toNat l) n = (0 : Int))) = false → ((-9223372036854775808 : Int) ≤ x.1 + (1 : Int) ∧ x.1 + (1 : Int) ≤ (9223372036854775807 : Int)) ∧ True ∧ InvC l n (x.1 + (1 : Int)) ∧ ((↑l.length : Int) - (x.1 + (1 : Int))).toNat < ((↑l.length : Int) - x.1).toNat)) ∧ (decide (x.1 < (↑l.length : Int)) = false → ((↑l.length : Int), (0 : Int), ()) = ((checkF l n).1, (checkF l n).2, ())))
theorem g_refCheck_eq (l : List Stk) (n : Int) : Cond (env_refCheck l n) Tryz.f38 [.list .tmp STy l, .int .i64 n] [.int .i64, .int .i64] ((checkF l n).1, (checkF l n).2, ()) = g_refCheck_vc l n := by kernel_rfl
theorem g_check_ok (l : List Stk) (n : Int) (h : l.length ≤ 1000000000) : g_check_vc l n := by
  unfold g_check_vc
  simp only [decide_eq_true_eq, decide_eq_false_iff_not, Bool.not_eq_true', Bool.not_eq_false', true_and, List.length_take]
  refine ⟨fun hc => ?_, fun hc => ⟨invC_0 (by omega), ?_⟩⟩
  · rw [checkF, if_pos (by omega)]
  rintro ⟨k, _⟩ hI
  have hb := invC_b hI
  simp only at hI hb ⊢
  refine ⟨fun hk => ⟨by omega, by omega, by omega, fun hr => ?_, fun hr => ⟨by omega, invC_s hI hk hr, by omega⟩⟩, fun hk => ?_⟩
  · rw [checkF_bad hI hk hr]
  · rw [checkF_good hI hk]
set_option maxRecDepth 20000
theorem check_pure (l : List Stk) (n : Int) (h : l.length ≤ 1000000000) : Pure Tryz.prog 29 [.list .tmp STy l, .int .i64 n] (.tuple [.int .i64 (checkF l n).1, .int .i64 (checkF l n).2]) :=
  by have k := Pure.of_cond (g_check_eq l n) (g_check_ok l n h) (specs_ok rfl [sp_last] [] rfl rfl) mixed Tryz.func29; exact k
noncomputable def q_check (l : List Stk) (n : Int) : Prop × V := (l.length ≤ 1000000000, (.tuple [.int .i64 (checkF l n).1, .int .i64 (checkF l n).2]))
noncomputable def sp_check : FSpec Tryz.prog where
 f := 29
 run := fun
  | [v0, .int .i64 n] => (asL STy v0 : Option (List Stk)).bind fun l => some (q_check l n)
  | _ => none
 ok := fun args pre r h hp => by
  split at h
  · rename_i v0 n
    obtain ⟨l, h0, h⟩ := Option.bind_eq_some_iff.1 h
    exact of_q h hp fun h => (check_pure l n h).weak (.cons (asL_weak h0) (.cons (.refl _) .nil))
  · cases h
theorem g_refCheck_ok (l : List Stk) (n : Int) (h : l.length ≤ 1000000000) : g_refCheck_vc l n := by
  unfold g_refCheck_vc
  simp only [decide_eq_true_eq, decide_eq_false_iff_not, Bool.not_eq_true', Bool.not_eq_false', true_and, List.length_take]
  refine ⟨fun hc => ?_, fun hc => ⟨invC_0 (by omega), ?_⟩⟩
  · rw [checkF, if_pos (by omega)]
  rintro ⟨k, _⟩ hI
  have hb := invC_b hI
  simp only at hI hb ⊢
  refine ⟨fun hk => ⟨by omega, by omega, by omega, fun hr => ?_, fun hr => ⟨by omega, invC_s hI hk hr, by omega⟩⟩, fun hk => ?_⟩
  · rw [checkF_bad hI hk hr]
  · rw [checkF_good hI hk]
theorem refCheck_pure (l : List Stk) (n : Int) (h : l.length ≤ 1000000000) : Pure Tryz.prog 38 [.list .tmp STy l, .int .i64 n] (.tuple [.int .i64 (checkF l n).1, .int .i64 (checkF l n).2]) :=
  by have k := Pure.of_cond (g_refCheck_eq l n) (g_refCheck_ok l n h) (specs_ok rfl [sp_refLast] [] rfl rfl) mixed Tryz.func38; exact k
noncomputable def q_refCheck (l : List Stk) (n : Int) : Prop × V := (l.length ≤ 1000000000, (.tuple [.int .i64 (checkF l n).1, .int .i64 (checkF l n).2]))
noncomputable def sp_refCheck : FSpec Tryz.prog where
 f := 38
 run := fun
  | [v0, .int .i64 n] => (asL STy v0 : Option (List Stk)).bind fun l => some (q_refCheck l n)
  | _ => none
 ok := fun args pre r h hp => by
  split at h
  · rename_i v0 n
    obtain ⟨l, h0, h⟩ := Option.bind_eq_some_iff.1 h
    exact of_q h hp fun h => (refCheck_pure l n h).weak (.cons (asL_weak h0) (.cons (.refl _) .nil))
  · cases h
end Go.Proofs.YtgjpehgnagfghaaGreat.Stk
