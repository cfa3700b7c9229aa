/-
  Entries that may be.
-/
import Derived.Test.YtgjpehgnagfghaaGreatEnt7
namespace Go.Proofs.YtgjpehgnagfghaaGreat.Ent
open Go.Vm
def badF : List Ln → Int → Int → Int → Option (Int × Int)
  | [], _, _, _ => none
  | x :: r, n, k, i => if lineF x n k ≠ 0 then some (i, lineF x n k) else badF r n k (i + 1)
def unbal (L : List Ln) : Bool := (entsF L).any fun e => decide (wholeF L e ≠ 0)
def checkF (p : Int) (L : List Ln) (n k : Int) : Int × Int :=
  if p < 0 ∨ 23 < p then (-1, 22) else if (L.length : Int) < 2 ∨ 50 < (L.length : Int) then (-1, 30) else match badF L n k 0 with
    | some x => x
    | none => if unbal L then (-1, 32) else (L.length, 0)
noncomputable def env_refCheck (p r : Int) (L : List Ln) (n k : Int) : Env where
  P := Tryz.prog
  ty := tys
  specs := specsOf [sp_line, sp_refEnts, sp_whole]
  frz := fun | 62 => true | _ => false
  heads := fun
    | 6 => some { slots := [(8, .int .i64), (9, .any)], boxes := [], keep := [3], inv := fun _ (x : Int × Unit × Unit) => 0 ≤ x.1 ∧ x.1 ≤ L.length ∧ badF L n k 0 = badF (L.drop x.1.toNat) n k x.1, measure := fun _ (x : Int × Unit × Unit) => (L.length - x.1).toNat }
    | 13 => some { slots := [(11, .int .i64)], boxes := [], keep := [3], inv := fun _ (x : Int × Unit) => 0 ≤ x.1 ∧ x.1 ≤ (entsF L).length ∧ badF L n k 0 = none ∧ ∀ e ∈ (entsF L).take x.1.toNat, wholeF L e = 0, measure := fun _ (x : Int × Unit) => ((entsF L).length - x.1).toNat }
    | _ => none
abbrev bx_refCheck_1 (p : Int) (r : Int) (L : List Ln) : _root_.Go.Vm.Obj := Obj.box [V.int IntKind.i64 p, V.int IntKind.i64 r, V.list LK.tmp LTy L]
def g_refCheck_vc (p : Int) (r : Int) (L : List Ln) (n : Int) (k : Int) : Prop :=
  (decide (p < (0 : Int)) = false → (decide ((23 : Int) < p) = true → ((-1 : Int), (22 : Int), ()) = ((checkF p L n k).1, (checkF p L n k).2, ())) ∧ (decide ((23 : Int) < p) = false → (decide ((↑L.length : Int) < (2 : Int)) = false → (decide ((50 : Int) < (↑L.length : Int)) = true → ((-1 : Int), (30 : Int), ()) = ((checkF p L n k).1, (checkF p L n k).2, ())) ∧ (decide ((50 : Int) < (↑L.length : Int)) = false → ((some (bx_refCheck_1 p r L) = some (bx_refCheck_1 p r L) ∧ True) ∧ (0 : Int) ≤ (0 : Int) ∧ (0 : Int) ≤ (↑L.length : Int) ∧ badF L n k (0 : Int) = badF (List.drop (Int.toNat (0 : Int)) L) n k (0 : Int)) ∧ ∀ (x : Int × Unit × Unit), (0 : Int) ≤ x.1 ∧ x.1 ≤ (↑L.length : Int) ∧ badF L n k (0 : Int) = badF (List.drop x.1.toNat L) n k x.1 → (decide (x.1 < (↑L.length : Int)) = true → ((0 : Int) ≤ x.1 ∧ x.1 < (↑L.length : Int)) ∧ ∀ (x_1 : Int × Int × Int × Int), L[x.1.toNat]? = some x_1 → True ∧ ((!decide (lineF (x_1.1, x_1.2.1, x_1.2.2.1, x_1.2.2.2) n k = (0 : Int))) = true → (x.1, lineF (x_1.1, x_1.2.1, x_1.2.2.1, x_1.2.2.2) n k, ()) = ((checkF p L n k).1, (checkF p L n k).2, ())) ∧ ((!decide (lineF (x_1.1, x_1.2.1, x_1.2.2.1, x_1.2.2.2) n k = (0 : Int))) = false → ((-9223372036854775808 : Int) ≤ x.1 + (1 : Int) ∧ x.1 + (1 : Int) ≤ (9223372036854775807 : Int)) ∧ (some (bx_refCheck_1 p r L) = some (bx_refCheck_1 p r L) ∧ True) ∧ ((0 : Int) ≤ x.1 + (1 : Int) ∧ x.1 + (1 : Int) ≤ (↑L.length : Int) ∧ badF L n k (0 : Int) = badF (List.drop (x.1 + (1 : Int)).toNat L) n k (x.1 + (1 : Int))) ∧ ((↑L.length : Int) - (x.1 + (1 : Int))).toNat < ((↑L.length : Int) - x.1).toNat)) ∧ (decide (x.1 < (↑L.length : Int)) = false → L.length ≤ (1000000000 : Nat) ∧ ((some (bx_refCheck_1 p r L) = some (bx_refCheck_1 p r L) ∧ True) ∧ (0 : Int) ≤ (0 : Int) ∧ (0 : Int) ≤ (↑(entsF L).length : Int) ∧ badF L n k (0 : Int) = none ∧ ∀ (e : Int), e ∈ List.take (Int.toNat (0 : Int)) (entsF L) → wholeF L e = (0 : Int)) ∧ ∀ (x : Int × Unit), ((0 : Int) ≤ x.1 ∧ x.1 ≤ (↑(entsF L).length : Int) ∧ badF L n k (0 : Int) = none ∧ ∀ (e : Int), e ∈ List.take x.1.toNat (entsF L) → wholeF L e = (0 : Int)) → (decide (x.1 < (↑(entsF L).length : Int)) = true → ((0 : Int) ≤ x.1 ∧ x.1 < (↑(entsF L).length : Int)) ∧ ∀ (x_1 : Int), (entsF L)[x.1.toNat]? = some x_1 → (InL L ∧ L.length ≤ (1000 : Nat)) ∧ (decide ((0 : Int) < (↑(digs (wholeF L x_1).natAbs).length : Int)) = true → ((-1 : Int), (32 : Int), ()) = ((checkF p L n k).1, (checkF p L n k).2, ())) ∧ (decide ((0 : Int) < (↑(digs (wholeF L x_1).natAbs).length : Int)) = false → ((-9223372036854775808 : Int) ≤ x.1 + (1 : Int) ∧ x.1 + (1 : Int) ≤ (9223372036854775807 : Int)) ∧ (some (bx_refCheck_1 p r L) = some (bx_refCheck_1 p r L) ∧ True) ∧ ((0 : Int) ≤ x.1 + (1 : Int) ∧ x.1 + (1 : Int) ≤ (↑(entsF L).length : Int) ∧ badF L n k (0 : Int) = none ∧ ∀ (e : Int), e ∈ List.take (x.1 + (1 : Int)).toNat (entsF L) → wholeF L e = (0 : Int)) ∧ ((↑(entsF L).length : Int) - (x.1 + (1 : Int))).toNat < ((↑(entsF L).length : Int) - x.1).toNat)) ∧ (decide (x.1 < (↑(entsF L).length : Int)) = false → ((↑L.length : Int), (0 : Int), ()) = ((checkF p L n k).1, (checkF p L n k).2, ()))))) ∧ (decide ((↑L.length : Int) < (2 : Int)) = !false → ((-1 : Int), (30 : Int), ()) = ((checkF p L n k).1, (checkF p L n k).2, ())))) ∧ (decide (p < (0 : Int)) = !false → ((-1 : Int), (22 : Int), ()) = ((checkF p L n k).1, (checkF p L n k).2, ()))
theorem g_refCheck_eq (p r : Int) (L : List Ln) (n k : Int) : Cond (env_refCheck p r L n k) Tryz.f116 [.agg [.int .i64 p, .int .i64 r, .list .tmp LTy L], .int .i64 n, .int .i64 k] [.int .i64, .int .i64] ((checkF p L n k).1, (checkF p L n k).2, ()) = g_refCheck_vc p r L n k := by kernel_rfl
theorem drop_at {α : Type} {L : List α} {i : Nat} {x : α} (h : L[i]? = some x) : L.drop i = x :: L.drop (i + 1) := by
  obtain ⟨hi, e⟩ := List.getElem?_eq_some_iff.1 h
  rw [List.drop_eq_getElem_cons hi, e]
theorem badF_step {L : List Ln} {n k i : Int} {x : Ln} (h0 : 0 ≤ i) (h : L[i.toNat]? = some x) : badF (L.drop i.toNat) n k i = if lineF x n k ≠ 0 then some (i, lineF x n k) else badF (L.drop (i + 1).toNat) n k (i + 1) := by
  rw [drop_at h, toNat_next h0]
  rfl
theorem badF_end {L : List Ln} {n k i : Int} (h : ¬ i < L.length) : badF (L.drop i.toNat) n k i = none := by
  rw [List.drop_of_length_le (by omega)]
  rfl
theorem unbal_false {L : List Ln} (h : ∀ e ∈ entsF L, wholeF L e = 0) : unbal L = false := by
  simp only [unbal, List.any_eq_false, decide_eq_true_eq, Decidable.not_not]
  exact h
theorem unbal_true {L : List Ln} {e : Int} (h : e ∈ entsF L) (hz : wholeF L e ≠ 0) : unbal L = true := by
  simp only [unbal, List.any_eq_true, decide_eq_true_eq]
  exact ⟨e, h, hz⟩
theorem digs_gt {z : Int} : (0 : Int) < ((digs z.natAbs).length : Int) ↔ z ≠ 0 := by
  have h1 := @digs_nil z.natAbs
  have h2 := @List.length_eq_zero_iff _ (digs z.natAbs)
  have h3 : z.natAbs = 0 ↔ z = 0 := Int.natAbs_eq_zero
  rw [← h2, h3] at h1
  omega
theorem checkF_1 {p n k : Int} {L : List Ln} (h : p < 0 ∨ 23 < p) : checkF p L n k = (-1, 22) := by unfold checkF; rw [if_pos h]
theorem checkF_2 {p n k : Int} {L : List Ln} (h : ¬ (p < 0 ∨ 23 < p)) (g : (L.length : Int) < 2 ∨ 50 < (L.length : Int)) : checkF p L n k = (-1, 30) := by unfold checkF; rw [if_neg h, if_pos g]
theorem checkF_3 {p n k : Int} {L : List Ln} (h : ¬ (p < 0 ∨ 23 < p)) (g : ¬ ((L.length : Int) < 2 ∨ 50 < (L.length : Int))) {x : Int × Int} (e : badF L n k 0 = some x) : checkF p L n k = x := by unfold checkF; rw [if_neg h, if_neg g, e]
theorem checkF_4 {p n k : Int} {L : List Ln} (h : ¬ (p < 0 ∨ 23 < p)) (g : ¬ ((L.length : Int) < 2 ∨ 50 < (L.length : Int))) (e : badF L n k 0 = none) (u : unbal L = true) : checkF p L n k = (-1, 32) := by unfold checkF; rw [if_neg h, if_neg g, e]; simp only [u, if_true]
theorem checkF_5 {p n k : Int} {L : List Ln} (h : ¬ (p < 0 ∨ 23 < p)) (g : ¬ ((L.length : Int) < 2 ∨ 50 < (L.length : Int))) (e : badF L n k 0 = none) (u : unbal L = false) : checkF p L n k = ((L.length : Int), 0) := by unfold checkF; rw [if_neg h, if_neg g, e]; simp [u]
theorem mem_take_snoc {α : Type} {l : List α} {i : Int} {x e : α} (h0 : 0 ≤ i) (h : l[i.toNat]? = some x) (he : e ∈ l.take (i + 1).toNat) : e ∈ l.take i.toNat ∨ e = x := by
  rw [toNat_next h0, List.take_add_one, h] at he
  simpa using he
theorem g_refCheck_ok (p r : Int) (L : List Ln) (n k : Int) (h : InL L ∧ L.length ≤ 1000) : g_refCheck_vc p r L n k := by
  unfold g_refCheck_vc
  have hel := entsF_len L
  obtain ⟨hI, hl⟩ := h
  simp only [decide_eq_true_eq, decide_eq_false_iff_not, Bool.not_false, Bool.not_eq_true', Bool.not_eq_false']
  refine ⟨fun c1 => ⟨fun c2 => ?_, fun c2 => ⟨fun c3 => ⟨fun c4 => ?_, fun c4 => ⟨⟨⟨trivial, trivial⟩, by omega, by omega, by simp⟩, fun x hx => ⟨fun c5 => ⟨⟨hx.1, c5⟩, fun y hy => ⟨trivial, fun c6 => ?_, fun c6 => ⟨by omega, ⟨trivial, trivial⟩, ⟨by omega, by omega, ?_⟩, by omega⟩⟩⟩, fun c5 => ⟨by omega, ⟨⟨trivial, trivial⟩, by omega, by omega, ?_, by simp⟩, fun z hz => ⟨fun c6 => ⟨⟨hz.1, c6⟩, fun e he => ⟨⟨hI, hl⟩, fun c7 => ?_, fun c7 => ⟨by omega, ⟨trivial, trivial⟩, ⟨by omega, by omega, hz.2.2.1, ?_⟩, by omega⟩⟩⟩, fun c6 => ?_⟩⟩⟩⟩⟩, fun c3 => ?_⟩⟩, fun c1 => ?_⟩
  · rw [checkF_1 (by omega)]
  · rw [checkF_2 (by omega) (by omega)]
  · rw [checkF_3 (by omega) (by omega) (hx.2.2.trans ((badF_step hx.1 hy).trans (if_pos c6)))]
  · exact hx.2.2.trans ((badF_step hx.1 hy).trans (if_neg (fun c => c c6)))
  · exact hx.2.2.trans (badF_end c5)
  · rw [checkF_4 (by omega) (by omega) hz.2.2.1 (unbal_true (List.mem_of_getElem? he) (digs_gt.1 c7))]
  · intro e' he'
    rcases mem_take_snoc hz.1 he he' with g | g
    · exact hz.2.2.2 _ g
    · subst g
      exact Decidable.not_not.1 (fun c => c7 (digs_gt.2 c))
  · rw [checkF_5 (by omega) (by omega) hz.2.2.1 (unbal_false (fun e he => hz.2.2.2 e (by rw [List.take_of_length_le (by omega)]; exact he)))]
  · rw [checkF_2 (by omega) (by omega)]
  · rw [checkF_1 (by omega)]
set_option maxRecDepth 20000
theorem refCheck_pure (p r : Int) (L : List Ln) (n k : Int) (h : InL L ∧ L.length ≤ 1000) : Pure Tryz.prog 116 [.agg [.int .i64 p, .int .i64 r, .list .tmp LTy L], .int .i64 n, .int .i64 k] (.tuple [.int .i64 (checkF p L n k).1, .int .i64 (checkF p L n k).2]) :=
  by have k := Pure.of_cond (g_refCheck_eq p r L n k) (g_refCheck_ok p r L n k h) (specs_ok rfl [sp_line, sp_refEnts, sp_whole] [] rfl rfl) mixed Tryz.func116; exact k
noncomputable def q_refCheck (p r : Int) (L : List Ln) (n k : Int) : Prop × V := (InL L ∧ L.length ≤ 1000, (.tuple [.int .i64 (checkF p L n k).1, .int .i64 (checkF p L n k).2]))
noncomputable def sp_refCheck : FSpec Tryz.prog where
 f := 116
 run := fun
  | [.agg [.int .i64 p, .int .i64 r, v0_2], .int .i64 n, .int .i64 k] => (asL LTy v0_2 : Option (List Ln)).bind fun L => some (q_refCheck p r L n k)
  | _ => none
 ok := fun args pre r h hp => by
  split at h
  · rename_i p r v0_2 n k
    obtain ⟨L, h0_2, h⟩ := Option.bind_eq_some_iff.1 h
    exact of_q h hp fun h => (refCheck_pure p r L n k h).weak (.cons (Weak.agg (.cons (.refl _) (.cons (.refl _) (.cons (asL_weak h0_2) .nil)))) (.cons (.refl _) (.cons (.refl _) .nil)))
  · cases h
end Go.Proofs.YtgjpehgnagfghaaGreat.Ent
