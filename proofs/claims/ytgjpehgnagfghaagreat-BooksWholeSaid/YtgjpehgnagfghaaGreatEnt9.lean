/-
  Entries that may be, as the program has it.
-/
import Derived.Test.YtgjpehgnagfghaaGreatEnt8
namespace Go.Proofs.YtgjpehgnagfghaaGreat.Ent
open Go.Vm
def brk (x : Ln) (n k : Int) : Int → Bool
  | 0 => decide (x.1 < 1 ∨ n < x.1)
  | 1 => decide (x.2.1 < 1 ∨ k < x.2.1)
  | 2 => decide (x.2.2.1 < 0 ∨ n < x.2.2.1 ∨ x.2.2.1 = x.1)
  | 3 => decide (x.2.2.2 = 0)
  | _ => false
noncomputable def env_check (p r : Int) (L : List Ln) (n k : Int) : Env where
  P := Tryz.prog
  ty := tys
  specs := specsOf [sp_r1, sp_r2, sp_r3, sp_r4, sp_ents, sp_total]
  zspecs := zsOf [sp_rules]
  frz := fun | 39 => true | 64 => true | _ => false
  heads := fun
    | 7 => some { slots := [(43, .int .i64), (9, .any), (10, .any), (12, .any)], boxes := [], keep := [3], inv := fun _ (x : Int × Unit × Unit × Unit × Unit) => 0 ≤ x.1 ∧ x.1 ≤ L.length ∧ badF L n k 0 = badF (L.drop x.1.toNat) n k x.1, measure := fun _ (x : Int × Unit × Unit × Unit × Unit) => (L.length - x.1).toNat }
    | 10 => some { slots := [(50, .int .i64), (12, .any)], boxes := [(10, [.int .i64, .int .i64, .int .i64, .int .i64])], keep := [3], inv := fun st (x : Int × Unit × Int × Int × Int × Int × Unit) => 0 ≤ x.1 ∧ x.1 ≤ 4 ∧ L[(st.int 9).toNat]? = some (x.2.2.1, x.2.2.2.1, x.2.2.2.2.1, x.2.2.2.2.2.1) ∧ ∀ j : Int, 0 ≤ j → j < x.1 → brk (x.2.2.1, x.2.2.2.1, x.2.2.2.2.1, x.2.2.2.2.2.1) n k j = false, measure := fun _ (x : Int × Unit × Int × Int × Int × Int × Unit) => (4 - x.1).toNat }
    | 17 => some { slots := [(66, .int .i64), (14, .any), (15, .any), (16, .any)], boxes := [], keep := [3], inv := fun _ (x : Int × Unit × Unit × Unit × Unit) => 0 ≤ x.1 ∧ x.1 ≤ (entsF L).length ∧ badF L n k 0 = none ∧ ∀ e ∈ (entsF L).take x.1.toNat, wholeF L e = 0, measure := fun _ (x : Int × Unit × Unit × Unit × Unit) => ((entsF L).length - x.1).toNat }
    | _ => none
abbrev bx_check_1 (p : Int) (r : Int) (L : List Ln) : _root_.Go.Vm.Obj := Obj.box [V.int IntKind.i64 p, V.int IntKind.i64 r, V.list LK.tmp LTy L]
def g_check_vc (p : Int) (r : Int) (L : List Ln) (n : Int) (k : Int) : Prop :=
  (decide (p < (0 : Int)) = false → (decide ((24 : Int) ≤ p) = true → ((-1 : Int), (22 : Int), ()) = ((checkF p L n k).1, (checkF p L n k).2, ())) ∧ (decide ((24 : Int) ≤ p) = false → (decide ((↑L.length : Int) < (2 : Int)) = false → (decide ((50 : Int) < (↑L.length : Int)) = true → ((-1 : Int), (30 : Int), ()) = ((checkF p L n k).1, (checkF p L n k).2, ())) ∧ (decide ((50 : Int) < (↑L.length : Int)) = false → True ∧ ((some (bx_check_1 p r L) = some (bx_check_1 p r L) ∧ True) ∧ (0 : Int) ≤ (0 : Int) ∧ (0 : Int) ≤ (↑L.length : Int) ∧ badF L n k (0 : Int) = badF (List.drop (Int.toNat (0 : Int)) L) n k (0 : Int)) ∧ ∀ (x : Int × Unit × Unit × Unit × Unit), (0 : Int) ≤ x.1 ∧ x.1 ≤ (↑L.length : Int) ∧ badF L n k (0 : Int) = badF (List.drop x.1.toNat L) n k x.1 → (decide (x.1 < (↑L.length : Int)) = true → ((0 : Int) ≤ x.1 ∧ x.1 < (↑L.length : Int)) ∧ ∀ (x_1 : Int × Int × Int × Int), L[x.1.toNat]? = some x_1 → ((some (bx_check_1 p r L) = some (bx_check_1 p r L) ∧ True) ∧ (0 : Int) ≤ (0 : Int) ∧ (0 : Int) ≤ (4 : Int) ∧ L[x.1.toNat]? = some (x_1.1, x_1.2.1, x_1.2.2.1, x_1.2.2.2) ∧ ∀ (j : Int), (0 : Int) ≤ j → j < (0 : Int) → brk (x_1.1, x_1.2.1, x_1.2.2.1, x_1.2.2.2) n k j = false) ∧ ∀ (x_2 : Int × Unit × Int × Int × Int × Int × Unit), ((0 : Int) ≤ x_2.1 ∧ x_2.1 ≤ (4 : Int) ∧ L[x.1.toNat]? = some (x_2.2.2.1, x_2.2.2.2.1, x_2.2.2.2.2.1, x_2.2.2.2.2.2.1) ∧ ∀ (j : Int), (0 : Int) ≤ j → j < x_2.1 → brk (x_2.2.2.1, x_2.2.2.2.1, x_2.2.2.2.2.1, x_2.2.2.2.2.2.1) n k j = false) → (decide (x_2.1 < (↑(8 / 2 : Nat) : Int)) = true → ((0 : Int) ≤ x_2.1 ∧ x_2.1 < (↑(8 / 2 : Nat) : Int)) ∧ (x_2.1 = (↑(0 : Nat) : Int) → True ∧ (decide (x_2.2.2.1 < (1 : Int) ∨ n < x_2.2.2.1) = true → (x.1, (20 : Int), ()) = ((checkF p L n k).1, (checkF p L n k).2, ())) ∧ (decide (x_2.2.2.1 < (1 : Int) ∨ n < x_2.2.2.1) = false → ((-9223372036854775808 : Int) ≤ x_2.1 + (1 : Int) ∧ x_2.1 + (1 : Int) ≤ (9223372036854775807 : Int)) ∧ (some (bx_check_1 p r L) = some (bx_check_1 p r L) ∧ True) ∧ ((0 : Int) ≤ x_2.1 + (1 : Int) ∧ x_2.1 + (1 : Int) ≤ (4 : Int) ∧ L[x.1.toNat]? = some (x_2.2.2.1, x_2.2.2.2.1, x_2.2.2.2.2.1, x_2.2.2.2.2.2.1) ∧ ∀ (j : Int), (0 : Int) ≤ j → j < x_2.1 + (1 : Int) → brk (x_2.2.2.1, x_2.2.2.2.1, x_2.2.2.2.2.1, x_2.2.2.2.2.2.1) n k j = false) ∧ ((4 : Int) - (x_2.1 + (1 : Int))).toNat < ((4 : Int) - x_2.1).toNat)) ∧ (x_2.1 = (↑(1 : Nat) : Int) → True ∧ (decide (x_2.2.2.2.1 < (1 : Int) ∨ k < x_2.2.2.2.1) = true → (x.1, (21 : Int), ()) = ((checkF p L n k).1, (checkF p L n k).2, ())) ∧ (decide (x_2.2.2.2.1 < (1 : Int) ∨ k < x_2.2.2.2.1) = false → ((-9223372036854775808 : Int) ≤ x_2.1 + (1 : Int) ∧ x_2.1 + (1 : Int) ≤ (9223372036854775807 : Int)) ∧ (some (bx_check_1 p r L) = some (bx_check_1 p r L) ∧ True) ∧ ((0 : Int) ≤ x_2.1 + (1 : Int) ∧ x_2.1 + (1 : Int) ≤ (4 : Int) ∧ L[x.1.toNat]? = some (x_2.2.2.1, x_2.2.2.2.1, x_2.2.2.2.2.1, x_2.2.2.2.2.2.1) ∧ ∀ (j : Int), (0 : Int) ≤ j → j < x_2.1 + (1 : Int) → brk (x_2.2.2.1, x_2.2.2.2.1, x_2.2.2.2.2.1, x_2.2.2.2.2.2.1) n k j = false) ∧ ((4 : Int) - (x_2.1 + (1 : Int))).toNat < ((4 : Int) - x_2.1).toNat)) ∧ (x_2.1 = (↑(2 : Nat) : Int) → True ∧ (decide (x_2.2.2.2.2.1 < (0 : Int) ∨ n < x_2.2.2.2.2.1 ∨ x_2.2.2.2.2.1 = x_2.2.2.1) = true → (x.1, (24 : Int), ()) = ((checkF p L n k).1, (checkF p L n k).2, ())) ∧ (decide (x_2.2.2.2.2.1 < (0 : Int) ∨ n < x_2.2.2.2.2.1 ∨ x_2.2.2.2.2.1 = x_2.2.2.1) = false → ((-9223372036854775808 : Int) ≤ x_2.1 + (1 : Int) ∧ x_2.1 + (1 : Int) ≤ (9223372036854775807 : Int)) ∧ (some (bx_check_1 p r L) = some (bx_check_1 p r L) ∧ True) ∧ ((0 : Int) ≤ x_2.1 + (1 : Int) ∧ x_2.1 + (1 : Int) ≤ (4 : Int) ∧ L[x.1.toNat]? = some (x_2.2.2.1, x_2.2.2.2.1, x_2.2.2.2.2.1, x_2.2.2.2.2.2.1) ∧ ∀ (j : Int), (0 : Int) ≤ j → j < x_2.1 + (1 : Int) → brk (x_2.2.2.1, x_2.2.2.2.1, x_2.2.2.2.2.1, x_2.2.2.2.2.2.1) n k j = false) ∧ ((4 : Int) - (x_2.1 + (1 : Int))).toNat < ((4 : Int) - x_2.1).toNat)) ∧ (x_2.1 = (↑(3 : Nat) : Int) → True ∧ (decide (x_2.2.2.2.2.2.1 = (0 : Int)) = true → (x.1, (31 : Int), ()) = ((checkF p L n k).1, (checkF p L n k).2, ())) ∧ (decide (x_2.2.2.2.2.2.1 = (0 : Int)) = false → ((-9223372036854775808 : Int) ≤ x_2.1 + (1 : Int) ∧ x_2.1 + (1 : Int) ≤ (9223372036854775807 : Int)) ∧ (some (bx_check_1 p r L) = some (bx_check_1 p r L) ∧ True) ∧ ((0 : Int) ≤ x_2.1 + (1 : Int) ∧ x_2.1 + (1 : Int) ≤ (4 : Int) ∧ L[x.1.toNat]? = some (x_2.2.2.1, x_2.2.2.2.1, x_2.2.2.2.2.1, x_2.2.2.2.2.2.1) ∧ ∀ (j : Int), (0 : Int) ≤ j → j < x_2.1 + (1 : Int) → brk (x_2.2.2.1, x_2.2.2.2.1, x_2.2.2.2.2.1, x_2.2.2.2.2.2.1) n k j = false) ∧ ((4 : Int) - (x_2.1 + (1 : Int))).toNat < ((4 : Int) - x_2.1).toNat)) ∧ True) ∧ (decide (x_2.1 < (↑(8 / 2 : Nat) : Int)) = false → ((-9223372036854775808 : Int) ≤ x.1 + (1 : Int) ∧ x.1 + (1 : Int) ≤ (9223372036854775807 : Int)) ∧ (some (bx_check_1 p r L) = some (bx_check_1 p r L) ∧ True) ∧ ((0 : Int) ≤ x.1 + (1 : Int) ∧ x.1 + (1 : Int) ≤ (↑L.length : Int) ∧ badF L n k (0 : Int) = badF (List.drop (x.1 + (1 : Int)).toNat L) n k (x.1 + (1 : Int))) ∧ ((↑L.length : Int) - (x.1 + (1 : Int))).toNat < ((↑L.length : Int) - x.1).toNat)) ∧ (decide (x.1 < (↑L.length : Int)) = false → L.length ≤ (1000000000 : Nat) ∧ ((some (bx_check_1 p r L) = some (bx_check_1 p r L) ∧ True) ∧ (0 : Int) ≤ (0 : Int) ∧ (0 : Int) ≤ (↑(entsF L).length : Int) ∧ badF L n k (0 : Int) = none ∧ ∀ (e : Int), e ∈ List.take (Int.toNat (0 : Int)) (entsF L) → wholeF L e = (0 : Int)) ∧ ∀ (x : Int × Unit × Unit × Unit × Unit), ((0 : Int) ≤ x.1 ∧ x.1 ≤ (↑(entsF L).length : Int) ∧ badF L n k (0 : Int) = none ∧ ∀ (e : Int), e ∈ List.take x.1.toNat (entsF L) → wholeF L e = (0 : Int)) → (decide (x.1 < (↑(entsF L).length : Int)) = true → ((0 : Int) ≤ x.1 ∧ x.1 < (↑(entsF L).length : Int)) ∧ ∀ (x_1 : Int), (entsF L)[x.1.toNat]? = some x_1 → L.length ≤ (1000000000 : Nat) ∧ ((!decide ((netF (amtsL L x_1) []).1 = (0 : Int))) = false → ((!decide ((netF (amtsL L x_1) []).2 = (0 : Int))) = true → ((-1 : Int), (32 : Int), ()) = ((checkF p L n k).1, (checkF p L n k).2, ())) ∧ ((!decide ((netF (amtsL L x_1) []).2 = (0 : Int))) = false → ((-9223372036854775808 : Int) ≤ x.1 + (1 : Int) ∧ x.1 + (1 : Int) ≤ (9223372036854775807 : Int)) ∧ (some (bx_check_1 p r L) = some (bx_check_1 p r L) ∧ True) ∧ ((0 : Int) ≤ x.1 + (1 : Int) ∧ x.1 + (1 : Int) ≤ (↑(entsF L).length : Int) ∧ badF L n k (0 : Int) = none ∧ ∀ (e : Int), e ∈ List.take (x.1 + (1 : Int)).toNat (entsF L) → wholeF L e = (0 : Int)) ∧ ((↑(entsF L).length : Int) - (x.1 + (1 : Int))).toNat < ((↑(entsF L).length : Int) - x.1).toNat)) ∧ ((!decide ((netF (amtsL L x_1) []).1 = (0 : Int))) = !false → ((-1 : Int), (32 : Int), ()) = ((checkF p L n k).1, (checkF p L n k).2, ()))) ∧ (decide (x.1 < (↑(entsF L).length : Int)) = false → ((↑L.length : Int), (0 : Int), ()) = ((checkF p L n k).1, (checkF p L n k).2, ()))))) ∧ (decide ((↑L.length : Int) < (2 : Int)) = !false → ((-1 : Int), (30 : Int), ()) = ((checkF p L n k).1, (checkF p L n k).2, ())))) ∧ (decide (p < (0 : Int)) = !false → ((-1 : Int), (22 : Int), ()) = ((checkF p L n k).1, (checkF p L n k).2, ()))
theorem g_check_eq (p r : Int) (L : List Ln) (n k : Int) : Cond (env_check p r L n k) Tryz.f83 [.agg [.int .i64 p, .int .i64 r, .list .tmp LTy L], .int .i64 n, .int .i64 k] [.int .i64, .int .i64] ((checkF p L n k).1, (checkF p L n k).2, ()) = g_check_vc p r L n k := by kernel_rfl
theorem lineF_brk {x : Ln} {n k : Int} (h : ∀ j : Int, 0 ≤ j → j < 4 → brk x n k j = false) : lineF x n k = 0 := by
  have h0 := h 0 (by omega) (by omega)
  have h1 := h 1 (by omega) (by omega)
  have h2 := h 2 (by omega) (by omega)
  have h3 := h 3 (by omega) (by omega)
  simp only [brk, decide_eq_false_iff_not] at h0 h1 h2 h3
  unfold lineF
  rw [if_neg h0, if_neg h1, if_neg h2, if_neg h3]
theorem lineF_0 {x : Ln} {n k : Int} (c : x.1 < 1 ∨ n < x.1) : lineF x n k = 20 := by unfold lineF; rw [if_pos c]
theorem lineF_1 {x : Ln} {n k : Int} (h : ∀ j : Int, 0 ≤ j → j < 1 → brk x n k j = false) (c : x.2.1 < 1 ∨ k < x.2.1) : lineF x n k = 21 := by
  have h0 := h 0 (by omega) (by omega)
  simp only [brk, decide_eq_false_iff_not] at h0
  unfold lineF
  rw [if_neg h0, if_pos c]
theorem lineF_2 {x : Ln} {n k : Int} (h : ∀ j : Int, 0 ≤ j → j < 2 → brk x n k j = false) (c : x.2.2.1 < 0 ∨ n < x.2.2.1 ∨ x.2.2.1 = x.1) : lineF x n k = 24 := by
  have h0 := h 0 (by omega) (by omega)
  have h1 := h 1 (by omega) (by omega)
  simp only [brk, decide_eq_false_iff_not] at h0 h1
  unfold lineF
  rw [if_neg h0, if_neg h1, if_pos c]
theorem lineF_3 {x : Ln} {n k : Int} (h : ∀ j : Int, 0 ≤ j → j < 3 → brk x n k j = false) (c : x.2.2.2 = 0) : lineF x n k = 31 := by
  have h0 := h 0 (by omega) (by omega)
  have h1 := h 1 (by omega) (by omega)
  have h2 := h 2 (by omega) (by omega)
  simp only [brk, decide_eq_false_iff_not] at h0 h1 h2
  unfold lineF
  rw [if_neg h0, if_neg h1, if_neg h2, if_pos c]
theorem badF_hit {L : List Ln} {n k i : Int} {x : Ln} {f : Int} (h0 : 0 ≤ i) (h : L[i.toNat]? = some x) (e : lineF x n k = f) (hf : f ≠ 0) : badF (L.drop i.toNat) n k i = some (i, f) := by
  rw [badF_step h0 h, e, if_pos hf]
theorem brk_step {x : Ln} {n k i : Int} (h : ∀ j : Int, 0 ≤ j → j < i → brk x n k j = false) (c : brk x n k i = false) : ∀ j : Int, 0 ≤ j → j < i + 1 → brk x n k j = false := by
  intro j h1 h2
  by_cases e : j = i
  · rw [e]; exact c
  · exact h j h1 (by omega)
theorem netF_zero {L : List Ln} (hI : InL L) (hl : L.length ≤ 1000) (e : Int) : ((netF (amtsL L e) []).1 = 0 ∧ (netF (amtsL L e) []).2 = 0) ↔ wholeF L e = 0 := by
  rw [total_law hI hl]
  simp only [intB, faultB]
  by_cases c : -9223372036854775808 ≤ wholeF L e ∧ wholeF L e ≤ 9223372036854775807
  · have h : okB (wholeF L e) = true := by unfold okB; rw [decide_eq_true c.1, decide_eq_true c.2]; rfl
    rw [if_pos c, if_pos h]
    omega
  · have h : okB (wholeF L e) = false := by
      unfold okB
      rw [Bool.and_eq_false_iff, decide_eq_false_iff_not, decide_eq_false_iff_not]
      omega
    rw [if_neg c, if_neg (by rw [h]; decide)]
    omega
theorem g_check_ok (p r : Int) (L : List Ln) (n k : Int) (h : InL L ∧ L.length ≤ 1000) : g_check_vc p r L n k := by
  unfold g_check_vc
  have hel := entsF_len L
  obtain ⟨hI, hl⟩ := h
  simp only [decide_eq_true_eq, decide_eq_false_iff_not, Bool.not_false, Bool.not_eq_true', Bool.not_eq_false']
  refine ⟨fun c1 => ⟨fun c2 => ?_, fun c2 => ⟨fun c3 => ⟨fun c4 => ?_, fun c4 => ⟨trivial, ⟨⟨trivial, trivial⟩, by omega, by omega, by simp⟩, fun x hx => ⟨fun c5 => ⟨⟨hx.1, c5⟩, fun y hy => ⟨⟨⟨trivial, trivial⟩, by omega, by omega, hy, fun j j1 j2 => absurd j2 (by omega)⟩, fun z hz => ⟨fun c6 => ⟨⟨hz.1, c6⟩, fun cr => ⟨trivial, fun c7 => ?_, fun c7 => ⟨by omega, ⟨trivial, trivial⟩, ⟨by omega, by omega, hz.2.2.1, ?_⟩, by omega⟩⟩, fun cr => ⟨trivial, fun c7 => ?_, fun c7 => ⟨by omega, ⟨trivial, trivial⟩, ⟨by omega, by omega, hz.2.2.1, ?_⟩, by omega⟩⟩, fun cr => ⟨trivial, fun c7 => ?_, fun c7 => ⟨by omega, ⟨trivial, trivial⟩, ⟨by omega, by omega, hz.2.2.1, ?_⟩, by omega⟩⟩, fun cr => ⟨trivial, fun c7 => ?_, fun c7 => ⟨by omega, ⟨trivial, trivial⟩, ⟨by omega, by omega, hz.2.2.1, ?_⟩, by omega⟩⟩, trivial⟩, fun c6 => ⟨by omega, ⟨trivial, trivial⟩, ⟨by omega, by omega, ?_⟩, by omega⟩⟩⟩⟩, fun c5 => ⟨by omega, ⟨⟨trivial, trivial⟩, by omega, by omega, ?_, by simp⟩, fun z hz => ⟨fun c6 => ⟨⟨hz.1, c6⟩, fun e he => ⟨by omega, fun c7 => ⟨fun c8 => ?_, fun c8 => ⟨by omega, ⟨trivial, trivial⟩, ⟨by omega, by omega, hz.2.2.1, ?_⟩, by omega⟩⟩, fun c7 => ?_⟩⟩, fun c6 => ?_⟩⟩⟩⟩⟩, fun c3 => ?_⟩⟩, fun c1 => ?_⟩
  · rw [checkF_1 (by omega)]
  · rw [checkF_2 (by omega) (by omega)]
  · rw [checkF_3 (by omega) (by omega) (hx.2.2.trans (badF_hit hx.1 hz.2.2.1 (lineF_0 c7) (by decide)))]
  · exact brk_step hz.2.2.2 (by rw [cr]; exact decide_eq_false c7)
  · rw [checkF_3 (by omega) (by omega) (hx.2.2.trans (badF_hit hx.1 hz.2.2.1 (lineF_1 (fun j j1 j2 => hz.2.2.2 j j1 (by omega)) c7) (by decide)))]
  · exact brk_step hz.2.2.2 (by rw [cr]; exact decide_eq_false c7)
  · rw [checkF_3 (by omega) (by omega) (hx.2.2.trans (badF_hit hx.1 hz.2.2.1 (lineF_2 (fun j j1 j2 => hz.2.2.2 j j1 (by omega)) c7) (by decide)))]
  · exact brk_step hz.2.2.2 (by rw [cr]; exact decide_eq_false c7)
  · rw [checkF_3 (by omega) (by omega) (hx.2.2.trans (badF_hit hx.1 hz.2.2.1 (lineF_3 (fun j j1 j2 => hz.2.2.2 j j1 (by omega)) c7) (by decide)))]
  · exact brk_step hz.2.2.2 (by rw [cr]; exact decide_eq_false c7)
  · exact hx.2.2.trans ((badF_step hx.1 hz.2.2.1).trans (if_neg (fun c => c (lineF_brk (fun j j1 j2 => hz.2.2.2 j j1 (by omega))))))
  · exact hx.2.2.trans (badF_end c5)
  · rw [checkF_4 (by omega) (by omega) hz.2.2.1 (unbal_true (List.mem_of_getElem? he) (fun c => c8 ((netF_zero hI hl e).2 c).2))]
  · intro e' he'
    rcases mem_take_snoc hz.1 he he' with g | g
    · exact hz.2.2.2 _ g
    · subst g
      exact (netF_zero hI hl _).1 ⟨c7, c8⟩
  · rw [checkF_4 (by omega) (by omega) hz.2.2.1 (unbal_true (List.mem_of_getElem? he) (fun c => c7 ((netF_zero hI hl e).2 c).1))]
  · rw [checkF_5 (by omega) (by omega) hz.2.2.1 (unbal_false (fun e he => hz.2.2.2 e (by rw [List.take_of_length_le (by omega)]; exact he)))]
  · rw [checkF_2 (by omega) (by omega)]
  · rw [checkF_1 (by omega)]
set_option maxRecDepth 20000
theorem check_pure (p r : Int) (L : List Ln) (n k : Int) (h : InL L ∧ L.length ≤ 1000) : Pure Tryz.prog 83 [.agg [.int .i64 p, .int .i64 r, .list .tmp LTy L], .int .i64 n, .int .i64 k] (.tuple [.int .i64 (checkF p L n k).1, .int .i64 (checkF p L n k).2]) :=
  by have k := Pure.of_cond (g_check_eq p r L n k) (g_check_ok p r L n k h) (specs_okz rfl [sp_r1, sp_r2, sp_r3, sp_r4, sp_ents, sp_total] [] [] [sp_rules] rfl rfl rfl rfl) mixed Tryz.func83; exact k
noncomputable def q_check (p r : Int) (L : List Ln) (n k : Int) : Prop × V := (InL L ∧ L.length ≤ 1000, (.tuple [.int .i64 (checkF p L n k).1, .int .i64 (checkF p L n k).2]))
noncomputable def sp_check : FSpec Tryz.prog where
 f := 83
 run := fun
  | [.agg [.int .i64 p, .int .i64 r, v0_2], .int .i64 n, .int .i64 k] => (asL LTy v0_2 : Option (List Ln)).bind fun L => some (q_check p r L n k)
  | _ => none
 ok := fun args pre r h hp => by
  split at h
  · rename_i p r v0_2 n k
    obtain ⟨L, h0_2, h⟩ := Option.bind_eq_some_iff.1 h
    exact of_q h hp fun h => (check_pure p r L n k h).weak (.cons (Weak.agg (.cons (.refl _) (.cons (.refl _) (.cons (asL_weak h0_2) .nil)))) (.cons (.refl _) (.cons (.refl _) .nil)))
  · cases h
end Go.Proofs.YtgjpehgnagfghaaGreat.Ent
