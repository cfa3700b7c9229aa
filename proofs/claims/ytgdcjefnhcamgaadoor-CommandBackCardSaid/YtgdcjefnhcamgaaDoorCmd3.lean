/-
  command: may a command be? The walk.
-/
import Derived.Test.YtgdcjefnhcamgaaDoorCmd2
namespace Go.Proofs.YtgdcjefnhcamgaaDoor
open Go.Vm

abbrev nthI (l : List Int) (i : Int) : Int := (l[i.toNat]?).getD 0
/-- Something is said that a kind does not say. -/
def badAt (c : CmD) (i : Int) : Prop := nthI (allF c) i ≠ 0 ∧ i ∉ partF c.1
instance (c : CmD) (i : Int) : Decidable (badAt c i) := by unfold badAt; infer_instance
def badF (c : CmD) : Bool := (List.range 8).any fun j => decide (badAt c j)
def linesF (c : CmD) : List LnD := c.2.2.2.2.2.2.2.2
def checkF (c : CmD) : Int := if c.1 < 1 ∨ 8 < c.1 then 25 else if 50 < (linesF c).length then 30 else if c.1 ≠ 7 ∧ 0 < (linesF c).length then 2 else if badF c = true then 2 else 0
noncomputable def env_check (k a b c d : Int) (s p : Bool) (n m : Int) (l : List LnD) : Env where
  P := Tryd.prog
  ty := tys0
  specs := specsOf [sp_contains, sp_said]
  zspecs := zsOf [sp_forms]
  frz := fun | 30 => true | _ => false
  sym := fun | 34 => true | 42 => true | _ => false
  joins := fun
    | 7 => some { slots := [], boxes := [], keep := [1], inv := fun _ _ => 1 ≤ k ∧ k ≤ 8 ∧ l.length ≤ 50 ∧ (k = 7 ∨ l.length = 0) }
    | _ => none
  heads := fun
    | 9 => some { slots := [(39, .int .i64)], boxes := [], keep := [1], inv := fun _ (x : Int × Unit) => 0 ≤ x.1 ∧ x.1 ≤ 8 ∧ ∀ i, 0 ≤ i → i < x.1 → ¬badAt (k, a, b, c, d, s, p, (n, m), l) i, measure := fun _ (x : Int × Unit) => (8 - x.1).toNat }
    | _ => none
noncomputable def g_check (k a b c d : Int) (s p : Bool) (n m : Int) (l : List LnD) : Prop := vc (env_check k a b c d s p n m l) (codeOf Tryd.f9) (start0 Tryd.f9 [.agg [.int .i64 k, .int .i64 a, .int .i64 b, .int .i64 c, .int .i64 d, .bool s, .bool p, .int .i64 n, .int .i64 m, .list .tmp Ln l]]) (exitK (tsOf Tryd.f9) [.int .i64] (checkF (k, a, b, c, d, s, p, (n, m), l), ()))
def g_check_vc (k : Int) (a : Int) (b : Int) (c : Int) (d : Int) (s : Bool) (p : Bool) (n : Int) (m : Int) (l : List LnD) : Prop :=
  ((decide (k < (1 : Int)) = false → (decide ((8 : Int) < k) = true → ((25 : Int), ()) = (checkF (k, a, b, c, d, s, p, (n, m), l), ())) ∧ (decide ((8 : Int) < k) = false → (decide ((50 : Int) < (↑l.length : Int)) = true → ((30 : Int), ()) = (checkF (k, a, b, c, d, s, p, (n, m), l), ())) ∧ (decide ((50 : Int) < (↑l.length : Int)) = false → ((!decide (k = (7 : Int))) = true → (decide ((0 : Int) < (↑l.length : Int)) = true → ((2 : Int), ()) = (checkF (k, a, b, c, d, s, p, (n, m), l), ())) ∧ (decide ((0 : Int) < (↑l.length : Int)) = false → (some (Obj.box [V.int IntKind.i64 k, V.int IntKind.i64 a, V.int IntKind.i64 b, V.int IntKind.i64 c, V.int IntKind.i64 d, V.bool s, V.bool p, V.int IntKind.i64 n, V.int IntKind.i64 m, V.list LK.tmp Ln l]) = some (Obj.box [V.int IntKind.i64 k, V.int IntKind.i64 a, V.int IntKind.i64 b, V.int IntKind.i64 c, V.int IntKind.i64 d, V.bool s, V.bool p, V.int IntKind.i64 n, V.int IntKind.i64 m, V.list LK.tmp Ln l]) ∧ True) ∧ (1 : Int) ≤ k ∧ k ≤ (8 : Int) ∧ l.length ≤ (50 : Nat) ∧ (k = (7 : Int) ∨ l.length = (0 : Nat)))) ∧ ((!decide (k = (7 : Int))) = !true → (some (Obj.box [V.int IntKind.i64 k, V.int IntKind.i64 a, V.int IntKind.i64 b, V.int IntKind.i64 c, V.int IntKind.i64 d, V.bool s, V.bool p, V.int IntKind.i64 n, V.int IntKind.i64 m, V.list LK.tmp Ln l]) = some (Obj.box [V.int IntKind.i64 k, V.int IntKind.i64 a, V.int IntKind.i64 b, V.int IntKind.i64 c, V.int IntKind.i64 d, V.bool s, V.bool p, V.int IntKind.i64 n, V.int IntKind.i64 m, V.list LK.tmp Ln l]) ∧ True) ∧ (1 : Int) ≤ k ∧ k ≤ (8 : Int) ∧ l.length ≤ (50 : Nat) ∧ (k = (7 : Int) ∨ l.length = (0 : Nat)))))) ∧ (decide (k < (1 : Int)) = !false → ((25 : Int), ()) = (checkF (k, a, b, c, d, s, p, (n, m), l), ()))) ∧ ∀ (x : Unit), (1 : Int) ≤ k ∧ k ≤ (8 : Int) ∧ l.length ≤ (50 : Nat) ∧ (k = (7 : Int) ∨ l.length = (0 : Nat)) → True ∧ ((-9223372036854775808 : Int) ≤ k - (1 : Int) ∧ k - (1 : Int) ≤ (9223372036854775807 : Int)) ∧ ((0 : Int) ≤ k - (1 : Int) ∧ k - (1 : Int) < (↑(8 : Nat) : Int)) ∧ True ∧ ((some (Obj.box [V.int IntKind.i64 k, V.int IntKind.i64 a, V.int IntKind.i64 b, V.int IntKind.i64 c, V.int IntKind.i64 d, V.bool s, V.bool p, V.int IntKind.i64 n, V.int IntKind.i64 m, V.list LK.tmp Ln l]) = some (Obj.box [V.int IntKind.i64 k, V.int IntKind.i64 a, V.int IntKind.i64 b, V.int IntKind.i64 c, V.int IntKind.i64 d, V.bool s, V.bool p, V.int IntKind.i64 n, V.int IntKind.i64 m, V.list LK.tmp Ln l]) ∧ True) ∧ (0 : Int) ≤ (0 : Int) ∧ (0 : Int) ≤ (8 : Int) ∧ ∀ (i : Int), (0 : Int) ≤ i → i < (0 : Int) → ¬badAt (k, a, b, c, d, s, p, (n, m), l) i) ∧ ∀ (x : Int × Unit), ((0 : Int) ≤ x.fst ∧ x.fst ≤ (8 : Int) ∧ ∀ (i : Int), (0 : Int) ≤ i → i < x.fst → ¬badAt (k, a, b, c, d, s, p, (n, m), l) i) → (decide (x.fst < (8 : Int)) = true → ((0 : Int) ≤ x.fst ∧ x.fst < (↑(8 : Nat) : Int)) ∧ ((!decide ([a, b, c, d, bitF s, bitF p, n, m][x.fst.toNat]?.getD (0 : Int) = (0 : Int))) = true → ([[(0 : Int)], [(0 : Int), (1 : Int), (4 : Int), (5 : Int)], [(0 : Int), (1 : Int)], [(0 : Int), (1 : Int), (2 : Int), (3 : Int)], [(0 : Int), (1 : Int), (2 : Int), (3 : Int), (6 : Int), (7 : Int)], [(0 : Int), (1 : Int)], [(0 : Int)], [(0 : Int), (1 : Int)]][(k - (1 : Int)).toNat]?.getD []).length ≤ (1000000 : Nat) ∧ ((!decide (x.fst ∈ [[(0 : Int)], [(0 : Int), (1 : Int), (4 : Int), (5 : Int)], [(0 : Int), (1 : Int)], [(0 : Int), (1 : Int), (2 : Int), (3 : Int)], [(0 : Int), (1 : Int), (2 : Int), (3 : Int), (6 : Int), (7 : Int)], [(0 : Int), (1 : Int)], [(0 : Int)], [(0 : Int), (1 : Int)]][(k - (1 : Int)).toNat]?.getD [])) = true → ((2 : Int), ()) = (checkF (k, a, b, c, d, s, p, (n, m), l), ())) ∧ ((!decide (x.fst ∈ [[(0 : Int)], [(0 : Int), (1 : Int), (4 : Int), (5 : Int)], [(0 : Int), (1 : Int)], [(0 : Int), (1 : Int), (2 : Int), (3 : Int)], [(0 : Int), (1 : Int), (2 : Int), (3 : Int), (6 : Int), (7 : Int)], [(0 : Int), (1 : Int)], [(0 : Int)], [(0 : Int), (1 : Int)]][(k - (1 : Int)).toNat]?.getD [])) = false → ((-9223372036854775808 : Int) ≤ x.fst + (1 : Int) ∧ x.fst + (1 : Int) ≤ (9223372036854775807 : Int)) ∧ (some (Obj.box [V.int IntKind.i64 k, V.int IntKind.i64 a, V.int IntKind.i64 b, V.int IntKind.i64 c, V.int IntKind.i64 d, V.bool s, V.bool p, V.int IntKind.i64 n, V.int IntKind.i64 m, V.list LK.tmp Ln l]) = some (Obj.box [V.int IntKind.i64 k, V.int IntKind.i64 a, V.int IntKind.i64 b, V.int IntKind.i64 c, V.int IntKind.i64 d, V.bool s, V.bool p, V.int IntKind.i64 n, V.int IntKind.i64 m, V.list LK.tmp Ln l]) ∧ True) ∧ ((0 : Int) ≤ x.fst + (1 : Int) ∧ x.fst + (1 : Int) ≤ (8 : Int) ∧ ∀ (i : Int), (0 : Int) ≤ i → i < x.fst + (1 : Int) → ¬badAt (k, a, b, c, d, s, p, (n, m), l) i) ∧ ((8 : Int) - (x.fst + (1 : Int))).toNat < ((8 : Int) - x.fst).toNat)) ∧ ((!decide ([a, b, c, d, bitF s, bitF p, n, m][x.fst.toNat]?.getD (0 : Int) = (0 : Int))) = !true → ((-9223372036854775808 : Int) ≤ x.fst + (1 : Int) ∧ x.fst + (1 : Int) ≤ (9223372036854775807 : Int)) ∧ (some (Obj.box [V.int IntKind.i64 k, V.int IntKind.i64 a, V.int IntKind.i64 b, V.int IntKind.i64 c, V.int IntKind.i64 d, V.bool s, V.bool p, V.int IntKind.i64 n, V.int IntKind.i64 m, V.list LK.tmp Ln l]) = some (Obj.box [V.int IntKind.i64 k, V.int IntKind.i64 a, V.int IntKind.i64 b, V.int IntKind.i64 c, V.int IntKind.i64 d, V.bool s, V.bool p, V.int IntKind.i64 n, V.int IntKind.i64 m, V.list LK.tmp Ln l]) ∧ True) ∧ ((0 : Int) ≤ x.fst + (1 : Int) ∧ x.fst + (1 : Int) ≤ (8 : Int) ∧ ∀ (i : Int), (0 : Int) ≤ i → i < x.fst + (1 : Int) → ¬badAt (k, a, b, c, d, s, p, (n, m), l) i) ∧ ((8 : Int) - (x.fst + (1 : Int))).toNat < ((8 : Int) - x.fst).toNat)) ∧ (decide (x.fst < (8 : Int)) = false → ((0 : Int), ()) = (checkF (k, a, b, c, d, s, p, (n, m), l), ()))
theorem g_check_eq (k a b c d : Int) (s p : Bool) (n m : Int) (l : List LnD) : g_check k a b c d s p n m l = g_check_vc k a b c d s p n m l := by kernel_rfl
theorem checkF_ok {c : CmD} (h1 : 1 ≤ c.1) (h2 : c.1 ≤ 8) (h3 : (linesF c).length ≤ 50) (h4 : c.1 = 7 ∨ (linesF c).length = 0) : checkF c = if badF c = true then 2 else 0 := by
  unfold checkF
  rw [if_neg (by omega), if_neg (by omega), if_neg (by omega)]
theorem badF_true {c : CmD} {i : Int} (h0 : 0 ≤ i) (h1 : i < 8) (h : badAt c i) : badF c = true := by
  unfold badF
  rw [List.any_eq_true]
  exact ⟨i.toNat, List.mem_range.2 (by omega), by rw [show ((i.toNat : Nat) : Int) = i by omega]; exact decide_eq_true h⟩
theorem badF_false {c : CmD} (h : ∀ i : Int, 0 ≤ i → i < 8 → ¬ badAt c i) : badF c = false := by
  unfold badF
  rw [List.any_eq_false]
  intro j hj
  simp at hj ⊢
  exact h j (by omega) (by omega)
theorem partF_len (k : Int) : (partF k).length ≤ 6 := by
  unfold partF partL
  generalize (k - 1).toNat = j
  match j with
  | 0 | 1 | 2 | 3 | 4 | 5 | 6 | 7 => decide
  | n + 8 => simp
theorem g_check_ok (k a b c d : Int) (s p : Bool) (n m : Int) (l : List LnD) : g_check_vc k a b c d s p n m l := by
  unfold g_check_vc
  have hp : ([[(0 : Int)], [0, 1, 4, 5], [0, 1], [0, 1, 2, 3], [0, 1, 2, 3, 6, 7], [0, 1], [0], [0, 1]][(k - 1).toNat]?.getD []) = partF k := rfl
  simp only [decide_eq_true_eq, decide_eq_false_iff_not, Bool.not_eq_true', Bool.not_eq_false', Bool.not_true, Bool.not_false, hp]
  repeat' (first | apply And.intro | intro _)
  all_goals try (first | trivial | rfl | omega)
  · rw [show checkF (k, a, b, c, d, s, p, (n, m), l) = 25 from if_pos (by omega)]
  · rw [show checkF (k, a, b, c, d, s, p, (n, m), l) = 30 from (if_neg (by simp only; omega)).trans (if_pos (by simp only [linesF]; omega))]
  · rw [show checkF (k, a, b, c, d, s, p, (n, m), l) = 2 from (if_neg (by simp only; omega)).trans ((if_neg (by simp only [linesF]; omega)).trans (if_pos (by simp only [linesF]; omega)))]
  · rw [show checkF (k, a, b, c, d, s, p, (n, m), l) = 25 from if_pos (by simp only; omega)]
  · have := partF_len k
    omega
  · rename_i h1 x h2 h3 h4 h5
    rw [checkF_ok (c := (k, a, b, c, d, s, p, (n, m), l)) h1.1 h1.2.1 h1.2.2.1 h1.2.2.2, if_pos (badF_true (c := (k, a, b, c, d, s, p, (n, m), l)) h2.1 h3 ⟨h4, h5⟩)]
  · rename_i x h2 h3 h4 h5 i i0 i1 hb
    by_cases hi : i < x.fst
    · exact h2.2.2 i i0 hi hb
    · obtain rfl : i = x.fst := by omega
      exact hb.2 h5
  · rename_i x h2 h3 h4 i i0 i1 hb
    by_cases hi : i < x.fst
    · exact h2.2.2 i i0 hi hb
    · obtain rfl : i = x.fst := by omega
      exact hb.1 h4
  · rename_i h1 x h2 h3
    rw [checkF_ok (c := (k, a, b, c, d, s, p, (n, m), l)) h1.1 h1.2.1 h1.2.2.1 h1.2.2.2, badF_false fun i i0 i1 => h2.2.2 i i0 (by omega)]
    rfl
set_option maxRecDepth 20000 in
theorem check_pure (k a b c d : Int) (s p : Bool) (n m : Int) (l : List LnD) : Pure Tryd.prog 9 [.agg [.int .i64 k, .int .i64 a, .int .i64 b, .int .i64 c, .int .i64 d, .bool s, .bool p, .int .i64 n, .int .i64 m, .list .tmp Ln l]] (.int .i64 (checkF (k, a, b, c, d, s, p, (n, m), l))) :=
  Pure.of_g (E := env_check k a b c d s p n m l) (ts := tsOf Tryd.f9) (ps := [.int .i64]) (r := (checkF (k, a, b, c, d, s, p, (n, m), l), ())) (fn := Tryd.f9) (c := codeOf Tryd.f9) (specs_okz (P := Tryd.prog) rfl [sp_contains, sp_said] [] [] [sp_forms] rfl rfl rfl rfl) mixed Tryd.func9 rfl rfl (g := g_check k a b c d s p n m l) (by delta g_check start0; first | with_reducible exact Eq.refl _ | exact Eq.refl _) (by rw [g_check_eq k a b c d s p n m l]; exact g_check_ok k a b c d s p n m l)
noncomputable def q_check (k a b c d : Int) (s p : Bool) (n m : Int) (l : List LnD) : Prop × V := (True, (.int .i64 (checkF (k, a, b, c, d, s, p, (n, m), l))))
noncomputable def sp_check : FSpec Tryd.prog where
  f := 9
  run := fun args => match args with
    | [.agg [.int .i64 k, .int .i64 a, .int .i64 b, .int .i64 c, .int .i64 d, v0_5, v0_6, .int .i64 n, .int .i64 m, v0_9]] => (match boolOf v0_5 with | some s => (match boolOf v0_6 with | some p => (match (asL Ln v0_9 : Option (List LnD)) with | some l => some (q_check k a b c d s p n m l) | none => none) | none => none) | none => none)
    | _ => none
  ok := fun args pre r h hp => by
    try dsimp only at h
    split at h
    · rename_i k a b c d v0_5 v0_6 n m v0_9
      cases h0_5 : boolOf v0_5 with
      | none => rw [h0_5] at h; cases h
      | some s =>
      rw [h0_5] at h
      try dsimp only at h
      cases h0_6 : boolOf v0_6 with
      | none => rw [h0_6] at h; cases h
      | some p =>
      rw [h0_6] at h
      try dsimp only at h
      cases h0_9 : (asL Ln v0_9 : Option (List LnD)) with
      | none => rw [h0_9] at h; cases h
      | some l =>
      rw [h0_9] at h
      try dsimp only at h
      have h := Option.some.inj h
      unfold q_check at h
      cases h
      exact (check_pure k a b c d s p n m l).weak (.cons (Weak.agg (.cons (Weak.refl _) (.cons (Weak.refl _) (.cons (Weak.refl _) (.cons (Weak.refl _) (.cons (Weak.refl _) (.cons (boolOf_weak h0_5) (.cons (boolOf_weak h0_6) (.cons (Weak.refl _) (.cons (Weak.refl _) (.cons (asL_weak h0_9) .nil))))))))))) .nil)
    · cases h

end Go.Proofs.YtgdcjefnhcamgaaDoor
