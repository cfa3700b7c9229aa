/-
  CommandBack: the walk.
-/
import Derived.Test.YtgdcjefnhcamgaaDoorCmd12
namespace Go.Proofs.YtgdcjefnhcamgaaDoor
open Go.Vm

theorem print_snd (c : CmD) : (printF c).2 = checkF c := by
  unfold printF
  split
  · rename_i e
    exact e.symm
  · rfl
theorem print_fst {c : CmD} (h : checkF c = 0) : (printF c).1 = textF c := by
  unfold printF
  rw [if_pos h]
noncomputable def env_back (k a b c d : Int) (s p : Bool) (n m : Int) (l : List LnD) (t : By) : Env where
  P := Tryd.prog
  ty := tys0
  specs := specsOf [sp_awake, sp_print, sp_cparse, sp_check, sp_csame]
  joins := fun
    | 10 => some { slots := [], boxes := [], keep := [2], inv := fun _ (_ : Unit) => t.length ≤ 3000 }
    | _ => none
noncomputable def g_back (k a b c d : Int) (s p : Bool) (n m : Int) (l : List LnD) (t : By) : Prop := vc (env_back k a b c d s p n m l t) (codeOf Tryd.f5) (start0 Tryd.f5 [.agg [.int .i64 k, .int .i64 a, .int .i64 b, .int .i64 c, .int .i64 d, .bool s, .bool p, .int .i64 n, .int .i64 m, .list .tmp Ln l], .str t]) (exitK (tsOf Tryd.f5) [.bool] (true, ()))
def g_back_vc (k : Int) (a : Int) (b : Int) (c : Int) (d : Int) (s : Bool) (p : Bool) (n : Int) (m : Int) (l : List LnD) (t : By) : Prop :=
  (decide ((60 : Int) < (↑l.length : Int)) = false → (decide ((3000 : Int) < (↑(List.length t) : Int)) = true → True ∧ (true, ()) = (true, ())) ∧ (decide ((3000 : Int) < (↑(List.length t) : Int)) = false → InC (k, a, b, c, d, s, p, (n, m), l) ∧ True ∧ ((!decide ((printF (k, a, b, c, d, s, p, (n, m), l)).snd = checkF (k, a, b, c, d, s, p, (n, m), l))) = true → (false, ()) = (true, ())) ∧ ((!decide ((printF (k, a, b, c, d, s, p, (n, m), l)).snd = checkF (k, a, b, c, d, s, p, (n, m), l))) = false → ((decide ((printF (k, a, b, c, d, s, p, (n, m), l)).snd = (0 : Int)) = true → (printF (k, a, b, c, d, s, p, (n, m), l)).fst.length ≤ (10000 : Nat) ∧ l.length ≤ (1000000000 : Nat) ∧ ((!sameC (k, a, b, c, d, s, p, (n, m), l) ((cparseF (printF (k, a, b, c, d, s, p, (n, m), l)).fst).fst.fst, (cparseF (printF (k, a, b, c, d, s, p, (n, m), l)).fst).fst.snd.fst, (cparseF (printF (k, a, b, c, d, s, p, (n, m), l)).fst).fst.snd.snd.fst, (cparseF (printF (k, a, b, c, d, s, p, (n, m), l)).fst).fst.snd.snd.snd.fst, (cparseF (printF (k, a, b, c, d, s, p, (n, m), l)).fst).fst.snd.snd.snd.snd.fst, (cparseF (printF (k, a, b, c, d, s, p, (n, m), l)).fst).fst.snd.snd.snd.snd.snd.fst, (cparseF (printF (k, a, b, c, d, s, p, (n, m), l)).fst).fst.snd.snd.snd.snd.snd.snd.fst, ((cparseF (printF (k, a, b, c, d, s, p, (n, m), l)).fst).fst.snd.snd.snd.snd.snd.snd.snd.fst.fst, (cparseF (printF (k, a, b, c, d, s, p, (n, m), l)).fst).fst.snd.snd.snd.snd.snd.snd.snd.fst.snd), (cparseF (printF (k, a, b, c, d, s, p, (n, m), l)).fst).fst.snd.snd.snd.snd.snd.snd.snd.snd)) = false → ((!decide ((cparseF (printF (k, a, b, c, d, s, p, (n, m), l)).fst).snd = (0 : Int))) = true → (false, ()) = (true, ())) ∧ ((!decide ((cparseF (printF (k, a, b, c, d, s, p, (n, m), l)).fst).snd = (0 : Int))) = false → (some (Obj.box [V.int IntKind.i64 k, V.int IntKind.i64 a, V.int IntKind.i64 b, V.int IntKind.i64 c, V.int IntKind.i64 d, V.bool s, V.bool p, V.int IntKind.i64 n, V.int IntKind.i64 m, V.list LK.tmp Ln l]) = some (Obj.box [V.int IntKind.i64 k, V.int IntKind.i64 a, V.int IntKind.i64 b, V.int IntKind.i64 c, V.int IntKind.i64 d, V.bool s, V.bool p, V.int IntKind.i64 n, V.int IntKind.i64 m, V.list LK.tmp Ln l]) ∧ True) ∧ List.length t ≤ (3000 : Nat))) ∧ ((!sameC (k, a, b, c, d, s, p, (n, m), l) ((cparseF (printF (k, a, b, c, d, s, p, (n, m), l)).fst).fst.fst, (cparseF (printF (k, a, b, c, d, s, p, (n, m), l)).fst).fst.snd.fst, (cparseF (printF (k, a, b, c, d, s, p, (n, m), l)).fst).fst.snd.snd.fst, (cparseF (printF (k, a, b, c, d, s, p, (n, m), l)).fst).fst.snd.snd.snd.fst, (cparseF (printF (k, a, b, c, d, s, p, (n, m), l)).fst).fst.snd.snd.snd.snd.fst, (cparseF (printF (k, a, b, c, d, s, p, (n, m), l)).fst).fst.snd.snd.snd.snd.snd.fst, (cparseF (printF (k, a, b, c, d, s, p, (n, m), l)).fst).fst.snd.snd.snd.snd.snd.snd.fst, ((cparseF (printF (k, a, b, c, d, s, p, (n, m), l)).fst).fst.snd.snd.snd.snd.snd.snd.snd.fst.fst, (cparseF (printF (k, a, b, c, d, s, p, (n, m), l)).fst).fst.snd.snd.snd.snd.snd.snd.snd.fst.snd), (cparseF (printF (k, a, b, c, d, s, p, (n, m), l)).fst).fst.snd.snd.snd.snd.snd.snd.snd.snd)) = !false → (false, ()) = (true, ()))) ∧ (decide ((printF (k, a, b, c, d, s, p, (n, m), l)).snd = (0 : Int)) = false → (some (Obj.box [V.int IntKind.i64 k, V.int IntKind.i64 a, V.int IntKind.i64 b, V.int IntKind.i64 c, V.int IntKind.i64 d, V.bool s, V.bool p, V.int IntKind.i64 n, V.int IntKind.i64 m, V.list LK.tmp Ln l]) = some (Obj.box [V.int IntKind.i64 k, V.int IntKind.i64 a, V.int IntKind.i64 b, V.int IntKind.i64 c, V.int IntKind.i64 d, V.bool s, V.bool p, V.int IntKind.i64 n, V.int IntKind.i64 m, V.list LK.tmp Ln l]) ∧ True) ∧ List.length t ≤ (3000 : Nat))) ∧ ∀ (x : Unit), List.length t ≤ (3000 : Nat) → List.length t ≤ (10000 : Nat) ∧ ((!decide ((cparseF t).snd = (0 : Int))) = true → (cparseF t).fst.snd.snd.snd.snd.snd.snd.snd.snd.length ≤ (1000000000 : Nat) ∧ (sameC ((cparseF t).fst.fst, (cparseF t).fst.snd.fst, (cparseF t).fst.snd.snd.fst, (cparseF t).fst.snd.snd.snd.fst, (cparseF t).fst.snd.snd.snd.snd.fst, (cparseF t).fst.snd.snd.snd.snd.snd.fst, (cparseF t).fst.snd.snd.snd.snd.snd.snd.fst, ((cparseF t).fst.snd.snd.snd.snd.snd.snd.snd.fst.fst, (cparseF t).fst.snd.snd.snd.snd.snd.snd.snd.fst.snd), (cparseF t).fst.snd.snd.snd.snd.snd.snd.snd.snd) ((0 : Int), (0 : Int), (0 : Int), (0 : Int), (0 : Int), false, false, ((0 : Int), (0 : Int)), []) = true → True ∧ (true, ()) = (true, ())) ∧ (sameC ((cparseF t).fst.fst, (cparseF t).fst.snd.fst, (cparseF t).fst.snd.snd.fst, (cparseF t).fst.snd.snd.snd.fst, (cparseF t).fst.snd.snd.snd.snd.fst, (cparseF t).fst.snd.snd.snd.snd.snd.fst, (cparseF t).fst.snd.snd.snd.snd.snd.snd.fst, ((cparseF t).fst.snd.snd.snd.snd.snd.snd.snd.fst.fst, (cparseF t).fst.snd.snd.snd.snd.snd.snd.snd.fst.snd), (cparseF t).fst.snd.snd.snd.snd.snd.snd.snd.snd) ((0 : Int), (0 : Int), (0 : Int), (0 : Int), (0 : Int), false, false, ((0 : Int), (0 : Int)), []) = !true → (false, ()) = (true, ()))) ∧ ((!decide ((cparseF t).snd = (0 : Int))) = false → InC ((cparseF t).fst.fst, (cparseF t).fst.snd.fst, (cparseF t).fst.snd.snd.fst, (cparseF t).fst.snd.snd.snd.fst, (cparseF t).fst.snd.snd.snd.snd.fst, (cparseF t).fst.snd.snd.snd.snd.snd.fst, (cparseF t).fst.snd.snd.snd.snd.snd.snd.fst, ((cparseF t).fst.snd.snd.snd.snd.snd.snd.snd.fst.fst, (cparseF t).fst.snd.snd.snd.snd.snd.snd.snd.fst.snd), (cparseF t).fst.snd.snd.snd.snd.snd.snd.snd.snd) ∧ (decide ((printF ((cparseF t).fst.fst, (cparseF t).fst.snd.fst, (cparseF t).fst.snd.snd.fst, (cparseF t).fst.snd.snd.snd.fst, (cparseF t).fst.snd.snd.snd.snd.fst, (cparseF t).fst.snd.snd.snd.snd.snd.fst, (cparseF t).fst.snd.snd.snd.snd.snd.snd.fst, ((cparseF t).fst.snd.snd.snd.snd.snd.snd.snd.fst.fst, (cparseF t).fst.snd.snd.snd.snd.snd.snd.snd.fst.snd), (cparseF t).fst.snd.snd.snd.snd.snd.snd.snd.snd)).fst = t) = true → (decide ((printF ((cparseF t).fst.fst, (cparseF t).fst.snd.fst, (cparseF t).fst.snd.snd.fst, (cparseF t).fst.snd.snd.snd.fst, (cparseF t).fst.snd.snd.snd.snd.fst, (cparseF t).fst.snd.snd.snd.snd.snd.fst, (cparseF t).fst.snd.snd.snd.snd.snd.snd.fst, ((cparseF t).fst.snd.snd.snd.snd.snd.snd.snd.fst.fst, (cparseF t).fst.snd.snd.snd.snd.snd.snd.snd.fst.snd), (cparseF t).fst.snd.snd.snd.snd.snd.snd.snd.snd)).snd = (0 : Int)) = true → True ∧ (decide (checkF ((cparseF t).fst.fst, (cparseF t).fst.snd.fst, (cparseF t).fst.snd.snd.fst, (cparseF t).fst.snd.snd.snd.fst, (cparseF t).fst.snd.snd.snd.snd.fst, (cparseF t).fst.snd.snd.snd.snd.snd.fst, (cparseF t).fst.snd.snd.snd.snd.snd.snd.fst, ((cparseF t).fst.snd.snd.snd.snd.snd.snd.snd.fst.fst, (cparseF t).fst.snd.snd.snd.snd.snd.snd.snd.fst.snd), (cparseF t).fst.snd.snd.snd.snd.snd.snd.snd.snd) = (0 : Int)) = true → True ∧ (true, ()) = (true, ())) ∧ (decide (checkF ((cparseF t).fst.fst, (cparseF t).fst.snd.fst, (cparseF t).fst.snd.snd.fst, (cparseF t).fst.snd.snd.snd.fst, (cparseF t).fst.snd.snd.snd.snd.fst, (cparseF t).fst.snd.snd.snd.snd.snd.fst, (cparseF t).fst.snd.snd.snd.snd.snd.snd.fst, ((cparseF t).fst.snd.snd.snd.snd.snd.snd.snd.fst.fst, (cparseF t).fst.snd.snd.snd.snd.snd.snd.snd.fst.snd), (cparseF t).fst.snd.snd.snd.snd.snd.snd.snd.snd) = (0 : Int)) = !true → (false, ()) = (true, ()))) ∧ (decide ((printF ((cparseF t).fst.fst, (cparseF t).fst.snd.fst, (cparseF t).fst.snd.snd.fst, (cparseF t).fst.snd.snd.snd.fst, (cparseF t).fst.snd.snd.snd.snd.fst, (cparseF t).fst.snd.snd.snd.snd.snd.fst, (cparseF t).fst.snd.snd.snd.snd.snd.snd.fst, ((cparseF t).fst.snd.snd.snd.snd.snd.snd.snd.fst.fst, (cparseF t).fst.snd.snd.snd.snd.snd.snd.snd.fst.snd), (cparseF t).fst.snd.snd.snd.snd.snd.snd.snd.snd)).snd = (0 : Int)) = !true → (false, ()) = (true, ()))) ∧ (decide ((printF ((cparseF t).fst.fst, (cparseF t).fst.snd.fst, (cparseF t).fst.snd.snd.fst, (cparseF t).fst.snd.snd.snd.fst, (cparseF t).fst.snd.snd.snd.snd.fst, (cparseF t).fst.snd.snd.snd.snd.snd.fst, (cparseF t).fst.snd.snd.snd.snd.snd.snd.fst, ((cparseF t).fst.snd.snd.snd.snd.snd.snd.snd.fst.fst, (cparseF t).fst.snd.snd.snd.snd.snd.snd.snd.fst.snd), (cparseF t).fst.snd.snd.snd.snd.snd.snd.snd.snd)).fst = t) = !true → (false, ()) = (true, ())))))) ∧ (decide ((60 : Int) < (↑l.length : Int)) = !false → True ∧ (true, ()) = (true, ()))
theorem g_back_eq (k a b c d : Int) (s p : Bool) (n m : Int) (l : List LnD) (t : By) : g_back k a b c d s p n m l t = g_back_vc k a b c d s p n m l t := by kernel_rfl
theorem g_back_ok (k a b c d : Int) (s p : Bool) (n m : Int) (l : List LnD) (t : By) (h : InC (k, a, b, c, d, s, p, (n, m), l)) : g_back_vc k a b c d s p n m l t := by
  unfold g_back_vc
  have hps := print_snd (k, a, b, c, d, s, p, (n, m), l)
  have hpf := @print_fst (k, a, b, c, d, s, p, (n, m), l)
  have hback : checkF (k, a, b, c, d, s, p, (n, m), l) = 0 → cparseF (textF (k, a, b, c, d, s, p, (n, m), l)) = ((k, a, b, c, d, s, p, (n, m), l), 0) := fun e => text_back e h
  have hchk : checkF (k, a, b, c, d, s, p, (n, m), l) = 0 → l.length ≤ 50 := fun e => (checkF_kind e).2.2
  have hlen : checkF (k, a, b, c, d, s, p, (n, m), l) = 0 → (textF (k, a, b, c, d, s, p, (n, m), l)).length ≤ 10000 := fun e => text_len h (hchk e)
  have hcl := cp_lines t
  unfold linesF at hcl
  have hE : (((cparseF t).1.1, (cparseF t).1.2.1, (cparseF t).1.2.2.1, (cparseF t).1.2.2.2.1, (cparseF t).1.2.2.2.2.1, (cparseF t).1.2.2.2.2.2.1, (cparseF t).1.2.2.2.2.2.2.1, ((cparseF t).1.2.2.2.2.2.2.2.1.1, (cparseF t).1.2.2.2.2.2.2.2.1.2), (cparseF t).1.2.2.2.2.2.2.2.2) : CmD) = (cparseF t).1 := rfl
  have hr := @read_back t
  have he := @read_err t
  have hps2 := print_snd (cparseF t).1
  have hpf2 := @print_fst (cparseF t).1
  simp only [hE, hps, hps2, decide_eq_true_eq, decide_eq_false_iff_not, Bool.not_eq_true', Bool.not_eq_false', Bool.not_true, Bool.not_false]
  repeat' (first | with_reducible apply And.intro | intro _)
  all_goals try (first | trivial | rfl | omega)
  · rename_i e
    rw [hpf e]
    exact hlen e
  · rename_i e _ e2
    rw [hpf e, hback e] at e2
    exact absurd rfl e2
  · rename_i e e2
    rw [hpf e, hback e] at e2
    rw [awS] at e2
    cases e2
  · rename_i e e2
    rw [he e] at e2
    cases e2
  · rename_i e
    exact (hr e).2.2
  · rename_i e e2
    rw [hpf2 (hr e).1] at e2
    exact absurd (hr e).2.1 e2
set_option maxRecDepth 20000 in
theorem back_pure (k a b c d : Int) (s p : Bool) (n m : Int) (l : List LnD) (t : By) (h : InC (k, a, b, c, d, s, p, (n, m), l)) : Pure Tryd.prog 5 [.agg [.int .i64 k, .int .i64 a, .int .i64 b, .int .i64 c, .int .i64 d, .bool s, .bool p, .int .i64 n, .int .i64 m, .list .tmp Ln l], .str t] (.bool true) :=
  Pure.of_g (E := env_back k a b c d s p n m l t) (ts := tsOf Tryd.f5) (ps := [.bool]) (r := (true, ())) (fn := Tryd.f5) (c := codeOf Tryd.f5) (specs_ok (P := Tryd.prog) rfl [sp_awake, sp_print, sp_cparse, sp_check, sp_csame] [] rfl rfl) mixed Tryd.func5 rfl rfl (g := g_back k a b c d s p n m l t) (by delta g_back start0; first | with_reducible exact Eq.refl _ | exact Eq.refl _) (by rw [g_back_eq k a b c d s p n m l t]; exact g_back_ok k a b c d s p n m l t h)
noncomputable def q_back (k a b c d : Int) (s p : Bool) (n m : Int) (l : List LnD) (t : By) : Prop × V := (InC (k, a, b, c, d, s, p, (n, m), l), (.bool true))
noncomputable def sp_back : FSpec Tryd.prog where
  f := 5
  run := fun args => match args with
    | [.agg [.int .i64 k, .int .i64 a, .int .i64 b, .int .i64 c, .int .i64 d, v0_5, v0_6, .int .i64 n, .int .i64 m, v0_9], .str t] => (match boolOf v0_5 with | some s => (match boolOf v0_6 with | some p => (match (asL Ln v0_9 : Option (List LnD)) with | some l => some (q_back k a b c d s p n m l t) | none => none) | none => none) | none => none)
    | _ => none
  ok := fun args pre r h hp => by
    try dsimp only at h
    split at h
    · rename_i k a b c d v0_5 v0_6 n m v0_9 t
      cases h0_5 : boolOf v0_5 with
      | none => rw [h0_5] at h; cases h
      | some s =>
      rw [h0_5] at h
      try dsimp only at h
      cases h0_6 : boolOf v0_6 with
      | none => rw [h0_6] at h; cases h
      | some p =>
      rw [h0_6] at h
      try dsimp only at h
      cases h0_9 : (asL Ln v0_9 : Option (List LnD)) with
      | none => rw [h0_9] at h; cases h
      | some l =>
      rw [h0_9] at h
      try dsimp only at h
      have h := Option.some.inj h
      unfold q_back at h
      cases h
      exact (back_pure k a b c d s p n m l t hp).weak (.cons (Weak.agg (.cons (Weak.refl _) (.cons (Weak.refl _) (.cons (Weak.refl _) (.cons (Weak.refl _) (.cons (Weak.refl _) (.cons (boolOf_weak h0_5) (.cons (boolOf_weak h0_6) (.cons (Weak.refl _) (.cons (Weak.refl _) (.cons (asL_weak h0_9) .nil))))))))))) (.cons (Weak.refl _) .nil))
    · cases h

end Go.Proofs.YtgdcjefnhcamgaaDoor
