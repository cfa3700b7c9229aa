/-
  stake.Check, stake.Add; ref18.Check, Add.
-/
import Derived.Test.YtoiofigknkpieaaStake7
namespace Go.Proofs.Ytoiofigknkpieaa
open Go.Vm

/-- The first place at which stakes are not as they should be. -/
def badAt (l : List Stk) (n : Int) (i : Nat) : Bool := lastF (l.take (i + 1)) n != 0
def checkF (l : List Stk) (n : Int) : Int × Int :=
  if 400 < l.length then (0, 3) else match (List.range l.length).find? (badAt l n) with
    | some i => ((i : Int), lastF (l.take (i + 1)) n)
    | none => ((l.length : Int), 0)
def InvC (l : List Stk) (n : Int) (k : Int) : Prop := 0 ≤ k ∧ k ≤ l.length ∧ l.length ≤ 400 ∧ ∀ j : Nat, j < k.toNat → lastF (l.take (j + 1)) n = 0
theorem invC_b {l : List Stk} {n k : Int} (h : InvC l n k) : 0 ≤ k ∧ k ≤ l.length := ⟨h.1, h.2.1⟩
theorem invC_0 {l : List Stk} {n : Int} (h : l.length ≤ 400) : InvC l n 0 := ⟨by omega, by omega, h, fun j hj => by simp at hj⟩
theorem invC_s {l : List Stk} {n k : Int} (h : InvC l n k) (hk : k < l.length) (hr : lastF (l.take (k + 1).toNat) n = 0) : InvC l n (k + 1) := by
  obtain ⟨h1, h2, h4, h3⟩ := h
  refine ⟨by omega, by omega, h4, fun j hj => ?_⟩
  by_cases e : j < k.toNat
  · exact h3 j e
  · have : j + 1 = (k + 1).toNat := by omega
    rw [this]; exact hr
theorem checkF_bad {l : List Stk} {n k : Int} (h : InvC l n k) (hk : k < l.length) (hr : ¬ lastF (l.take (k + 1).toNat) n = 0) : checkF l n = (k, lastF (l.take (k + 1).toNat) n) := by
  obtain ⟨h1, h2, h4, h3⟩ := h
  have e : k.toNat + 1 = (k + 1).toNat := by omega
  have : (List.range l.length).find? (badAt l n) = some k.toNat := by
    rw [List.find?_range_eq_some]
    refine ⟨by simp only [badAt, bne_iff_ne, ne_eq]; rw [e]; exact hr, List.mem_range.2 (by omega), fun j hj => by simp [badAt, h3 j hj]⟩
  unfold checkF
  rw [if_neg (by omega), this]
  simp only [e]
  congr 1
  omega
theorem checkF_good {l : List Stk} {n k : Int} (h : InvC l n k) (hk : ¬ k < l.length) : checkF l n = ((l.length : Int), 0) := by
  obtain ⟨h1, h2, h4, h3⟩ := h
  have : (List.range l.length).find? (badAt l n) = none := by
    rw [List.find?_eq_none]
    intro j hj
    have := List.mem_range.1 hj
    simp [badAt, h3 j (by omega)]
  unfold checkF
  rw [if_neg (by omega), this]

noncomputable def env_check (l : List Stk) (n : Int) : Env where
  P := Try.prog
  ty := tys
  specs := specsOf [sp_last]
  heads := fun
    | 4 => some { slots := [(13, .int .i64)], boxes := [], inv := fun _ (x : Int × Unit) => InvC l n x.1, measure := fun _ (x : Int × Unit) => (l.length - x.1).toNat }
    | _ => none
noncomputable def g_check (l : List Stk) (n : Int) : Prop := vc (env_check l n) (codeOf Try.f12) (start0 Try.f12 [.list .tmp STy l, .int .i64 n]) (exitK (tsOf Try.f12) [.int .i64, .int .i64] ((checkF l n).1, (checkF l n).2, ()))
def g_check_vc (l : List Stk) (n : Int) : Prop :=
  (decide ((400 : Int) < (↑l.length : Int)) = true → ((0 : Int), (3 : Int), ()) = ((checkF l n).fst, (checkF l n).snd, ())) ∧
  (decide ((400 : Int) < (↑l.length : Int)) = false →
    (True ∧ InvC l n (0 : Int)) ∧
      ∀ (x : Int × Unit),
        InvC l n x.fst →
          (decide (x.fst < (↑l.length : Int)) = true →
              ((-9223372036854775808 : Int) ≤ x.fst + (1 : Int) ∧ x.fst + (1 : Int) ≤ (9223372036854775807 : Int)) ∧
                ((0 : Int) ≤ x.fst + (1 : Int) ∧ x.fst + (1 : Int) ≤ (↑l.length : Int)) ∧
                  ((0 : Nat) < (List.take (x.fst + (1 : Int)).toNat l).length ∧ (List.take (x.fst + (1 : Int)).toNat l).length ≤ (1000000000 : Nat)) ∧
                    ((!decide (lastF (List.take (x.fst + (1 : Int)).toNat l) n = (0 : Int))) = true →
                        (x.fst, lastF (List.take (x.fst + (1 : Int)).toNat l) n, ()) = ((checkF l n).fst, (checkF l n).snd, ())) ∧
                      ((!decide (lastF (List.take (x.fst + (1 : Int)).toNat l) n = (0 : Int))) = false →
                        ((-9223372036854775808 : Int) ≤ x.fst + (1 : Int) ∧ x.fst + (1 : Int) ≤ (9223372036854775807 : Int)) ∧
                          True ∧ InvC l n (x.fst + (1 : Int)) ∧ ((↑l.length : Int) - (x.fst + (1 : Int))).toNat < ((↑l.length : Int) - x.fst).toNat)) ∧
            (decide (x.fst < (↑l.length : Int)) = false → ((↑l.length : Int), (0 : Int), ()) = ((checkF l n).fst, (checkF l n).snd, ())))

theorem g_check_eq (l : List Stk) (n : Int) : g_check l n = g_check_vc l n := by kernel_rfl
noncomputable def env_refCheck (l : List Stk) (n : Int) : Env where
  P := Try.prog
  ty := tys
  specs := specsOf [sp_refLast]
  heads := fun
    | 4 => some { slots := [(6, .int .i64)], boxes := [], inv := fun _ (x : Int × Unit) => InvC l n x.1, measure := fun _ (x : Int × Unit) => (l.length - x.1).toNat }
    | _ => none
noncomputable def g_refCheck (l : List Stk) (n : Int) : Prop := vc (env_refCheck l n) (codeOf Try.f13) (start0 Try.f13 [.list .tmp STy l, .int .i64 n]) (exitK (tsOf Try.f13) [.int .i64, .int .i64] ((checkF l n).1, (checkF l n).2, ()))
def g_refCheck_vc (l : List Stk) (n : Int) : Prop :=
  (decide ((400 : Int) < (↑l.length : Int)) = true → ((0 : Int), (3 : Int), ()) = ((checkF l n).fst, (checkF l n).snd, ())) ∧
  (decide ((400 : Int) < (↑l.length : Int)) = false →
    (True ∧ InvC l n (0 : Int)) ∧
      ∀ (x : Int × Unit),
        InvC l n x.fst →
          (decide (x.fst < (↑l.length : Int)) = true →
              ((-9223372036854775808 : Int) ≤ x.fst + (1 : Int) ∧ x.fst + (1 : Int) ≤ (9223372036854775807 : Int)) ∧
                ((0 : Int) ≤ x.fst + (1 : Int) ∧ x.fst + (1 : Int) ≤ (↑l.length : Int)) ∧
                  ((0 : Nat) < (List.take (x.fst + (1 : Int)).toNat l).length ∧ (List.take (x.fst + (1 : Int)).toNat l).length ≤ (1000000000 : Nat)) ∧
                    ((!decide (lastF (List.take (x.fst + (1 : Int)).toNat l) n = (0 : Int))) = true →
                        (x.fst, lastF (List.take (x.fst + (1 : Int)).toNat l) n, ()) = ((checkF l n).fst, (checkF l n).snd, ())) ∧
                      ((!decide (lastF (List.take (x.fst + (1 : Int)).toNat l) n = (0 : Int))) = false →
                        ((-9223372036854775808 : Int) ≤ x.fst + (1 : Int) ∧ x.fst + (1 : Int) ≤ (9223372036854775807 : Int)) ∧
                          True ∧ InvC l n (x.fst + (1 : Int)) ∧ ((↑l.length : Int) - (x.fst + (1 : Int))).toNat < ((↑l.length : Int) - x.fst).toNat)) ∧
            (decide (x.fst < (↑l.length : Int)) = false → ((↑l.length : Int), (0 : Int), ()) = ((checkF l n).fst, (checkF l n).snd, ())))

theorem g_refCheck_eq (l : List Stk) (n : Int) : g_refCheck l n = g_refCheck_vc l n := by kernel_rfl

/-! Add -/
def addF (l : List Stk) (s : Stk) (n : Int) : List Stk × Int :=
  if 400 ≤ l.length then ([], 3) else if lastF (l ++ [s]) n = 0 then (l ++ [s], 0) else ([], lastF (l ++ [s]) n)
noncomputable def env_add (_l : List Stk) (_a _b _c _d : Int) (_n : Int) : Env where
  P := Try.prog
  ty := tys
  specs := specsOf [sp_last, sp_clone]
noncomputable def g_add (l : List Stk) (a b c d : Int) (n : Int) : Prop := vc (env_add l a b c d n) (codeOf Try.f9) (start0 Try.f9 [.list .tmp STy l, .agg [.int .i64 a, .int .i64 b, .int .i64 c, .int .i64 d], .int .i64 n]) (exitK (tsOf Try.f9) [.list .part STy, .int .i64] ((addF l (a, b, c, d) n).1, (addF l (a, b, c, d) n).2, ()))
def g_add_vc (l : List Stk) (a : Int) (b : Int) (c : Int) (d : Int) (n : Int) : Prop :=
  (decide ((400 : Int) ≤ (↑l.length : Int)) = true → ([], (3 : Int), ()) = ((addF l (a, b, c, d) n).fst, (addF l (a, b, c, d) n).snd, ())) ∧
  (decide ((400 : Int) ≤ (↑l.length : Int)) = false →
    l.length ≤ (1000000000 : Nat) ∧
      ((l.length + (1 : Nat)) * (32 : Nat) ≤ (140737488355328 : Nat) ∧ l.length + (1 : Nat) ≤ (4611686018427387904 : Nat)) ∧
        ((0 : Nat) < (l ++ [(a, b, c, d)]).length ∧ (l ++ [(a, b, c, d)]).length ≤ (1000000000 : Nat)) ∧
          ((!decide (lastF (l ++ [(a, b, c, d)]) n = (0 : Int))) = true → ([], lastF (l ++ [(a, b, c, d)]) n, ()) = ((addF l (a, b, c, d) n).fst, (addF l (a, b, c, d) n).snd, ())) ∧
            ((!decide (lastF (l ++ [(a, b, c, d)]) n = (0 : Int))) = false → (l ++ [(a, b, c, d)], (0 : Int), ()) = ((addF l (a, b, c, d) n).fst, (addF l (a, b, c, d) n).snd, ())))

theorem g_add_eq (l : List Stk) (a b c d : Int) (n : Int) : g_add l a b c d n = g_add_vc l a b c d n := by kernel_rfl
noncomputable def env_refAdd (_l : List Stk) (_a _b _c _d : Int) (_n : Int) : Env where
  P := Try.prog
  ty := tys
  specs := specsOf [sp_refLast]
noncomputable def g_refAdd (l : List Stk) (a b c d : Int) (n : Int) : Prop := vc (env_refAdd l a b c d n) (codeOf Try.f10) (start0 Try.f10 [.list .tmp STy l, .agg [.int .i64 a, .int .i64 b, .int .i64 c, .int .i64 d], .int .i64 n]) (exitK (tsOf Try.f10) [.list .part STy, .int .i64] ((addF l (a, b, c, d) n).1, (addF l (a, b, c, d) n).2, ()))
def g_refAdd_vc (l : List Stk) (a : Int) (b : Int) (c : Int) (d : Int) (n : Int) : Prop :=
  (decide ((400 : Int) ≤ (↑l.length : Int)) = true → ([], (3 : Int), ()) = ((addF l (a, b, c, d) n).fst, (addF l (a, b, c, d) n).snd, ())) ∧
  (decide ((400 : Int) ≤ (↑l.length : Int)) = false →
    (((0 : Nat) + l.length) * (32 : Nat) ≤ (140737488355328 : Nat) ∧ (0 : Nat) + l.length ≤ (4611686018427387904 : Nat) ∧ ((0 : Nat) < l.length ∨ (0 : Nat) = (0 : Nat))) ∧
      ((l.length + (1 : Nat)) * (32 : Nat) ≤ (140737488355328 : Nat) ∧ l.length + (1 : Nat) ≤ (4611686018427387904 : Nat)) ∧
        ((0 : Nat) < (l ++ [(a, b, c, d)]).length ∧ (l ++ [(a, b, c, d)]).length ≤ (1000000000 : Nat)) ∧
          ((!decide (lastF (l ++ [(a, b, c, d)]) n = (0 : Int))) = true → ([], lastF (l ++ [(a, b, c, d)]) n, ()) = ((addF l (a, b, c, d) n).fst, (addF l (a, b, c, d) n).snd, ())) ∧
            ((!decide (lastF (l ++ [(a, b, c, d)]) n = (0 : Int))) = false → (l ++ [(a, b, c, d)], (0 : Int), ()) = ((addF l (a, b, c, d) n).fst, (addF l (a, b, c, d) n).snd, ())))

theorem g_refAdd_eq (l : List Stk) (a b c d : Int) (n : Int) : g_refAdd l a b c d n = g_refAdd_vc l a b c d n := by kernel_rfl
theorem g_check_ok (l : List Stk) (n : Int) (h : l.length ≤ 1000000000) : g_check_vc l n := by
  unfold g_check_vc
  simp only [decide_eq_true_eq, decide_eq_false_iff_not, Bool.not_eq_true', Bool.not_eq_false', true_and, List.length_take]
  refine ⟨fun hc => ?_, fun hc => ⟨invC_0 (by omega), ?_⟩⟩
  · rw [checkF, if_pos (by omega)]
  rintro ⟨k, _⟩ hI
  have hb := invC_b hI
  simp only at hI hb ⊢
  refine ⟨fun hk => ⟨by omega, by omega, by omega, fun hr => ?_, fun hr => ⟨by omega, invC_s hI hk hr, by omega⟩⟩, fun hk => ?_⟩
  · rw [checkF_bad hI hk hr]
  · rw [checkF_good hI hk]
theorem check_pure (l : List Stk) (n : Int) (h : l.length ≤ 1000000000) : Pure Try.prog 12 [.list .tmp STy l, .int .i64 n] (.tuple [.int .i64 (checkF l n).1, .int .i64 (checkF l n).2]) :=
  Pure.of_vc (E := env_check l n) (ts := tsOf Try.f12) (ps := [.int .i64, .int .i64]) (r := ((checkF l n).1, (checkF l n).2, ())) (fn := Try.f12) (c := codeOf Try.f12) (specs_ok (P := Try.prog) rfl [sp_last] [] rfl rfl) mixed Try.func12 rfl rfl (by
    have := g_check_ok l n h
    rw [← g_check_eq] at this
    exact this)
def q_check (l : List Stk) (n : Int) : Prop × V := (l.length ≤ 1000000000, (.tuple [.int .i64 (checkF l n).1, .int .i64 (checkF l n).2]))
noncomputable def sp_check : FSpec Try.prog where
  f := 12
  run := fun args => match args with
    | [v0, .int .i64 n] => (match (asL STy v0 : Option (List Stk)) with | some l => some (q_check l n) | none => none)
    | _ => none
  ok := fun args pre r h hp => by
    try dsimp only at h
    split at h
    · rename_i v0 n
      cases h0 : (asL STy v0 : Option (List Stk)) with
      | none => rw [h0] at h; cases h
      | some l =>
      rw [h0] at h
      try dsimp only at h
      have h := Option.some.inj h
      unfold q_check at h
      cases h
      exact (check_pure l n hp).weak (.cons (asL_weak h0) (.cons (Weak.refl _) .nil))
    · cases h
theorem g_refCheck_ok (l : List Stk) (n : Int) (h : l.length ≤ 1000000000) : g_refCheck_vc l n := by
  unfold g_refCheck_vc
  simp only [decide_eq_true_eq, decide_eq_false_iff_not, Bool.not_eq_true', Bool.not_eq_false', true_and, List.length_take]
  refine ⟨fun hc => ?_, fun hc => ⟨invC_0 (by omega), ?_⟩⟩
  · rw [checkF, if_pos (by omega)]
  rintro ⟨k, _⟩ hI
  have hb := invC_b hI
  simp only at hI hb ⊢
  refine ⟨fun hk => ⟨by omega, by omega, by omega, fun hr => ?_, fun hr => ⟨by omega, invC_s hI hk hr, by omega⟩⟩, fun hk => ?_⟩
  · rw [checkF_bad hI hk hr]
  · rw [checkF_good hI hk]
theorem refCheck_pure (l : List Stk) (n : Int) (h : l.length ≤ 1000000000) : Pure Try.prog 13 [.list .tmp STy l, .int .i64 n] (.tuple [.int .i64 (checkF l n).1, .int .i64 (checkF l n).2]) :=
  Pure.of_vc (E := env_refCheck l n) (ts := tsOf Try.f13) (ps := [.int .i64, .int .i64]) (r := ((checkF l n).1, (checkF l n).2, ())) (fn := Try.f13) (c := codeOf Try.f13) (specs_ok (P := Try.prog) rfl [sp_refLast] [] rfl rfl) mixed Try.func13 rfl rfl (by
    have := g_refCheck_ok l n h
    rw [← g_refCheck_eq] at this
    exact this)
def q_refCheck (l : List Stk) (n : Int) : Prop × V := (l.length ≤ 1000000000, (.tuple [.int .i64 (checkF l n).1, .int .i64 (checkF l n).2]))
noncomputable def sp_refCheck : FSpec Try.prog where
  f := 13
  run := fun args => match args with
    | [v0, .int .i64 n] => (match (asL STy v0 : Option (List Stk)) with | some l => some (q_refCheck l n) | none => none)
    | _ => none
  ok := fun args pre r h hp => by
    try dsimp only at h
    split at h
    · rename_i v0 n
      cases h0 : (asL STy v0 : Option (List Stk)) with
      | none => rw [h0] at h; cases h
      | some l =>
      rw [h0] at h
      try dsimp only at h
      have h := Option.some.inj h
      unfold q_refCheck at h
      cases h
      exact (refCheck_pure l n hp).weak (.cons (asL_weak h0) (.cons (Weak.refl _) .nil))
    · cases h
theorem g_add_ok (l : List Stk) (a b c d : Int) (n : Int) (h : l.length ≤ 1000000000) : g_add_vc l a b c d n := by
  unfold g_add_vc
  simp only [decide_eq_true_eq, decide_eq_false_iff_not, Bool.not_eq_true', Bool.not_eq_false', List.length_append, List.length_singleton]
  refine ⟨fun hc => ?_, fun hc => ⟨h, by omega, by omega, fun hr => ?_, fun hr => ?_⟩⟩
  · rw [addF, if_pos (by omega)]
  · rw [addF, if_neg (by omega), if_neg hr]
  · rw [addF, if_neg (by omega), if_pos hr]
theorem add_pure (l : List Stk) (a b c d : Int) (n : Int) (h : l.length ≤ 1000000000) : Pure Try.prog 9 [.list .tmp STy l, .agg [.int .i64 a, .int .i64 b, .int .i64 c, .int .i64 d], .int .i64 n] (.tuple [.list .part STy (addF l (a, b, c, d) n).1, .int .i64 (addF l (a, b, c, d) n).2]) :=
  Pure.of_vc (E := env_add l a b c d n) (ts := tsOf Try.f9) (ps := [.list .part STy, .int .i64]) (r := ((addF l (a, b, c, d) n).1, (addF l (a, b, c, d) n).2, ())) (fn := Try.f9) (c := codeOf Try.f9) (specs_ok (P := Try.prog) rfl [sp_last, sp_clone] [] rfl rfl) mixed Try.func9 rfl rfl (by
    have := g_add_ok l a b c d n h
    rw [← g_add_eq] at this
    exact this)
def q_add (l : List Stk) (a b c d : Int) (n : Int) : Prop × V := (l.length ≤ 1000000000, (.tuple [.list .part STy (addF l (a, b, c, d) n).1, .int .i64 (addF l (a, b, c, d) n).2]))
noncomputable def sp_add : FSpec Try.prog where
  f := 9
  run := fun args => match args with
    | [v0, .agg [.int .i64 a, .int .i64 b, .int .i64 c, .int .i64 d], .int .i64 n] => (match (asL STy v0 : Option (List Stk)) with | some l => some (q_add l a b c d n) | none => none)
    | _ => none
  ok := fun args pre r h hp => by
    try dsimp only at h
    split at h
    · rename_i v0 a b c d n
      cases h0 : (asL STy v0 : Option (List Stk)) with
      | none => rw [h0] at h; cases h
      | some l =>
      rw [h0] at h
      try dsimp only at h
      have h := Option.some.inj h
      unfold q_add at h
      cases h
      exact (add_pure l a b c d n hp).weak (.cons (asL_weak h0) (.cons (Weak.refl _) (.cons (Weak.refl _) .nil)))
    · cases h
theorem g_refAdd_ok (l : List Stk) (a b c d : Int) (n : Int) (h : l.length ≤ 1000000000) : g_refAdd_vc l a b c d n := by
  unfold g_refAdd_vc
  simp only [decide_eq_true_eq, decide_eq_false_iff_not, Bool.not_eq_true', Bool.not_eq_false', List.length_append, List.length_singleton]
  refine ⟨fun hc => ?_, fun hc => ⟨⟨by omega, by omega, .inr trivial⟩, by omega, by omega, fun hr => ?_, fun hr => ?_⟩⟩
  · rw [addF, if_pos (by omega)]
  · rw [addF, if_neg (by omega), if_neg hr]
  · rw [addF, if_neg (by omega), if_pos hr]
theorem refAdd_pure (l : List Stk) (a b c d : Int) (n : Int) (h : l.length ≤ 1000000000) : Pure Try.prog 10 [.list .tmp STy l, .agg [.int .i64 a, .int .i64 b, .int .i64 c, .int .i64 d], .int .i64 n] (.tuple [.list .part STy (addF l (a, b, c, d) n).1, .int .i64 (addF l (a, b, c, d) n).2]) :=
  Pure.of_vc (E := env_refAdd l a b c d n) (ts := tsOf Try.f10) (ps := [.list .part STy, .int .i64]) (r := ((addF l (a, b, c, d) n).1, (addF l (a, b, c, d) n).2, ())) (fn := Try.f10) (c := codeOf Try.f10) (specs_ok (P := Try.prog) rfl [sp_refLast] [] rfl rfl) mixed Try.func10 rfl rfl (by
    have := g_refAdd_ok l a b c d n h
    rw [← g_refAdd_eq] at this
    exact this)
def q_refAdd (l : List Stk) (a b c d : Int) (n : Int) : Prop × V := (l.length ≤ 1000000000, (.tuple [.list .part STy (addF l (a, b, c, d) n).1, .int .i64 (addF l (a, b, c, d) n).2]))
noncomputable def sp_refAdd : FSpec Try.prog where
  f := 10
  run := fun args => match args with
    | [v0, .agg [.int .i64 a, .int .i64 b, .int .i64 c, .int .i64 d], .int .i64 n] => (match (asL STy v0 : Option (List Stk)) with | some l => some (q_refAdd l a b c d n) | none => none)
    | _ => none
  ok := fun args pre r h hp => by
    try dsimp only at h
    split at h
    · rename_i v0 a b c d n
      cases h0 : (asL STy v0 : Option (List Stk)) with
      | none => rw [h0] at h; cases h
      | some l =>
      rw [h0] at h
      try dsimp only at h
      have h := Option.some.inj h
      unfold q_refAdd at h
      cases h
      exact (refAdd_pure l a b c d n hp).weak (.cons (asL_weak h0) (.cons (Weak.refl _) (.cons (Weak.refl _) .nil)))
    · cases h

end Go.Proofs.Ytoiofigknkpieaa
