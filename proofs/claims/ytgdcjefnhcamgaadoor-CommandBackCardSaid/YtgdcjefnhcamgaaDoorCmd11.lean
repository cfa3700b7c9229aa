/-
  command: what is the same; some answers; CommandTells, CommandReads: the walks.
-/
import Derived.Test.YtgdcjefnhcamgaaDoorCmd10
namespace Go.Proofs.YtgdcjefnhcamgaaDoor
open Go.Vm

def sameE (p r : Int) (L : List LnD) (q s : Int) (M : List LnD) : Bool := decide (p = q ∧ r = s ∧ L = M)
noncomputable def env_same (p r q s : Int) (L M : List LnD) : Env where
  P := Tryd.prog
  ty := tys0
  heads := fun
    | 4 => some { slots := [(5, .int .i64)], boxes := [], keep := [2, 3], inv := fun _ (x : Int × Unit) => 0 ≤ x.1 ∧ x.1 ≤ L.length ∧ L.length = M.length ∧ p = q ∧ r = s ∧ L.take x.1.toNat = M.take x.1.toNat, measure := fun _ (x : Int × Unit) => (L.length - x.1).toNat }
    | _ => none
noncomputable def g_same (p r q s : Int) (L M : List LnD) : Prop := vc (env_same p r q s L M) (codeOf Tryd.f33) (start0 Tryd.f33 [.agg [.int .i64 p, .int .i64 r, .list .tmp Ln L], .agg [.int .i64 q, .int .i64 s, .list .tmp Ln M]]) (exitK (tsOf Tryd.f33) [.bool] (sameE p r L q s M, ()))
def g_same_vc (p : Int) (r : Int) (q : Int) (s : Int) (L : List LnD) (M : List LnD) : Prop :=
  ((!decide (p = q)) = false → ((!decide (r = s)) = false → ((!decide ((↑L.length : Int) = (↑M.length : Int))) = true → (false, ()) = (sameE p r L q s M, ())) ∧ ((!decide ((↑L.length : Int) = (↑M.length : Int))) = false → ((some (Obj.box [V.int IntKind.i64 p, V.int IntKind.i64 r, V.list LK.tmp Ln L]) = some (Obj.box [V.int IntKind.i64 p, V.int IntKind.i64 r, V.list LK.tmp Ln L]) ∧ some (Obj.box [V.int IntKind.i64 q, V.int IntKind.i64 s, V.list LK.tmp Ln M]) = some (Obj.box [V.int IntKind.i64 q, V.int IntKind.i64 s, V.list LK.tmp Ln M]) ∧ True) ∧ (0 : Int) ≤ (0 : Int) ∧ (0 : Int) ≤ (↑L.length : Int) ∧ L.length = M.length ∧ p = q ∧ r = s ∧ List.take (Int.toNat (0 : Int)) L = List.take (Int.toNat (0 : Int)) M) ∧ ∀ (x : Int × Unit), (0 : Int) ≤ x.fst ∧ x.fst ≤ (↑L.length : Int) ∧ L.length = M.length ∧ p = q ∧ r = s ∧ List.take x.fst.toNat L = List.take x.fst.toNat M → (decide (x.fst < (↑L.length : Int)) = true → ((0 : Int) ≤ x.fst ∧ x.fst < (↑L.length : Int)) ∧ ∀ (x_1 : Int × Int × Int × Int), L[x.fst.toNat]? = some x_1 → ((0 : Int) ≤ x.fst ∧ x.fst < (↑M.length : Int)) ∧ ∀ (x_2 : Int × Int × Int × Int), M[x.fst.toNat]? = some x_2 → ((!(decide (x_1.fst = x_2.fst) && (decide (x_1.snd.fst = x_2.snd.fst) && (decide (x_1.snd.snd.fst = x_2.snd.snd.fst) && (decide (x_1.snd.snd.snd = x_2.snd.snd.snd) && true))))) = true → (false, ()) = (sameE p r L q s M, ())) ∧ ((!(decide (x_1.fst = x_2.fst) && (decide (x_1.snd.fst = x_2.snd.fst) && (decide (x_1.snd.snd.fst = x_2.snd.snd.fst) && (decide (x_1.snd.snd.snd = x_2.snd.snd.snd) && true))))) = false → ((-9223372036854775808 : Int) ≤ x.fst + (1 : Int) ∧ x.fst + (1 : Int) ≤ (9223372036854775807 : Int)) ∧ (some (Obj.box [V.int IntKind.i64 p, V.int IntKind.i64 r, V.list LK.tmp Ln L]) = some (Obj.box [V.int IntKind.i64 p, V.int IntKind.i64 r, V.list LK.tmp Ln L]) ∧ some (Obj.box [V.int IntKind.i64 q, V.int IntKind.i64 s, V.list LK.tmp Ln M]) = some (Obj.box [V.int IntKind.i64 q, V.int IntKind.i64 s, V.list LK.tmp Ln M]) ∧ True) ∧ ((0 : Int) ≤ x.fst + (1 : Int) ∧ x.fst + (1 : Int) ≤ (↑L.length : Int) ∧ L.length = M.length ∧ p = q ∧ r = s ∧ List.take (x.fst + (1 : Int)).toNat L = List.take (x.fst + (1 : Int)).toNat M) ∧ ((↑L.length : Int) - (x.fst + (1 : Int))).toNat < ((↑L.length : Int) - x.fst).toNat)) ∧ (decide (x.fst < (↑L.length : Int)) = false → (true, ()) = (sameE p r L q s M, ())))) ∧ ((!decide (r = s)) = !false → (false, ()) = (sameE p r L q s M, ()))) ∧ ((!decide (p = q)) = !false → (false, ()) = (sameE p r L q s M, ()))
theorem g_same_eq (p r q s : Int) (L M : List LnD) : g_same p r q s L M = g_same_vc p r q s L M := by kernel_rfl
theorem g_same_ok (p r q s : Int) (L M : List LnD) (h : L.length ≤ 1000000000) : g_same_vc p r q s L M := by
  unfold g_same_vc sameE
  have kf : ¬ (p = q ∧ r = s ∧ L = M) → (false, ()) = (decide (p = q ∧ r = s ∧ L = M), ()) := fun hn => by rw [decide_eq_false hn]
  simp only [decide_eq_true_eq, decide_eq_false_iff_not, Bool.not_eq_true', Bool.not_eq_false', Bool.not_false]
  refine ⟨fun c1 => ⟨fun c2 => ⟨fun c => kf fun e => c (by rw [e.2.2]), fun c => ⟨⟨⟨trivial, trivial, trivial⟩, by omega, by omega, by omega, c1, c2, by simp⟩, ?_⟩⟩, fun c2 => kf fun e => c2 e.2.1⟩, fun c1 => kf fun e => c1 e.1⟩
  rintro ⟨i, ⟨⟩⟩ ⟨h1, h2, h3, h4, h5, h6⟩
  dsimp only at h1 h2 h3 h6 ⊢
  refine ⟨fun c2 => ⟨⟨h1, c2⟩, fun x hx => ⟨⟨h1, by omega⟩, fun y hy => ⟨fun e => kf fun e2 => ?_, fun e => ⟨⟨by omega, by omega⟩, ⟨trivial, trivial, trivial⟩, ⟨by omega, by omega, h3, h4, h5, ?_⟩, by omega⟩⟩⟩⟩, fun c2 => ?_⟩
  · have exy : x = y := by
      obtain ⟨_, _, rfl⟩ := e2
      rw [hx] at hy; exact Option.some.inj hy
    subst exy
    simp at e
  · have exy : x = y := by
      obtain ⟨x1, x2, x3, x4⟩ := x
      obtain ⟨y1, y2, y3, y4⟩ := y
      simp only [Bool.and_eq_true, decide_eq_true_eq, and_true] at e
      obtain ⟨rfl, rfl, rfl, rfl⟩ := e
      rfl
    rw [show (i + 1).toNat = i.toNat + 1 by omega, List.take_add_one, List.take_add_one, hx, hy, h6, exy]
  · rw [List.take_of_length_le (by omega), List.take_of_length_le (by omega)] at h6
    rw [decide_eq_true ⟨h4, h5, h6⟩]
set_option maxRecDepth 20000 in
theorem same_pure (p r q s : Int) (L M : List LnD) (h : L.length ≤ 1000000000) : Pure Tryd.prog 33 [.agg [.int .i64 p, .int .i64 r, .list .tmp Ln L], .agg [.int .i64 q, .int .i64 s, .list .tmp Ln M]] (.bool (sameE p r L q s M)) :=
  Pure.of_g (E := env_same p r q s L M) (ts := tsOf Tryd.f33) (ps := [.bool]) (r := (sameE p r L q s M, ())) (fn := Tryd.f33) (c := codeOf Tryd.f33) (specs_ok (P := Tryd.prog) rfl [] [] rfl rfl) mixed Tryd.func33 rfl rfl (g := g_same p r q s L M) (by delta g_same start0; first | with_reducible exact Eq.refl _ | exact Eq.refl _) (by rw [g_same_eq p r q s L M]; exact g_same_ok p r q s L M h)
noncomputable def q_same (p r q s : Int) (L M : List LnD) : Prop × V := (L.length ≤ 1000000000, (.bool (sameE p r L q s M)))
noncomputable def sp_same : FSpec Tryd.prog where
  f := 33
  run := fun args => match args with
    | [.agg [.int .i64 p, .int .i64 r, v0_2], .agg [.int .i64 q, .int .i64 s, v1_2]] => (match (asL Ln v0_2 : Option (List LnD)) with | some L => (match (asL Ln v1_2 : Option (List LnD)) with | some M => some (q_same p r q s L M) | none => none) | none => none)
    | _ => none
  ok := fun args pre r h hp => by
    try dsimp only at h
    split at h
    · rename_i p r v0_2 q s v1_2
      cases h0_2 : (asL Ln v0_2 : Option (List LnD)) with
      | none => rw [h0_2] at h; cases h
      | some L =>
      rw [h0_2] at h
      try dsimp only at h
      cases h1_2 : (asL Ln v1_2 : Option (List LnD)) with
      | none => rw [h1_2] at h; cases h
      | some M =>
      rw [h1_2] at h
      try dsimp only at h
      have h := Option.some.inj h
      unfold q_same at h
      cases h
      exact (same_pure p r q s L M hp).weak (.cons (Weak.agg (.cons (Weak.refl _) (.cons (Weak.refl _) (.cons (asL_weak h0_2) .nil)))) (.cons (Weak.agg (.cons (Weak.refl _) (.cons (Weak.refl _) (.cons (asL_weak h1_2) .nil)))) .nil))
    · cases h

def sameC (c d : CmD) : Bool := decide (c.1 = d.1) && (decide (c.2.1 = d.2.1) && (decide (c.2.2.1 = d.2.2.1) && (decide (c.2.2.2.1 = d.2.2.2.1) && (decide (c.2.2.2.2.1 = d.2.2.2.2.1) && (decide (c.2.2.2.2.2.1 = d.2.2.2.2.2.1) && (decide (c.2.2.2.2.2.2.1 = d.2.2.2.2.2.2.1) &&
  (decide (c.2.2.2.2.2.2.2.1.1 = d.2.2.2.2.2.2.2.1.1) && (decide (c.2.2.2.2.2.2.2.1.2 = d.2.2.2.2.2.2.2.1.2) && decide (c.2.2.2.2.2.2.2.2 = d.2.2.2.2.2.2.2.2)))))))))
theorem sameC_iff (c d : CmD) : sameC c d = true ↔ c = d := by
  obtain ⟨k, a, b, c, e, s, p, ⟨n, m⟩, l⟩ := c
  obtain ⟨k', a', b', c', e', s', p', ⟨n', m'⟩, l'⟩ := d
  unfold sameC
  simp only [Bool.and_eq_true, decide_eq_true_eq, Prod.mk.injEq]
  constructor
  · rintro ⟨h1, h2, h3, h4, h5, h6, h7, h8, h9, h10⟩
    exact ⟨h1, h2, h3, h4, h5, h6, h7, ⟨h8, h9⟩, h10⟩
  · rintro ⟨h1, h2, h3, h4, h5, h6, h7, ⟨h8, h9⟩, h10⟩
    exact ⟨h1, h2, h3, h4, h5, h6, h7, h8, h9, h10⟩
theorem sameC_no {c d : CmD} (h : ¬ c = d) : sameC c d = false := Bool.eq_false_iff.2 fun e => h ((sameC_iff c d).1 e)
noncomputable def env_csame (k a b c d : Int) (s p : Bool) (n m : Int) (l : List LnD) (k' a' b' c' d' : Int) (s' p' : Bool) (n' m' : Int) (l' : List LnD) : Env where
  P := Tryd.prog
  ty := tys0
  specs := specsOf [sp_same]
noncomputable def g_csame (k a b c d : Int) (s p : Bool) (n m : Int) (l : List LnD) (k' a' b' c' d' : Int) (s' p' : Bool) (n' m' : Int) (l' : List LnD) : Prop := vc (env_csame k a b c d s p n m l k' a' b' c' d' s' p' n' m' l') (codeOf Tryd.f13) (start0 Tryd.f13 [.agg [.int .i64 k, .int .i64 a, .int .i64 b, .int .i64 c, .int .i64 d, .bool s, .bool p, .int .i64 n, .int .i64 m, .list .tmp Ln l], .agg [.int .i64 k', .int .i64 a', .int .i64 b', .int .i64 c', .int .i64 d', .bool s', .bool p', .int .i64 n', .int .i64 m', .list .tmp Ln l']]) (exitK (tsOf Tryd.f13) [.bool] (sameC (k, a, b, c, d, s, p, (n, m), l) (k', a', b', c', d', s', p', (n', m'), l'), ()))
def g_csame_vc (k : Int) (a : Int) (b : Int) (c : Int) (d : Int) (s : Bool) (p : Bool) (n : Int) (m : Int) (l : List LnD) (k' : Int) (a' : Int) (b' : Int) (c' : Int) (d' : Int) (s' : Bool) (p' : Bool) (n' : Int) (m' : Int) (l' : List LnD) : Prop :=
  (decide (k = k') = true → (decide (a = a') = true → (decide (b = b') = true → (decide (c = c') = true → (decide (d = d') = true → ((s == s') = true → ((p == p') = true → ((decide (n = n') && (decide (m = m') && true)) = true → l.length ≤ (1000000000 : Nat) ∧ (sameE (0 : Int) (0 : Int) l (0 : Int) (0 : Int) l', ()) = (sameC (k, a, b, c, d, s, p, (n, m), l) (k', a', b', c', d', s', p', (n', m'), l'), ())) ∧ ((decide (n = n') && (decide (m = m') && true)) = !true → (false, ()) = (sameC (k, a, b, c, d, s, p, (n, m), l) (k', a', b', c', d', s', p', (n', m'), l'), ()))) ∧ ((p == p') = !true → (false, ()) = (sameC (k, a, b, c, d, s, p, (n, m), l) (k', a', b', c', d', s', p', (n', m'), l'), ()))) ∧ ((s == s') = !true → (false, ()) = (sameC (k, a, b, c, d, s, p, (n, m), l) (k', a', b', c', d', s', p', (n', m'), l'), ()))) ∧ (decide (d = d') = !true → (false, ()) = (sameC (k, a, b, c, d, s, p, (n, m), l) (k', a', b', c', d', s', p', (n', m'), l'), ()))) ∧ (decide (c = c') = !true → (false, ()) = (sameC (k, a, b, c, d, s, p, (n, m), l) (k', a', b', c', d', s', p', (n', m'), l'), ()))) ∧ (decide (b = b') = !true → (false, ()) = (sameC (k, a, b, c, d, s, p, (n, m), l) (k', a', b', c', d', s', p', (n', m'), l'), ()))) ∧ (decide (a = a') = !true → (false, ()) = (sameC (k, a, b, c, d, s, p, (n, m), l) (k', a', b', c', d', s', p', (n', m'), l'), ()))) ∧ (decide (k = k') = !true → (false, ()) = (sameC (k, a, b, c, d, s, p, (n, m), l) (k', a', b', c', d', s', p', (n', m'), l'), ()))
theorem g_csame_eq (k a b c d : Int) (s p : Bool) (n m : Int) (l : List LnD) (k' a' b' c' d' : Int) (s' p' : Bool) (n' m' : Int) (l' : List LnD) : g_csame k a b c d s p n m l k' a' b' c' d' s' p' n' m' l' = g_csame_vc k a b c d s p n m l k' a' b' c' d' s' p' n' m' l' := by kernel_rfl
theorem g_csame_ok (k a b c d : Int) (s p : Bool) (n m : Int) (l : List LnD) (k' a' b' c' d' : Int) (s' p' : Bool) (n' m' : Int) (l' : List LnD) (h : l.length ≤ 1000000000) : g_csame_vc k a b c d s p n m l k' a' b' c' d' s' p' n' m' l' := by
  unfold g_csame_vc sameE sameC
  repeat' (first | with_reducible apply And.intro | intro _)
  all_goals try (first | trivial | omega)
  all_goals simp_all
set_option maxRecDepth 20000 in
theorem csame_pure (k a b c d : Int) (s p : Bool) (n m : Int) (l : List LnD) (k' a' b' c' d' : Int) (s' p' : Bool) (n' m' : Int) (l' : List LnD) (h : l.length ≤ 1000000000) : Pure Tryd.prog 13 [.agg [.int .i64 k, .int .i64 a, .int .i64 b, .int .i64 c, .int .i64 d, .bool s, .bool p, .int .i64 n, .int .i64 m, .list .tmp Ln l], .agg [.int .i64 k', .int .i64 a', .int .i64 b', .int .i64 c', .int .i64 d', .bool s', .bool p', .int .i64 n', .int .i64 m', .list .tmp Ln l']] (.bool (sameC (k, a, b, c, d, s, p, (n, m), l) (k', a', b', c', d', s', p', (n', m'), l'))) :=
  Pure.of_g (E := env_csame k a b c d s p n m l k' a' b' c' d' s' p' n' m' l') (ts := tsOf Tryd.f13) (ps := [.bool]) (r := (sameC (k, a, b, c, d, s, p, (n, m), l) (k', a', b', c', d', s', p', (n', m'), l'), ())) (fn := Tryd.f13) (c := codeOf Tryd.f13) (specs_ok (P := Tryd.prog) rfl [sp_same] [] rfl rfl) mixed Tryd.func13 rfl rfl (g := g_csame k a b c d s p n m l k' a' b' c' d' s' p' n' m' l') (by delta g_csame start0; first | with_reducible exact Eq.refl _ | exact Eq.refl _) (by rw [g_csame_eq k a b c d s p n m l k' a' b' c' d' s' p' n' m' l']; exact g_csame_ok k a b c d s p n m l k' a' b' c' d' s' p' n' m' l' h)
noncomputable def q_csame (k a b c d : Int) (s p : Bool) (n m : Int) (l : List LnD) (k' a' b' c' d' : Int) (s' p' : Bool) (n' m' : Int) (l' : List LnD) : Prop × V := (l.length ≤ 1000000000, (.bool (sameC (k, a, b, c, d, s, p, (n, m), l) (k', a', b', c', d', s', p', (n', m'), l'))))
noncomputable def sp_csame : FSpec Tryd.prog where
  f := 13
  run := fun args => match args with
    | [.agg [.int .i64 k, .int .i64 a, .int .i64 b, .int .i64 c, .int .i64 d, v0_5, v0_6, .int .i64 n, .int .i64 m, v0_9], .agg [.int .i64 k', .int .i64 a', .int .i64 b', .int .i64 c', .int .i64 d', v1_5, v1_6, .int .i64 n', .int .i64 m', v1_9]] => (match boolOf v0_5 with | some s => (match boolOf v0_6 with | some p => (match (asL Ln v0_9 : Option (List LnD)) with | some l => (match boolOf v1_5 with | some s' => (match boolOf v1_6 with | some p' => (match (asL Ln v1_9 : Option (List LnD)) with | some l' => some (q_csame k a b c d s p n m l k' a' b' c' d' s' p' n' m' l') | none => none) | none => none) | none => none) | none => none) | none => none) | none => none)
    | _ => none
  ok := fun args pre r h hp => by
    try dsimp only at h
    split at h
    · rename_i k a b c d v0_5 v0_6 n m v0_9 k' a' b' c' d' v1_5 v1_6 n' m' v1_9
      cases h0_5 : boolOf v0_5 with
      | none => rw [h0_5] at h; cases h
      | some s =>
      rw [h0_5] at h
      try dsimp only at h
      cases h0_6 : boolOf v0_6 with
      | none => rw [h0_6] at h; cases h
      | some p =>
      rw [h0_6] at h
      try dsimp only at h
      cases h0_9 : (asL Ln v0_9 : Option (List LnD)) with
      | none => rw [h0_9] at h; cases h
      | some l =>
      rw [h0_9] at h
      try dsimp only at h
      cases h1_5 : boolOf v1_5 with
      | none => rw [h1_5] at h; cases h
      | some s' =>
      rw [h1_5] at h
      try dsimp only at h
      cases h1_6 : boolOf v1_6 with
      | none => rw [h1_6] at h; cases h
      | some p' =>
      rw [h1_6] at h
      try dsimp only at h
      cases h1_9 : (asL Ln v1_9 : Option (List LnD)) with
      | none => rw [h1_9] at h; cases h
      | some l' =>
      rw [h1_9] at h
      try dsimp only at h
      have h := Option.some.inj h
      unfold q_csame at h
      cases h
      exact (csame_pure k a b c d s p n m l _ _ _ _ _ _ _ _ _ _ hp).weak (.cons (Weak.agg (.cons (Weak.refl _) (.cons (Weak.refl _) (.cons (Weak.refl _) (.cons (Weak.refl _) (.cons (Weak.refl _) (.cons (boolOf_weak h0_5) (.cons (boolOf_weak h0_6) (.cons (Weak.refl _) (.cons (Weak.refl _) (.cons (asL_weak h0_9) .nil))))))))))) (.cons (Weak.agg (.cons (Weak.refl _) (.cons (Weak.refl _) (.cons (Weak.refl _) (.cons (Weak.refl _) (.cons (Weak.refl _) (.cons (boolOf_weak h1_5) (.cons (boolOf_weak h1_6) (.cons (Weak.refl _) (.cons (Weak.refl _) (.cons (asL_weak h1_9) .nil))))))))))) .nil))
    · cases h

noncomputable def env_post : Env where
  P := Tryd.prog
  ty := tys0
def postL : List LnD := [(1, 4, 0, 500), (1, 5, 2, -500)]
def postC : CmD := (7, 3, 0, 0, 0, false, false, (0, 0), postL)
abbrev ann_post : Ann := { slots := numP 0 [.int .i64, .int .i64, .int .i64, .int .i64, .int .i64, .bool, .bool, .int .i64, .int .i64, .list .part Ln], boxes := [], inv := fun _ _ => True }
noncomputable def g_post  : Prop := vc (env_post ) (codeOf Tryd.f14) (start0 Tryd.f14 []) (exitG (env_post ).P Tryd.f14.results.toList [some 10] (env_post ).pins ann_post (postC.1, postC.2.1, postC.2.2.1, postC.2.2.2.1, postC.2.2.2.2.1, postC.2.2.2.2.2.1, postC.2.2.2.2.2.2.1, postC.2.2.2.2.2.2.2.1.1, postC.2.2.2.2.2.2.2.1.2, postC.2.2.2.2.2.2.2.2, ()))
def g_post_vc : Prop :=
  True ∧ ((7 : Int), (3 : Int), (0 : Int), (0 : Int), (0 : Int), false, false, (0 : Int), (0 : Int), [((1 : Int), (4 : Int), (0 : Int), (500 : Int)), ((1 : Int), (5 : Int), (2 : Int), (-500 : Int))], ()) = (postC.fst, postC.snd.fst, postC.snd.snd.fst, postC.snd.snd.snd.fst, postC.snd.snd.snd.snd.fst, postC.snd.snd.snd.snd.snd.fst, postC.snd.snd.snd.snd.snd.snd.fst, postC.snd.snd.snd.snd.snd.snd.snd.fst.fst, postC.snd.snd.snd.snd.snd.snd.snd.fst.snd, postC.snd.snd.snd.snd.snd.snd.snd.snd, ())
theorem g_post_eq  : g_post  = g_post_vc  := by kernel_rfl
theorem g_post_ok : g_post_vc := by
  exact ⟨trivial, rfl⟩
set_option maxRecDepth 20000 in
theorem post_pure  : Pure Tryd.prog 14 [] (.agg [.int .i64 postC.1, .int .i64 postC.2.1, .int .i64 postC.2.2.1, .int .i64 postC.2.2.2.1, .int .i64 postC.2.2.2.2.1, .bool postC.2.2.2.2.2.1, .bool postC.2.2.2.2.2.2.1, .int .i64 postC.2.2.2.2.2.2.2.1.1, .int .i64 postC.2.2.2.2.2.2.2.1.2, .list .part Ln postC.2.2.2.2.2.2.2.2]) :=
  Pure.of_gG (E := env_post ) (sh := [some 10]) (ann := ann_post) (x := (postC.1, postC.2.1, postC.2.2.1, postC.2.2.2.1, postC.2.2.2.2.1, postC.2.2.2.2.2.1, postC.2.2.2.2.2.2.1, postC.2.2.2.2.2.2.2.1.1, postC.2.2.2.2.2.2.2.1.2, postC.2.2.2.2.2.2.2.2, ())) (fn := Tryd.f14) (c := codeOf Tryd.f14) (specs_ok (P := Tryd.prog) rfl [] [] rfl rfl) mixed Tryd.func14 rfl rfl rfl rfl rfl (g := g_post ) (by delta g_post start0; first | with_reducible exact Eq.refl _ | exact Eq.refl _) (by rw [g_post_eq ]; exact g_post_ok )
noncomputable def q_post  : Prop × V := (True, (.agg [.int .i64 postC.1, .int .i64 postC.2.1, .int .i64 postC.2.2.1, .int .i64 postC.2.2.2.1, .int .i64 postC.2.2.2.2.1, .bool postC.2.2.2.2.2.1, .bool postC.2.2.2.2.2.2.1, .int .i64 postC.2.2.2.2.2.2.2.1.1, .int .i64 postC.2.2.2.2.2.2.2.1.2, .list .part Ln postC.2.2.2.2.2.2.2.2]))
noncomputable def sp_post : FSpec Tryd.prog where
  f := 14
  run := fun args => match args with
    | [] => some (q_post )
    | _ => none
  ok := fun args pre r h hp => by
    try dsimp only at h
    split at h
    ·
      have h := Option.some.inj h
      unfold q_post at h
      cases h
      exact (post_pure ).weak .nil
    · cases h

noncomputable def env_awake : Env where
  P := Tryd.prog
  ty := tys0
  specs := specsOf [sp_post, sp_print, sp_cparse, sp_csame, sp_check]
  frz := fun | 59 => true | 60 => true | 69 => true | 96 => true | 97 => true | 102 => true | _ => false
noncomputable def g_awake  : Prop := vc (env_awake ) (codeOf Tryd.f6) (start0 Tryd.f6 []) (exitK (tsOf Tryd.f6) [.bool] (true, ()))
def g_awake_vc : Prop :=
  True ∧ InC (postC.fst, postC.snd.fst, postC.snd.snd.fst, postC.snd.snd.snd.fst, postC.snd.snd.snd.snd.fst, postC.snd.snd.snd.snd.snd.fst, postC.snd.snd.snd.snd.snd.snd.fst, (postC.snd.snd.snd.snd.snd.snd.snd.fst.fst, postC.snd.snd.snd.snd.snd.snd.snd.fst.snd), postC.snd.snd.snd.snd.snd.snd.snd.snd) ∧ (29 : Nat) ≤ (10000 : Nat) ∧ (15 : Nat) ≤ (10000 : Nat) ∧ (9 : Nat) ≤ (10000 : Nat) ∧ (10 : Nat) ≤ (10000 : Nat) ∧ (5 : Nat) ≤ (10000 : Nat) ∧ (3 : Nat) ≤ (10000 : Nat) ∧ InC ((6 : Int), (0 : Int), (0 : Int), (1 : Int), (0 : Int), false, false, ((0 : Int), (0 : Int)), []) ∧ (decide ((printF (postC.fst, postC.snd.fst, postC.snd.snd.fst, postC.snd.snd.snd.fst, postC.snd.snd.snd.snd.fst, postC.snd.snd.snd.snd.snd.fst, postC.snd.snd.snd.snd.snd.snd.fst, (postC.snd.snd.snd.snd.snd.snd.snd.fst.fst, postC.snd.snd.snd.snd.snd.snd.snd.fst.snd), postC.snd.snd.snd.snd.snd.snd.snd.snd)).fst = [(112 : UInt8), (111 : UInt8), (115 : UInt8), (116 : UInt8), (32 : UInt8), (51 : UInt8), (32 : UInt8), (50 : UInt8), (32 : UInt8), (49 : UInt8), (32 : UInt8), (52 : UInt8), (32 : UInt8), (48 : UInt8), (32 : UInt8), (53 : UInt8), (48 : UInt8), (48 : UInt8), (32 : UInt8), (49 : UInt8), (32 : UInt8), (53 : UInt8), (32 : UInt8), (50 : UInt8), (32 : UInt8), (45 : UInt8), (53 : UInt8), (48 : UInt8), (48 : UInt8)]) = true → (decide ((printF (postC.fst, postC.snd.fst, postC.snd.snd.fst, postC.snd.snd.snd.fst, postC.snd.snd.snd.snd.fst, postC.snd.snd.snd.snd.snd.fst, postC.snd.snd.snd.snd.snd.snd.fst, (postC.snd.snd.snd.snd.snd.snd.snd.fst.fst, postC.snd.snd.snd.snd.snd.snd.snd.fst.snd), postC.snd.snd.snd.snd.snd.snd.snd.snd)).snd = (0 : Int)) = true → True ∧ (cparseF [(112 : UInt8), (111 : UInt8), (115 : UInt8), (116 : UInt8), (32 : UInt8), (51 : UInt8), (32 : UInt8), (50 : UInt8), (32 : UInt8), (49 : UInt8), (32 : UInt8), (52 : UInt8), (32 : UInt8), (48 : UInt8), (32 : UInt8), (53 : UInt8), (48 : UInt8), (48 : UInt8), (32 : UInt8), (49 : UInt8), (32 : UInt8), (53 : UInt8), (32 : UInt8), (50 : UInt8), (32 : UInt8), (45 : UInt8), (53 : UInt8), (48 : UInt8), (48 : UInt8)]).fst.snd.snd.snd.snd.snd.snd.snd.snd.length ≤ (1000000000 : Nat) ∧ (sameC ((cparseF [(112 : UInt8), (111 : UInt8), (115 : UInt8), (116 : UInt8), (32 : UInt8), (51 : UInt8), (32 : UInt8), (50 : UInt8), (32 : UInt8), (49 : UInt8), (32 : UInt8), (52 : UInt8), (32 : UInt8), (48 : UInt8), (32 : UInt8), (53 : UInt8), (48 : UInt8), (48 : UInt8), (32 : UInt8), (49 : UInt8), (32 : UInt8), (53 : UInt8), (32 : UInt8), (50 : UInt8), (32 : UInt8), (45 : UInt8), (53 : UInt8), (48 : UInt8), (48 : UInt8)]).fst.fst, (cparseF [(112 : UInt8), (111 : UInt8), (115 : UInt8), (116 : UInt8), (32 : UInt8), (51 : UInt8), (32 : UInt8), (50 : UInt8), (32 : UInt8), (49 : UInt8), (32 : UInt8), (52 : UInt8), (32 : UInt8), (48 : UInt8), (32 : UInt8), (53 : UInt8), (48 : UInt8), (48 : UInt8), (32 : UInt8), (49 : UInt8), (32 : UInt8), (53 : UInt8), (32 : UInt8), (50 : UInt8), (32 : UInt8), (45 : UInt8), (53 : UInt8), (48 : UInt8), (48 : UInt8)]).fst.snd.fst, (cparseF [(112 : UInt8), (111 : UInt8), (115 : UInt8), (116 : UInt8), (32 : UInt8), (51 : UInt8), (32 : UInt8), (50 : UInt8), (32 : UInt8), (49 : UInt8), (32 : UInt8), (52 : UInt8), (32 : UInt8), (48 : UInt8), (32 : UInt8), (53 : UInt8), (48 : UInt8), (48 : UInt8), (32 : UInt8), (49 : UInt8), (32 : UInt8), (53 : UInt8), (32 : UInt8), (50 : UInt8), (32 : UInt8), (45 : UInt8), (53 : UInt8), (48 : UInt8), (48 : UInt8)]).fst.snd.snd.fst, (cparseF [(112 : UInt8), (111 : UInt8), (115 : UInt8), (116 : UInt8), (32 : UInt8), (51 : UInt8), (32 : UInt8), (50 : UInt8), (32 : UInt8), (49 : UInt8), (32 : UInt8), (52 : UInt8), (32 : UInt8), (48 : UInt8), (32 : UInt8), (53 : UInt8), (48 : UInt8), (48 : UInt8), (32 : UInt8), (49 : UInt8), (32 : UInt8), (53 : UInt8), (32 : UInt8), (50 : UInt8), (32 : UInt8), (45 : UInt8), (53 : UInt8), (48 : UInt8), (48 : UInt8)]).fst.snd.snd.snd.fst, (cparseF [(112 : UInt8), (111 : UInt8), (115 : UInt8), (116 : UInt8), (32 : UInt8), (51 : UInt8), (32 : UInt8), (50 : UInt8), (32 : UInt8), (49 : UInt8), (32 : UInt8), (52 : UInt8), (32 : UInt8), (48 : UInt8), (32 : UInt8), (53 : UInt8), (48 : UInt8), (48 : UInt8), (32 : UInt8), (49 : UInt8), (32 : UInt8), (53 : UInt8), (32 : UInt8), (50 : UInt8), (32 : UInt8), (45 : UInt8), (53 : UInt8), (48 : UInt8), (48 : UInt8)]).fst.snd.snd.snd.snd.fst, (cparseF [(112 : UInt8), (111 : UInt8), (115 : UInt8), (116 : UInt8), (32 : UInt8), (51 : UInt8), (32 : UInt8), (50 : UInt8), (32 : UInt8), (49 : UInt8), (32 : UInt8), (52 : UInt8), (32 : UInt8), (48 : UInt8), (32 : UInt8), (53 : UInt8), (48 : UInt8), (48 : UInt8), (32 : UInt8), (49 : UInt8), (32 : UInt8), (53 : UInt8), (32 : UInt8), (50 : UInt8), (32 : UInt8), (45 : UInt8), (53 : UInt8), (48 : UInt8), (48 : UInt8)]).fst.snd.snd.snd.snd.snd.fst, (cparseF [(112 : UInt8), (111 : UInt8), (115 : UInt8), (116 : UInt8), (32 : UInt8), (51 : UInt8), (32 : UInt8), (50 : UInt8), (32 : UInt8), (49 : UInt8), (32 : UInt8), (52 : UInt8), (32 : UInt8), (48 : UInt8), (32 : UInt8), (53 : UInt8), (48 : UInt8), (48 : UInt8), (32 : UInt8), (49 : UInt8), (32 : UInt8), (53 : UInt8), (32 : UInt8), (50 : UInt8), (32 : UInt8), (45 : UInt8), (53 : UInt8), (48 : UInt8), (48 : UInt8)]).fst.snd.snd.snd.snd.snd.snd.fst, ((cparseF [(112 : UInt8), (111 : UInt8), (115 : UInt8), (116 : UInt8), (32 : UInt8), (51 : UInt8), (32 : UInt8), (50 : UInt8), (32 : UInt8), (49 : UInt8), (32 : UInt8), (52 : UInt8), (32 : UInt8), (48 : UInt8), (32 : UInt8), (53 : UInt8), (48 : UInt8), (48 : UInt8), (32 : UInt8), (49 : UInt8), (32 : UInt8), (53 : UInt8), (32 : UInt8), (50 : UInt8), (32 : UInt8), (45 : UInt8), (53 : UInt8), (48 : UInt8), (48 : UInt8)]).fst.snd.snd.snd.snd.snd.snd.snd.fst.fst, (cparseF [(112 : UInt8), (111 : UInt8), (115 : UInt8), (116 : UInt8), (32 : UInt8), (51 : UInt8), (32 : UInt8), (50 : UInt8), (32 : UInt8), (49 : UInt8), (32 : UInt8), (52 : UInt8), (32 : UInt8), (48 : UInt8), (32 : UInt8), (53 : UInt8), (48 : UInt8), (48 : UInt8), (32 : UInt8), (49 : UInt8), (32 : UInt8), (53 : UInt8), (32 : UInt8), (50 : UInt8), (32 : UInt8), (45 : UInt8), (53 : UInt8), (48 : UInt8), (48 : UInt8)]).fst.snd.snd.snd.snd.snd.snd.snd.fst.snd), (cparseF [(112 : UInt8), (111 : UInt8), (115 : UInt8), (116 : UInt8), (32 : UInt8), (51 : UInt8), (32 : UInt8), (50 : UInt8), (32 : UInt8), (49 : UInt8), (32 : UInt8), (52 : UInt8), (32 : UInt8), (48 : UInt8), (32 : UInt8), (53 : UInt8), (48 : UInt8), (48 : UInt8), (32 : UInt8), (49 : UInt8), (32 : UInt8), (53 : UInt8), (32 : UInt8), (50 : UInt8), (32 : UInt8), (45 : UInt8), (53 : UInt8), (48 : UInt8), (48 : UInt8)]).fst.snd.snd.snd.snd.snd.snd.snd.snd) (postC.fst, postC.snd.fst, postC.snd.snd.fst, postC.snd.snd.snd.fst, postC.snd.snd.snd.snd.fst, postC.snd.snd.snd.snd.snd.fst, postC.snd.snd.snd.snd.snd.snd.fst, (postC.snd.snd.snd.snd.snd.snd.snd.fst.fst, postC.snd.snd.snd.snd.snd.snd.snd.fst.snd), postC.snd.snd.snd.snd.snd.snd.snd.snd) = true → (decide ((cparseF [(112 : UInt8), (111 : UInt8), (115 : UInt8), (116 : UInt8), (32 : UInt8), (51 : UInt8), (32 : UInt8), (50 : UInt8), (32 : UInt8), (49 : UInt8), (32 : UInt8), (52 : UInt8), (32 : UInt8), (48 : UInt8), (32 : UInt8), (53 : UInt8), (48 : UInt8), (48 : UInt8), (32 : UInt8), (49 : UInt8), (32 : UInt8), (53 : UInt8), (32 : UInt8), (50 : UInt8), (32 : UInt8), (45 : UInt8), (53 : UInt8), (48 : UInt8), (48 : UInt8)]).snd = (0 : Int)) = true → (cparseF [(97 : UInt8), (99 : UInt8), (99 : UInt8), (111 : UInt8), (117 : UInt8), (110 : UInt8), (116 : UInt8), (32 : UInt8), (48 : UInt8), (32 : UInt8), (50 : UInt8), (32 : UInt8), (49 : UInt8), (32 : UInt8), (48 : UInt8)]).fst.snd.snd.snd.snd.snd.snd.snd.snd.length ≤ (1000000000 : Nat) ∧ (sameC ((cparseF [(97 : UInt8), (99 : UInt8), (99 : UInt8), (111 : UInt8), (117 : UInt8), (110 : UInt8), (116 : UInt8), (32 : UInt8), (48 : UInt8), (32 : UInt8), (50 : UInt8), (32 : UInt8), (49 : UInt8), (32 : UInt8), (48 : UInt8)]).fst.fst, (cparseF [(97 : UInt8), (99 : UInt8), (99 : UInt8), (111 : UInt8), (117 : UInt8), (110 : UInt8), (116 : UInt8), (32 : UInt8), (48 : UInt8), (32 : UInt8), (50 : UInt8), (32 : UInt8), (49 : UInt8), (32 : UInt8), (48 : UInt8)]).fst.snd.fst, (cparseF [(97 : UInt8), (99 : UInt8), (99 : UInt8), (111 : UInt8), (117 : UInt8), (110 : UInt8), (116 : UInt8), (32 : UInt8), (48 : UInt8), (32 : UInt8), (50 : UInt8), (32 : UInt8), (49 : UInt8), (32 : UInt8), (48 : UInt8)]).fst.snd.snd.fst, (cparseF [(97 : UInt8), (99 : UInt8), (99 : UInt8), (111 : UInt8), (117 : UInt8), (110 : UInt8), (116 : UInt8), (32 : UInt8), (48 : UInt8), (32 : UInt8), (50 : UInt8), (32 : UInt8), (49 : UInt8), (32 : UInt8), (48 : UInt8)]).fst.snd.snd.snd.fst, (cparseF [(97 : UInt8), (99 : UInt8), (99 : UInt8), (111 : UInt8), (117 : UInt8), (110 : UInt8), (116 : UInt8), (32 : UInt8), (48 : UInt8), (32 : UInt8), (50 : UInt8), (32 : UInt8), (49 : UInt8), (32 : UInt8), (48 : UInt8)]).fst.snd.snd.snd.snd.fst, (cparseF [(97 : UInt8), (99 : UInt8), (99 : UInt8), (111 : UInt8), (117 : UInt8), (110 : UInt8), (116 : UInt8), (32 : UInt8), (48 : UInt8), (32 : UInt8), (50 : UInt8), (32 : UInt8), (49 : UInt8), (32 : UInt8), (48 : UInt8)]).fst.snd.snd.snd.snd.snd.fst, (cparseF [(97 : UInt8), (99 : UInt8), (99 : UInt8), (111 : UInt8), (117 : UInt8), (110 : UInt8), (116 : UInt8), (32 : UInt8), (48 : UInt8), (32 : UInt8), (50 : UInt8), (32 : UInt8), (49 : UInt8), (32 : UInt8), (48 : UInt8)]).fst.snd.snd.snd.snd.snd.snd.fst, ((cparseF [(97 : UInt8), (99 : UInt8), (99 : UInt8), (111 : UInt8), (117 : UInt8), (110 : UInt8), (116 : UInt8), (32 : UInt8), (48 : UInt8), (32 : UInt8), (50 : UInt8), (32 : UInt8), (49 : UInt8), (32 : UInt8), (48 : UInt8)]).fst.snd.snd.snd.snd.snd.snd.snd.fst.fst, (cparseF [(97 : UInt8), (99 : UInt8), (99 : UInt8), (111 : UInt8), (117 : UInt8), (110 : UInt8), (116 : UInt8), (32 : UInt8), (48 : UInt8), (32 : UInt8), (50 : UInt8), (32 : UInt8), (49 : UInt8), (32 : UInt8), (48 : UInt8)]).fst.snd.snd.snd.snd.snd.snd.snd.fst.snd), (cparseF [(97 : UInt8), (99 : UInt8), (99 : UInt8), (111 : UInt8), (117 : UInt8), (110 : UInt8), (116 : UInt8), (32 : UInt8), (48 : UInt8), (32 : UInt8), (50 : UInt8), (32 : UInt8), (49 : UInt8), (32 : UInt8), (48 : UInt8)]).fst.snd.snd.snd.snd.snd.snd.snd.snd) ((2 : Int), (0 : Int), (2 : Int), (0 : Int), (0 : Int), true, false, ((0 : Int), (0 : Int)), []) = true → (decide ((cparseF [(97 : UInt8), (99 : UInt8), (99 : UInt8), (111 : UInt8), (117 : UInt8), (110 : UInt8), (116 : UInt8), (32 : UInt8), (48 : UInt8), (32 : UInt8), (50 : UInt8), (32 : UInt8), (49 : UInt8), (32 : UInt8), (48 : UInt8)]).snd = (0 : Int)) = true → (decide ((cparseF [(111 : UInt8), (119 : UInt8), (110 : UInt8), (32 : UInt8), (49 : UInt8), (32 : UInt8), (50 : UInt8), (32 : UInt8), (51 : UInt8)]).snd = (4 : Int)) = true → (decide ((cparseF [(108 : UInt8), (111 : UInt8), (99 : UInt8), (107 : UInt8), (32 : UInt8), (49 : UInt8), (32 : UInt8), (50 : UInt8), (32 : UInt8), (51 : UInt8)]).snd = (6 : Int)) = true → (decide ((cparseF [(102 : UInt8), (108 : UInt8), (121 : UInt8), (32 : UInt8), (49 : UInt8)]).snd = (8 : Int)) = true → (decide ((cparseF [(101 : UInt8), (110 : UInt8), (116 : UInt8)]).snd = (4 : Int)) = true → (decide ((printF ((6 : Int), (0 : Int), (0 : Int), (1 : Int), (0 : Int), false, false, ((0 : Int), (0 : Int)), [])).snd = (2 : Int)) = true → True ∧ True ∧ (decide (checkF (postC.fst, postC.snd.fst, postC.snd.snd.fst, postC.snd.snd.snd.fst, postC.snd.snd.snd.snd.fst, postC.snd.snd.snd.snd.snd.fst, postC.snd.snd.snd.snd.snd.snd.fst, (postC.snd.snd.snd.snd.snd.snd.snd.fst.fst, postC.snd.snd.snd.snd.snd.snd.snd.fst.snd), postC.snd.snd.snd.snd.snd.snd.snd.snd) = (0 : Int)) = true → True ∧ (decide (checkF ((0 : Int), (0 : Int), (0 : Int), (0 : Int), (0 : Int), false, false, ((0 : Int), (0 : Int)), []) = (25 : Int)), ()) = (true, ())) ∧ (decide (checkF (postC.fst, postC.snd.fst, postC.snd.snd.fst, postC.snd.snd.snd.fst, postC.snd.snd.snd.snd.fst, postC.snd.snd.snd.snd.snd.fst, postC.snd.snd.snd.snd.snd.snd.fst, (postC.snd.snd.snd.snd.snd.snd.snd.fst.fst, postC.snd.snd.snd.snd.snd.snd.snd.fst.snd), postC.snd.snd.snd.snd.snd.snd.snd.snd) = (0 : Int)) = !true → (false, ()) = (true, ()))) ∧ (decide ((printF ((6 : Int), (0 : Int), (0 : Int), (1 : Int), (0 : Int), false, false, ((0 : Int), (0 : Int)), [])).snd = (2 : Int)) = !true → (false, ()) = (true, ()))) ∧ (decide ((cparseF [(101 : UInt8), (110 : UInt8), (116 : UInt8)]).snd = (4 : Int)) = !true → (false, ()) = (true, ()))) ∧ (decide ((cparseF [(102 : UInt8), (108 : UInt8), (121 : UInt8), (32 : UInt8), (49 : UInt8)]).snd = (8 : Int)) = !true → (false, ()) = (true, ()))) ∧ (decide ((cparseF [(108 : UInt8), (111 : UInt8), (99 : UInt8), (107 : UInt8), (32 : UInt8), (49 : UInt8), (32 : UInt8), (50 : UInt8), (32 : UInt8), (51 : UInt8)]).snd = (6 : Int)) = !true → (false, ()) = (true, ()))) ∧ (decide ((cparseF [(111 : UInt8), (119 : UInt8), (110 : UInt8), (32 : UInt8), (49 : UInt8), (32 : UInt8), (50 : UInt8), (32 : UInt8), (51 : UInt8)]).snd = (4 : Int)) = !true → (false, ()) = (true, ()))) ∧ (decide ((cparseF [(97 : UInt8), (99 : UInt8), (99 : UInt8), (111 : UInt8), (117 : UInt8), (110 : UInt8), (116 : UInt8), (32 : UInt8), (48 : UInt8), (32 : UInt8), (50 : UInt8), (32 : UInt8), (49 : UInt8), (32 : UInt8), (48 : UInt8)]).snd = (0 : Int)) = !true → (false, ()) = (true, ()))) ∧ (sameC ((cparseF [(97 : UInt8), (99 : UInt8), (99 : UInt8), (111 : UInt8), (117 : UInt8), (110 : UInt8), (116 : UInt8), (32 : UInt8), (48 : UInt8), (32 : UInt8), (50 : UInt8), (32 : UInt8), (49 : UInt8), (32 : UInt8), (48 : UInt8)]).fst.fst, (cparseF [(97 : UInt8), (99 : UInt8), (99 : UInt8), (111 : UInt8), (117 : UInt8), (110 : UInt8), (116 : UInt8), (32 : UInt8), (48 : UInt8), (32 : UInt8), (50 : UInt8), (32 : UInt8), (49 : UInt8), (32 : UInt8), (48 : UInt8)]).fst.snd.fst, (cparseF [(97 : UInt8), (99 : UInt8), (99 : UInt8), (111 : UInt8), (117 : UInt8), (110 : UInt8), (116 : UInt8), (32 : UInt8), (48 : UInt8), (32 : UInt8), (50 : UInt8), (32 : UInt8), (49 : UInt8), (32 : UInt8), (48 : UInt8)]).fst.snd.snd.fst, (cparseF [(97 : UInt8), (99 : UInt8), (99 : UInt8), (111 : UInt8), (117 : UInt8), (110 : UInt8), (116 : UInt8), (32 : UInt8), (48 : UInt8), (32 : UInt8), (50 : UInt8), (32 : UInt8), (49 : UInt8), (32 : UInt8), (48 : UInt8)]).fst.snd.snd.snd.fst, (cparseF [(97 : UInt8), (99 : UInt8), (99 : UInt8), (111 : UInt8), (117 : UInt8), (110 : UInt8), (116 : UInt8), (32 : UInt8), (48 : UInt8), (32 : UInt8), (50 : UInt8), (32 : UInt8), (49 : UInt8), (32 : UInt8), (48 : UInt8)]).fst.snd.snd.snd.snd.fst, (cparseF [(97 : UInt8), (99 : UInt8), (99 : UInt8), (111 : UInt8), (117 : UInt8), (110 : UInt8), (116 : UInt8), (32 : UInt8), (48 : UInt8), (32 : UInt8), (50 : UInt8), (32 : UInt8), (49 : UInt8), (32 : UInt8), (48 : UInt8)]).fst.snd.snd.snd.snd.snd.fst, (cparseF [(97 : UInt8), (99 : UInt8), (99 : UInt8), (111 : UInt8), (117 : UInt8), (110 : UInt8), (116 : UInt8), (32 : UInt8), (48 : UInt8), (32 : UInt8), (50 : UInt8), (32 : UInt8), (49 : UInt8), (32 : UInt8), (48 : UInt8)]).fst.snd.snd.snd.snd.snd.snd.fst, ((cparseF [(97 : UInt8), (99 : UInt8), (99 : UInt8), (111 : UInt8), (117 : UInt8), (110 : UInt8), (116 : UInt8), (32 : UInt8), (48 : UInt8), (32 : UInt8), (50 : UInt8), (32 : UInt8), (49 : UInt8), (32 : UInt8), (48 : UInt8)]).fst.snd.snd.snd.snd.snd.snd.snd.fst.fst, (cparseF [(97 : UInt8), (99 : UInt8), (99 : UInt8), (111 : UInt8), (117 : UInt8), (110 : UInt8), (116 : UInt8), (32 : UInt8), (48 : UInt8), (32 : UInt8), (50 : UInt8), (32 : UInt8), (49 : UInt8), (32 : UInt8), (48 : UInt8)]).fst.snd.snd.snd.snd.snd.snd.snd.fst.snd), (cparseF [(97 : UInt8), (99 : UInt8), (99 : UInt8), (111 : UInt8), (117 : UInt8), (110 : UInt8), (116 : UInt8), (32 : UInt8), (48 : UInt8), (32 : UInt8), (50 : UInt8), (32 : UInt8), (49 : UInt8), (32 : UInt8), (48 : UInt8)]).fst.snd.snd.snd.snd.snd.snd.snd.snd) ((2 : Int), (0 : Int), (2 : Int), (0 : Int), (0 : Int), true, false, ((0 : Int), (0 : Int)), []) = !true → (false, ()) = (true, ()))) ∧ (decide ((cparseF [(112 : UInt8), (111 : UInt8), (115 : UInt8), (116 : UInt8), (32 : UInt8), (51 : UInt8), (32 : UInt8), (50 : UInt8), (32 : UInt8), (49 : UInt8), (32 : UInt8), (52 : UInt8), (32 : UInt8), (48 : UInt8), (32 : UInt8), (53 : UInt8), (48 : UInt8), (48 : UInt8), (32 : UInt8), (49 : UInt8), (32 : UInt8), (53 : UInt8), (32 : UInt8), (50 : UInt8), (32 : UInt8), (45 : UInt8), (53 : UInt8), (48 : UInt8), (48 : UInt8)]).snd = (0 : Int)) = !true → (false, ()) = (true, ()))) ∧ (sameC ((cparseF [(112 : UInt8), (111 : UInt8), (115 : UInt8), (116 : UInt8), (32 : UInt8), (51 : UInt8), (32 : UInt8), (50 : UInt8), (32 : UInt8), (49 : UInt8), (32 : UInt8), (52 : UInt8), (32 : UInt8), (48 : UInt8), (32 : UInt8), (53 : UInt8), (48 : UInt8), (48 : UInt8), (32 : UInt8), (49 : UInt8), (32 : UInt8), (53 : UInt8), (32 : UInt8), (50 : UInt8), (32 : UInt8), (45 : UInt8), (53 : UInt8), (48 : UInt8), (48 : UInt8)]).fst.fst, (cparseF [(112 : UInt8), (111 : UInt8), (115 : UInt8), (116 : UInt8), (32 : UInt8), (51 : UInt8), (32 : UInt8), (50 : UInt8), (32 : UInt8), (49 : UInt8), (32 : UInt8), (52 : UInt8), (32 : UInt8), (48 : UInt8), (32 : UInt8), (53 : UInt8), (48 : UInt8), (48 : UInt8), (32 : UInt8), (49 : UInt8), (32 : UInt8), (53 : UInt8), (32 : UInt8), (50 : UInt8), (32 : UInt8), (45 : UInt8), (53 : UInt8), (48 : UInt8), (48 : UInt8)]).fst.snd.fst, (cparseF [(112 : UInt8), (111 : UInt8), (115 : UInt8), (116 : UInt8), (32 : UInt8), (51 : UInt8), (32 : UInt8), (50 : UInt8), (32 : UInt8), (49 : UInt8), (32 : UInt8), (52 : UInt8), (32 : UInt8), (48 : UInt8), (32 : UInt8), (53 : UInt8), (48 : UInt8), (48 : UInt8), (32 : UInt8), (49 : UInt8), (32 : UInt8), (53 : UInt8), (32 : UInt8), (50 : UInt8), (32 : UInt8), (45 : UInt8), (53 : UInt8), (48 : UInt8), (48 : UInt8)]).fst.snd.snd.fst, (cparseF [(112 : UInt8), (111 : UInt8), (115 : UInt8), (116 : UInt8), (32 : UInt8), (51 : UInt8), (32 : UInt8), (50 : UInt8), (32 : UInt8), (49 : UInt8), (32 : UInt8), (52 : UInt8), (32 : UInt8), (48 : UInt8), (32 : UInt8), (53 : UInt8), (48 : UInt8), (48 : UInt8), (32 : UInt8), (49 : UInt8), (32 : UInt8), (53 : UInt8), (32 : UInt8), (50 : UInt8), (32 : UInt8), (45 : UInt8), (53 : UInt8), (48 : UInt8), (48 : UInt8)]).fst.snd.snd.snd.fst, (cparseF [(112 : UInt8), (111 : UInt8), (115 : UInt8), (116 : UInt8), (32 : UInt8), (51 : UInt8), (32 : UInt8), (50 : UInt8), (32 : UInt8), (49 : UInt8), (32 : UInt8), (52 : UInt8), (32 : UInt8), (48 : UInt8), (32 : UInt8), (53 : UInt8), (48 : UInt8), (48 : UInt8), (32 : UInt8), (49 : UInt8), (32 : UInt8), (53 : UInt8), (32 : UInt8), (50 : UInt8), (32 : UInt8), (45 : UInt8), (53 : UInt8), (48 : UInt8), (48 : UInt8)]).fst.snd.snd.snd.snd.fst, (cparseF [(112 : UInt8), (111 : UInt8), (115 : UInt8), (116 : UInt8), (32 : UInt8), (51 : UInt8), (32 : UInt8), (50 : UInt8), (32 : UInt8), (49 : UInt8), (32 : UInt8), (52 : UInt8), (32 : UInt8), (48 : UInt8), (32 : UInt8), (53 : UInt8), (48 : UInt8), (48 : UInt8), (32 : UInt8), (49 : UInt8), (32 : UInt8), (53 : UInt8), (32 : UInt8), (50 : UInt8), (32 : UInt8), (45 : UInt8), (53 : UInt8), (48 : UInt8), (48 : UInt8)]).fst.snd.snd.snd.snd.snd.fst, (cparseF [(112 : UInt8), (111 : UInt8), (115 : UInt8), (116 : UInt8), (32 : UInt8), (51 : UInt8), (32 : UInt8), (50 : UInt8), (32 : UInt8), (49 : UInt8), (32 : UInt8), (52 : UInt8), (32 : UInt8), (48 : UInt8), (32 : UInt8), (53 : UInt8), (48 : UInt8), (48 : UInt8), (32 : UInt8), (49 : UInt8), (32 : UInt8), (53 : UInt8), (32 : UInt8), (50 : UInt8), (32 : UInt8), (45 : UInt8), (53 : UInt8), (48 : UInt8), (48 : UInt8)]).fst.snd.snd.snd.snd.snd.snd.fst, ((cparseF [(112 : UInt8), (111 : UInt8), (115 : UInt8), (116 : UInt8), (32 : UInt8), (51 : UInt8), (32 : UInt8), (50 : UInt8), (32 : UInt8), (49 : UInt8), (32 : UInt8), (52 : UInt8), (32 : UInt8), (48 : UInt8), (32 : UInt8), (53 : UInt8), (48 : UInt8), (48 : UInt8), (32 : UInt8), (49 : UInt8), (32 : UInt8), (53 : UInt8), (32 : UInt8), (50 : UInt8), (32 : UInt8), (45 : UInt8), (53 : UInt8), (48 : UInt8), (48 : UInt8)]).fst.snd.snd.snd.snd.snd.snd.snd.fst.fst, (cparseF [(112 : UInt8), (111 : UInt8), (115 : UInt8), (116 : UInt8), (32 : UInt8), (51 : UInt8), (32 : UInt8), (50 : UInt8), (32 : UInt8), (49 : UInt8), (32 : UInt8), (52 : UInt8), (32 : UInt8), (48 : UInt8), (32 : UInt8), (53 : UInt8), (48 : UInt8), (48 : UInt8), (32 : UInt8), (49 : UInt8), (32 : UInt8), (53 : UInt8), (32 : UInt8), (50 : UInt8), (32 : UInt8), (45 : UInt8), (53 : UInt8), (48 : UInt8), (48 : UInt8)]).fst.snd.snd.snd.snd.snd.snd.snd.fst.snd), (cparseF [(112 : UInt8), (111 : UInt8), (115 : UInt8), (116 : UInt8), (32 : UInt8), (51 : UInt8), (32 : UInt8), (50 : UInt8), (32 : UInt8), (49 : UInt8), (32 : UInt8), (52 : UInt8), (32 : UInt8), (48 : UInt8), (32 : UInt8), (53 : UInt8), (48 : UInt8), (48 : UInt8), (32 : UInt8), (49 : UInt8), (32 : UInt8), (53 : UInt8), (32 : UInt8), (50 : UInt8), (32 : UInt8), (45 : UInt8), (53 : UInt8), (48 : UInt8), (48 : UInt8)]).fst.snd.snd.snd.snd.snd.snd.snd.snd) (postC.fst, postC.snd.fst, postC.snd.snd.fst, postC.snd.snd.snd.fst, postC.snd.snd.snd.snd.fst, postC.snd.snd.snd.snd.snd.fst, postC.snd.snd.snd.snd.snd.snd.fst, (postC.snd.snd.snd.snd.snd.snd.snd.fst.fst, postC.snd.snd.snd.snd.snd.snd.snd.fst.snd), postC.snd.snd.snd.snd.snd.snd.snd.snd) = !true → (false, ()) = (true, ()))) ∧ (decide ((printF (postC.fst, postC.snd.fst, postC.snd.snd.fst, postC.snd.snd.snd.fst, postC.snd.snd.snd.snd.fst, postC.snd.snd.snd.snd.snd.fst, postC.snd.snd.snd.snd.snd.snd.fst, (postC.snd.snd.snd.snd.snd.snd.snd.fst.fst, postC.snd.snd.snd.snd.snd.snd.snd.fst.snd), postC.snd.snd.snd.snd.snd.snd.snd.snd)).snd = (0 : Int)) = !true → (false, ()) = (true, ()))) ∧ (decide ((printF (postC.fst, postC.snd.fst, postC.snd.snd.fst, postC.snd.snd.snd.fst, postC.snd.snd.snd.snd.fst, postC.snd.snd.snd.snd.snd.fst, postC.snd.snd.snd.snd.snd.snd.fst, (postC.snd.snd.snd.snd.snd.snd.snd.fst.fst, postC.snd.snd.snd.snd.snd.snd.snd.fst.snd), postC.snd.snd.snd.snd.snd.snd.snd.snd)).fst = [(112 : UInt8), (111 : UInt8), (115 : UInt8), (116 : UInt8), (32 : UInt8), (51 : UInt8), (32 : UInt8), (50 : UInt8), (32 : UInt8), (49 : UInt8), (32 : UInt8), (52 : UInt8), (32 : UInt8), (48 : UInt8), (32 : UInt8), (53 : UInt8), (48 : UInt8), (48 : UInt8), (32 : UInt8), (49 : UInt8), (32 : UInt8), (53 : UInt8), (32 : UInt8), (50 : UInt8), (32 : UInt8), (45 : UInt8), (53 : UInt8), (48 : UInt8), (48 : UInt8)]) = !true → (false, ()) = (true, ()))
theorem g_awake_eq  : g_awake  = g_awake_vc  := by kernel_rfl
theorem itoa_dig {n : Nat} (h : n < 10) : Lib.itoa (n : Int) = [UInt8.ofNat (48 + n)] := by
  have : Lib.itoa (n : Int) = Lib.decDigits n := rfl
  rw [this, Lib.decDigits, dif_pos h]
theorem dec_500 : Lib.decDigits 500 = [(53 : UInt8), 48, 48] := by
  rw [Lib.decDigits, dif_neg (by decide), Lib.decDigits, dif_neg (by decide), Lib.decDigits, dif_pos (by decide)]
  rfl
theorem aw1 : printF postC = ([(112 : UInt8), (111 : UInt8), (115 : UInt8), (116 : UInt8), (32 : UInt8), (51 : UInt8), (32 : UInt8), (50 : UInt8), (32 : UInt8), (49 : UInt8), (32 : UInt8), (52 : UInt8), (32 : UInt8), (48 : UInt8), (32 : UInt8), (53 : UInt8), (48 : UInt8), (48 : UInt8), (32 : UInt8), (49 : UInt8), (32 : UInt8), (53 : UInt8), (32 : UInt8), (50 : UInt8), (32 : UInt8), (45 : UInt8), (53 : UInt8), (48 : UInt8), (48 : UInt8)], 0) := by
  have e : printF postC = (wordF 7 ++ sayF [3, 2, 1, 4, 0, 500, 1, 5, 2, -500], 0) := by kernel_rfl
  have h0 := itoa_dig (n := 0) (by decide)
  have h1 := itoa_dig (n := 1) (by decide)
  have h2 := itoa_dig (n := 2) (by decide)
  have h3 := itoa_dig (n := 3) (by decide)
  have h4 := itoa_dig (n := 4) (by decide)
  have h5 := itoa_dig (n := 5) (by decide)
  have h6 : Lib.itoa 500 = [(53 : UInt8), 48, 48] := dec_500
  have h7 : Lib.itoa (-500) = 45 :: [(53 : UInt8), 48, 48] := by
    have : Lib.itoa (-500) = 45 :: Lib.decDigits 500 := rfl
    rw [this, dec_500]
  simp only [Int.cast_ofNat_Int] at h0 h1 h2 h3 h4 h5
  rw [e]
  unfold sayF
  simp only [List.flatMap_cons, List.flatMap_nil, h0, h1, h2, h3, h4, h5, h6, h7]
  decide
theorem aw2 : cparseF [(112 : UInt8), (111 : UInt8), (115 : UInt8), (116 : UInt8), (32 : UInt8), (51 : UInt8), (32 : UInt8), (50 : UInt8), (32 : UInt8), (49 : UInt8), (32 : UInt8), (52 : UInt8), (32 : UInt8), (48 : UInt8), (32 : UInt8), (53 : UInt8), (48 : UInt8), (48 : UInt8), (32 : UInt8), (49 : UInt8), (32 : UInt8), (53 : UInt8), (32 : UInt8), (50 : UInt8), (32 : UInt8), (45 : UInt8), (53 : UInt8), (48 : UInt8), (48 : UInt8)] = (postC, 0) := by kernel_rfl
theorem aw3 : cparseF [(97 : UInt8), (99 : UInt8), (99 : UInt8), (111 : UInt8), (117 : UInt8), (110 : UInt8), (116 : UInt8), (32 : UInt8), (48 : UInt8), (32 : UInt8), (50 : UInt8), (32 : UInt8), (49 : UInt8), (32 : UInt8), (48 : UInt8)] = ((2, 0, 2, 0, 0, true, false, (0, 0), []), 0) := by kernel_rfl
theorem aw4 : cparseF [(111 : UInt8), (119 : UInt8), (110 : UInt8), (32 : UInt8), (49 : UInt8), (32 : UInt8), (50 : UInt8), (32 : UInt8), (51 : UInt8)] = (nilC, 4) := by kernel_rfl
theorem aw5 : cparseF [(108 : UInt8), (111 : UInt8), (99 : UInt8), (107 : UInt8), (32 : UInt8), (49 : UInt8), (32 : UInt8), (50 : UInt8), (32 : UInt8), (51 : UInt8)] = (nilC, 6) := by kernel_rfl
theorem aw6 : cparseF [(102 : UInt8), (108 : UInt8), (121 : UInt8), (32 : UInt8), (49 : UInt8)] = (nilC, 8) := by kernel_rfl
theorem aw7 : cparseF [(101 : UInt8), (110 : UInt8), (116 : UInt8)] = (nilC, 4) := by kernel_rfl
theorem aw8 : printF (6, 0, 0, 1, 0, false, false, (0, 0), []) = ([], 2) := by kernel_rfl
theorem aw9 : checkF postC = 0 := by kernel_rfl
theorem aw10 : checkF (0, 0, 0, 0, 0, false, false, (0, 0), []) = 25 := by kernel_rfl
theorem postE : ((postC.1, postC.2.1, postC.2.2.1, postC.2.2.2.1, postC.2.2.2.2.1, postC.2.2.2.2.2.1, postC.2.2.2.2.2.2.1, (postC.2.2.2.2.2.2.2.1.1, postC.2.2.2.2.2.2.2.1.2), postC.2.2.2.2.2.2.2.2) : CmD) = postC := rfl
theorem awS (c : CmD) : sameC c c = true := (sameC_iff c c).2 rfl
theorem in_lit {n : Int} (h : decide (-1000 ≤ n ∧ n ≤ 1000) = true) : InI n := by
  have := of_decide_eq_true h
  unfold InI
  omega
theorem aw11 : InC postC := by
  refine ⟨fun n hn => ?_, fun x hx n hn => ?_⟩
  · have : n = 3 ∨ n = 0 ∨ n = 0 ∨ n = 0 ∨ n = 0 ∨ n = 0 ∨ n = 0 ∨ n = 0 := by simpa [allF, postC, bitF] using hn
    unfold InI
    omega
  · have hx : x = (1, 4, 0, 500) ∨ x = (1, 5, 2, -500) := by simpa [linesF, postC, postL] using hx
    rcases hx with rfl | rfl <;> simp [lnL] at hn <;> unfold InI <;> omega
theorem aw12 : InC (6, 0, 0, 1, 0, false, false, (0, 0), []) := by
  refine ⟨fun n hn => ?_, fun x hx => by simp [linesF] at hx⟩
  have : n = 0 ∨ n = 1 := by
    simp [allF, bitF] at hn
    omega
  unfold InI
  omega
theorem g_awake_ok : g_awake_vc := by
  unfold g_awake_vc
  simp only [postE, aw1, aw2, aw3, aw4, aw5, aw6, aw7, aw8, aw9, aw10, aw11, aw12, awS]
  simp
  decide
set_option maxRecDepth 20000 in
theorem awake_pure  : Pure Tryd.prog 6 [] (.bool true) :=
  Pure.of_g (E := env_awake ) (ts := tsOf Tryd.f6) (ps := [.bool]) (r := (true, ())) (fn := Tryd.f6) (c := codeOf Tryd.f6) (specs_ok (P := Tryd.prog) rfl [sp_post, sp_print, sp_cparse, sp_csame, sp_check] [] rfl rfl) mixed Tryd.func6 rfl rfl (g := g_awake ) (by delta g_awake start0; first | with_reducible exact Eq.refl _ | exact Eq.refl _) (by rw [g_awake_eq ]; exact g_awake_ok )
noncomputable def q_awake  : Prop × V := (True, (.bool true))
noncomputable def sp_awake : FSpec Tryd.prog where
  f := 6
  run := fun args => match args with
    | [] => some (q_awake )
    | _ => none
  ok := fun args pre r h hp => by
    try dsimp only at h
    split at h
    ·
      have h := Option.some.inj h
      unfold q_awake at h
      cases h
      exact (awake_pure ).weak .nil
    · cases h

noncomputable def env_tells (k a b c d : Int) (s p : Bool) (n m : Int) (l : List LnD) : Env where
  P := Tryd.prog
  ty := tys0
  specs := specsOf [sp_awake, sp_print, sp_rprint, sp_check, sp_rcheck]
  frz := fun | 29 => true | 33 => true | 36 => true | 39 => true | _ => false
noncomputable def g_tells (k a b c d : Int) (s p : Bool) (n m : Int) (l : List LnD) : Prop := vc (env_tells k a b c d s p n m l) (codeOf Tryd.f3) (start0 Tryd.f3 [.agg [.int .i64 k, .int .i64 a, .int .i64 b, .int .i64 c, .int .i64 d, .bool s, .bool p, .int .i64 n, .int .i64 m, .list .tmp Ln l]]) (exitK (tsOf Tryd.f3) [.bool] (true, ()))
def g_tells_vc (k : Int) (a : Int) (b : Int) (c : Int) (d : Int) (s : Bool) (p : Bool) (n : Int) (m : Int) (l : List LnD) : Prop :=
  (decide ((60 : Int) < (↑l.length : Int)) = true → True ∧ (true, ()) = (true, ())) ∧ (decide ((60 : Int) < (↑l.length : Int)) = false → InC (k, a, b, c, d, s, p, (n, m), l) ∧ InC (k, a, b, c, d, s, p, (n, m), l) ∧ (decide ((printF (k, a, b, c, d, s, p, (n, m), l)).fst = (printF (k, a, b, c, d, s, p, (n, m), l)).fst) = true → (decide ((printF (k, a, b, c, d, s, p, (n, m), l)).snd = (printF (k, a, b, c, d, s, p, (n, m), l)).snd) = true → True ∧ True ∧ (decide (checkF (k, a, b, c, d, s, p, (n, m), l) = checkF (k, a, b, c, d, s, p, (n, m), l)) = true → True ∧ (true, ()) = (true, ())) ∧ (decide (checkF (k, a, b, c, d, s, p, (n, m), l) = checkF (k, a, b, c, d, s, p, (n, m), l)) = !true → (false, ()) = (true, ()))) ∧ (decide ((printF (k, a, b, c, d, s, p, (n, m), l)).snd = (printF (k, a, b, c, d, s, p, (n, m), l)).snd) = !true → (false, ()) = (true, ()))) ∧ (decide ((printF (k, a, b, c, d, s, p, (n, m), l)).fst = (printF (k, a, b, c, d, s, p, (n, m), l)).fst) = !true → (false, ()) = (true, ())))
theorem g_tells_eq (k a b c d : Int) (s p : Bool) (n m : Int) (l : List LnD) : g_tells k a b c d s p n m l = g_tells_vc k a b c d s p n m l := by kernel_rfl
theorem g_tells_ok (k a b c d : Int) (s p : Bool) (n m : Int) (l : List LnD) (h : InC (k, a, b, c, d, s, p, (n, m), l)) : g_tells_vc k a b c d s p n m l := by
  unfold g_tells_vc
  simp [h]
set_option maxRecDepth 20000 in
theorem tells_pure (k a b c d : Int) (s p : Bool) (n m : Int) (l : List LnD) (h : InC (k, a, b, c, d, s, p, (n, m), l)) : Pure Tryd.prog 3 [.agg [.int .i64 k, .int .i64 a, .int .i64 b, .int .i64 c, .int .i64 d, .bool s, .bool p, .int .i64 n, .int .i64 m, .list .tmp Ln l]] (.bool true) :=
  Pure.of_g (E := env_tells k a b c d s p n m l) (ts := tsOf Tryd.f3) (ps := [.bool]) (r := (true, ())) (fn := Tryd.f3) (c := codeOf Tryd.f3) (specs_ok (P := Tryd.prog) rfl [sp_awake, sp_print, sp_rprint, sp_check, sp_rcheck] [] rfl rfl) mixed Tryd.func3 rfl rfl (g := g_tells k a b c d s p n m l) (by delta g_tells start0; first | with_reducible exact Eq.refl _ | exact Eq.refl _) (by rw [g_tells_eq k a b c d s p n m l]; exact g_tells_ok k a b c d s p n m l h)
noncomputable def q_tells (k a b c d : Int) (s p : Bool) (n m : Int) (l : List LnD) : Prop × V := (InC (k, a, b, c, d, s, p, (n, m), l), (.bool true))
noncomputable def sp_tells : FSpec Tryd.prog where
  f := 3
  run := fun args => match args with
    | [.agg [.int .i64 k, .int .i64 a, .int .i64 b, .int .i64 c, .int .i64 d, v0_5, v0_6, .int .i64 n, .int .i64 m, v0_9]] => (match boolOf v0_5 with | some s => (match boolOf v0_6 with | some p => (match (asL Ln v0_9 : Option (List LnD)) with | some l => some (q_tells k a b c d s p n m l) | none => none) | none => none) | none => none)
    | _ => none
  ok := fun args pre r h hp => by
    try dsimp only at h
    split at h
    · rename_i k a b c d v0_5 v0_6 n m v0_9
      cases h0_5 : boolOf v0_5 with
      | none => rw [h0_5] at h; cases h
      | some s =>
      rw [h0_5] at h
      try dsimp only at h
      cases h0_6 : boolOf v0_6 with
      | none => rw [h0_6] at h; cases h
      | some p =>
      rw [h0_6] at h
      try dsimp only at h
      cases h0_9 : (asL Ln v0_9 : Option (List LnD)) with
      | none => rw [h0_9] at h; cases h
      | some l =>
      rw [h0_9] at h
      try dsimp only at h
      have h := Option.some.inj h
      unfold q_tells at h
      cases h
      exact (tells_pure k a b c d s p n m l hp).weak (.cons (Weak.agg (.cons (Weak.refl _) (.cons (Weak.refl _) (.cons (Weak.refl _) (.cons (Weak.refl _) (.cons (Weak.refl _) (.cons (boolOf_weak h0_5) (.cons (boolOf_weak h0_6) (.cons (Weak.refl _) (.cons (Weak.refl _) (.cons (asL_weak h0_9) .nil))))))))))) .nil)
    · cases h

theorem lineGo_len (s : By) : ∀ (n : Nat) (a e : Int) (ls : List LnD), (lineGo s n (a, e, ls)).2.2.length = ls.length + n
  | 0, a, e, ls => rfl
  | n + 1, a, e, ls => by
    unfold lineGo
    dsimp only
    rw [lineGo_len s n, List.length_append, List.length_singleton]
    omega
theorem cp_lines (s : By) : (linesF (cparseF s).1).length ≤ 50 := by
  by_cases e : (kindF s).2.2 = 0
  · rw [cp_rest e rfl]
    unfold restF
    split
    · split
      · exact Nat.zero_le _
      · show (tailF s (kindF s).1 (P0 s).1 (P0 s).2.1).2.2.length ≤ 50
        unfold tailF
        split
        · dsimp only
          rw [lineGo_len]
          have := within_in s (P0 s).1 (P0 s).2.1
          simp only [List.length_nil]
          omega
        · exact Nat.zero_le _
    · exact Nat.zero_le _
  · rw [cp_err e]
    exact Nat.zero_le _
noncomputable def env_reads (s : By) : Env where
  P := Tryd.prog
  ty := tys0
  specs := specsOf [sp_awake, sp_cparse, sp_rparse, sp_csame]
  frz := fun | 25 => true | 31 => true | 24 => true | 23 => true | _ => false
noncomputable def g_reads (s : By) : Prop := vc (env_reads s) (codeOf Tryd.f4) (start0 Tryd.f4 [.str s]) (exitK (tsOf Tryd.f4) [.bool] (true, ()))
def g_reads_vc (s : By) : Prop :=
  (decide ((3000 : Int) < (↑(List.length s) : Int)) = true → True ∧ (true, ()) = (true, ())) ∧ (decide ((3000 : Int) < (↑(List.length s) : Int)) = false → List.length s ≤ (10000 : Nat) ∧ List.length s ≤ (10000 : Nat) ∧ (cparseF s).fst.snd.snd.snd.snd.snd.snd.snd.snd.length ≤ (1000000000 : Nat) ∧ (sameC ((cparseF s).fst.fst, (cparseF s).fst.snd.fst, (cparseF s).fst.snd.snd.fst, (cparseF s).fst.snd.snd.snd.fst, (cparseF s).fst.snd.snd.snd.snd.fst, (cparseF s).fst.snd.snd.snd.snd.snd.fst, (cparseF s).fst.snd.snd.snd.snd.snd.snd.fst, ((cparseF s).fst.snd.snd.snd.snd.snd.snd.snd.fst.fst, (cparseF s).fst.snd.snd.snd.snd.snd.snd.snd.fst.snd), (cparseF s).fst.snd.snd.snd.snd.snd.snd.snd.snd) ((rparseF s).fst.fst, (rparseF s).fst.snd.fst, (rparseF s).fst.snd.snd.fst, (rparseF s).fst.snd.snd.snd.fst, (rparseF s).fst.snd.snd.snd.snd.fst, (rparseF s).fst.snd.snd.snd.snd.snd.fst, (rparseF s).fst.snd.snd.snd.snd.snd.snd.fst, ((rparseF s).fst.snd.snd.snd.snd.snd.snd.snd.fst.fst, (rparseF s).fst.snd.snd.snd.snd.snd.snd.snd.fst.snd), (rparseF s).fst.snd.snd.snd.snd.snd.snd.snd.snd) = true → (decide ((cparseF s).snd = (rparseF s).snd) = true → True ∧ (true, ()) = (true, ())) ∧ (decide ((cparseF s).snd = (rparseF s).snd) = !true → (false, ()) = (true, ()))) ∧ (sameC ((cparseF s).fst.fst, (cparseF s).fst.snd.fst, (cparseF s).fst.snd.snd.fst, (cparseF s).fst.snd.snd.snd.fst, (cparseF s).fst.snd.snd.snd.snd.fst, (cparseF s).fst.snd.snd.snd.snd.snd.fst, (cparseF s).fst.snd.snd.snd.snd.snd.snd.fst, ((cparseF s).fst.snd.snd.snd.snd.snd.snd.snd.fst.fst, (cparseF s).fst.snd.snd.snd.snd.snd.snd.snd.fst.snd), (cparseF s).fst.snd.snd.snd.snd.snd.snd.snd.snd) ((rparseF s).fst.fst, (rparseF s).fst.snd.fst, (rparseF s).fst.snd.snd.fst, (rparseF s).fst.snd.snd.snd.fst, (rparseF s).fst.snd.snd.snd.snd.fst, (rparseF s).fst.snd.snd.snd.snd.snd.fst, (rparseF s).fst.snd.snd.snd.snd.snd.snd.fst, ((rparseF s).fst.snd.snd.snd.snd.snd.snd.snd.fst.fst, (rparseF s).fst.snd.snd.snd.snd.snd.snd.snd.fst.snd), (rparseF s).fst.snd.snd.snd.snd.snd.snd.snd.snd) = !true → (false, ()) = (true, ())))
theorem g_reads_eq (s : By) : g_reads s = g_reads_vc s := by kernel_rfl
theorem g_reads_ok (s : By) : g_reads_vc s := by
  unfold g_reads_vc
  have hl := cp_lines s
  unfold linesF at hl
  simp only [rparse_eq, awS]
  simp
  intro hs
  omega
set_option maxRecDepth 20000 in
theorem reads_pure (s : By) : Pure Tryd.prog 4 [.str s] (.bool true) :=
  Pure.of_g (E := env_reads s) (ts := tsOf Tryd.f4) (ps := [.bool]) (r := (true, ())) (fn := Tryd.f4) (c := codeOf Tryd.f4) (specs_ok (P := Tryd.prog) rfl [sp_awake, sp_cparse, sp_rparse, sp_csame] [] rfl rfl) mixed Tryd.func4 rfl rfl (g := g_reads s) (by delta g_reads start0; first | with_reducible exact Eq.refl _ | exact Eq.refl _) (by rw [g_reads_eq s]; exact g_reads_ok s)
noncomputable def q_reads (s : By) : Prop × V := (True, (.bool true))
noncomputable def sp_reads : FSpec Tryd.prog where
  f := 4
  run := fun args => match args with
    | [.str s] => some (q_reads s)
    | _ => none
  ok := fun args pre r h hp => by
    try dsimp only at h
    split at h
    · rename_i s
      have h := Option.some.inj h
      unfold q_reads at h
      cases h
      exact (reads_pure s).weak (.cons (Weak.refl _) .nil)
    · cases h

end Go.Proofs.YtgdcjefnhcamgaaDoor
