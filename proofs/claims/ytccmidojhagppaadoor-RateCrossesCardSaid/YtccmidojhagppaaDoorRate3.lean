/-
  rate: what is set.
-/
import Derived.Test.YtccmidojhagppaaDoorRate2
namespace Go.Proofs.YtccmidojhagppaaDoor
open Go.Vm

/-- What is set; nothing where it may not be. -/
def setF (l : List Rt) (r : Rt) : List Rt × Int :=
  if mayR r = 0 then (if 0 ≤ lastF l r then (l.set (lastF l r).toNat r, 0) else if 2000 ≤ (l.length : Int) then ([], 3) else (l ++ [r], 0)) else ([], mayR r)
noncomputable def env_set (l : List Rt) (a b c p n d : Int) : Env where
  P := Tryd.prog
  ty := tys0
  specs := specsOf [sp_may, sp_last, sp_clone]
noncomputable def g_set (l : List Rt) (a b c p n d : Int) : Prop := vc (env_set l a b c p n d) (codeOf Tryd.f9) (start0 Tryd.f9 [.list .tmp RTy l, .agg [.int .i64 a, .int .i64 b, .int .i64 c, .int .i64 p, .int .i64 n, .int .i64 d]]) (exitK (tsOf Tryd.f9) [.list .part RTy, .int .i64] ((setF l (a, b, c, p, n, d)).1, (setF l (a, b, c, p, n, d)).2, ()))
def g_set_vc (l : List Rt) (a : Int) (b : Int) (c : Int) (p : Int) (n : Int) (d : Int) : Prop :=
  True ∧
  ((!decide (mayR (a, b, c, p, n, d) = (0 : Int))) = true → ([], mayR (a, b, c, p, n, d), ()) = ((setF l (a, b, c, p, n, d)).fst, (setF l (a, b, c, p, n, d)).snd, ())) ∧
    ((!decide (mayR (a, b, c, p, n, d) = (0 : Int))) = false →
      l.length ≤ (1000000 : Nat) ∧
        l.length ≤ (1000000 : Nat) ∧
          (decide ((0 : Int) ≤ lastF l (a, b, c, p, n, d)) = true →
              ((0 : Int) ≤ lastF l (a, b, c, p, n, d) ∧ lastF l (a, b, c, p, n, d) < (↑l.length : Int)) ∧
                (lastF l (a, b, c, p, n, d)).toNat < l.length ∧
                  ∀ (y : Int × Int × Int × Int × Int × Int),
                    l[(lastF l (a, b, c, p, n, d)).toNat]? = some y →
                      (l.set (lastF l (a, b, c, p, n, d)).toNat (a, b, c, p, n, d), (0 : Int), ()) = ((setF l (a, b, c, p, n, d)).fst, (setF l (a, b, c, p, n, d)).snd, ())) ∧
            (decide ((0 : Int) ≤ lastF l (a, b, c, p, n, d)) = false →
              (decide ((2000 : Int) ≤ (↑l.length : Int)) = true → ([], (3 : Int), ()) = ((setF l (a, b, c, p, n, d)).fst, (setF l (a, b, c, p, n, d)).snd, ())) ∧
                (decide ((2000 : Int) ≤ (↑l.length : Int)) = false →
                  ((l.length + (1 : Nat)) * (48 : Nat) ≤ (140737488355328 : Nat) ∧ l.length + (1 : Nat) ≤ (4611686018427387904 : Nat)) ∧
                    (l ++ [(a, b, c, p, n, d)], (0 : Int), ()) = ((setF l (a, b, c, p, n, d)).fst, (setF l (a, b, c, p, n, d)).snd, ()))))

theorem g_set_eq (l : List Rt) (a b c p n d : Int) : g_set l a b c p n d = g_set_vc l a b c p n d := by kernel_rfl
noncomputable def env_rset (l : List Rt) (a b c p n d : Int) : Env where
  P := Tryd.prog
  ty := tys0
  specs := specsOf [sp_rmay, sp_one]
  frz := fun | 26 => true | _ => false
  asArr := fun | 28 => true | _ => false
  heads := fun
    | 6 => some { slots := [(8, .int .i64), (7, .int .i64)], boxes := [], keep := [3], inv := fun _ (x : Int × Int × Unit) => 0 ≤ x.1 ∧ x.1 ≤ l.length ∧ x.2.1 = lastF (l.take x.1.toNat) (a, b, c, p, n, d), measure := fun _ (x : Int × Int × Unit) => (l.length - x.1).toNat }
    | _ => none
noncomputable def g_rset (l : List Rt) (a b c p n d : Int) : Prop := vc (env_rset l a b c p n d) (codeOf Tryd.f10) (start0 Tryd.f10 [.list .tmp RTy l, .agg [.int .i64 a, .int .i64 b, .int .i64 c, .int .i64 p, .int .i64 n, .int .i64 d]]) (exitK (tsOf Tryd.f10) [.list .part RTy, .int .i64] ((setF l (a, b, c, p, n, d)).1, (setF l (a, b, c, p, n, d)).2, ()))
def g_rset_vc (l : List Rt) (a : Int) (b : Int) (c : Int) (p : Int) (n : Int) (d : Int) : Prop :=
  True ∧
  ((!decide (mayR (a, b, c, p, n, d) = (0 : Int))) = true → ([], mayR (a, b, c, p, n, d), ()) = ((setF l (a, b, c, p, n, d)).fst, (setF l (a, b, c, p, n, d)).snd, ())) ∧
    ((!decide (mayR (a, b, c, p, n, d) = (0 : Int))) = false →
      ((some (Obj.box [V.int IntKind.i64 a, V.int IntKind.i64 b, V.int IntKind.i64 c, V.int IntKind.i64 p, V.int IntKind.i64 n, V.int IntKind.i64 d]) =
              some (Obj.box [V.int IntKind.i64 a, V.int IntKind.i64 b, V.int IntKind.i64 c, V.int IntKind.i64 p, V.int IntKind.i64 n, V.int IntKind.i64 d]) ∧
            True) ∧
          (0 : Int) ≤ (0 : Int) ∧ (0 : Int) ≤ (↑l.length : Int) ∧ (-1 : Int) = lastF (List.take (Int.toNat (0 : Int)) l) (a, b, c, p, n, d)) ∧
        ∀ (x : Int × Int × Unit),
          (0 : Int) ≤ x.fst ∧ x.fst ≤ (↑l.length : Int) ∧ x.snd.fst = lastF (List.take x.fst.toNat l) (a, b, c, p, n, d) →
            (decide (x.fst < (↑l.length : Int)) = true →
                ((0 : Int) ≤ x.fst ∧ x.fst < (↑l.length : Int)) ∧
                  ∀ (x_1 : Int × Int × Int × Int × Int × Int),
                    l[x.fst.toNat]? = some x_1 →
                      True ∧
                        (sameB (x_1.fst, x_1.snd.fst, x_1.snd.snd.fst, x_1.snd.snd.snd.fst, x_1.snd.snd.snd.snd.fst, x_1.snd.snd.snd.snd.snd) (a, b, c, p, n, d) = true →
                            ((-9223372036854775808 : Int) ≤ x.fst + (1 : Int) ∧ x.fst + (1 : Int) ≤ (9223372036854775807 : Int)) ∧
                              (some (Obj.box [V.int IntKind.i64 a, V.int IntKind.i64 b, V.int IntKind.i64 c, V.int IntKind.i64 p, V.int IntKind.i64 n, V.int IntKind.i64 d]) =
                                    some (Obj.box [V.int IntKind.i64 a, V.int IntKind.i64 b, V.int IntKind.i64 c, V.int IntKind.i64 p, V.int IntKind.i64 n, V.int IntKind.i64 d]) ∧
                                  True) ∧
                                ((0 : Int) ≤ x.fst + (1 : Int) ∧ x.fst + (1 : Int) ≤ (↑l.length : Int) ∧ x.fst = lastF (List.take (x.fst + (1 : Int)).toNat l) (a, b, c, p, n, d)) ∧
                                  ((↑l.length : Int) - (x.fst + (1 : Int))).toNat < ((↑l.length : Int) - x.fst).toNat) ∧
                          (sameB (x_1.fst, x_1.snd.fst, x_1.snd.snd.fst, x_1.snd.snd.snd.fst, x_1.snd.snd.snd.snd.fst, x_1.snd.snd.snd.snd.snd) (a, b, c, p, n, d) = false →
                            ((-9223372036854775808 : Int) ≤ x.fst + (1 : Int) ∧ x.fst + (1 : Int) ≤ (9223372036854775807 : Int)) ∧
                              (some (Obj.box [V.int IntKind.i64 a, V.int IntKind.i64 b, V.int IntKind.i64 c, V.int IntKind.i64 p, V.int IntKind.i64 n, V.int IntKind.i64 d]) =
                                    some (Obj.box [V.int IntKind.i64 a, V.int IntKind.i64 b, V.int IntKind.i64 c, V.int IntKind.i64 p, V.int IntKind.i64 n, V.int IntKind.i64 d]) ∧
                                  True) ∧
                                ((0 : Int) ≤ x.fst + (1 : Int) ∧ x.fst + (1 : Int) ≤ (↑l.length : Int) ∧ x.snd.fst = lastF (List.take (x.fst + (1 : Int)).toNat l) (a, b, c, p, n, d)) ∧
                                  ((↑l.length : Int) - (x.fst + (1 : Int))).toNat < ((↑l.length : Int) - x.fst).toNat)) ∧
              (decide (x.fst < (↑l.length : Int)) = false →
                (((0 : Nat) + l.length) * (48 : Nat) ≤ (140737488355328 : Nat) ∧ (0 : Nat) + l.length ≤ (4611686018427387904 : Nat)) ∧
                  (decide ((0 : Int) ≤ x.snd.fst) = true →
                      ((0 : Int) ≤ x.snd.fst ∧ x.snd.fst < (↑l.length : Int)) ∧
                        x.snd.fst.toNat < l.length ∧
                          ∀ (y : Int × Int × Int × Int × Int × Int),
                            l[x.snd.fst.toNat]? = some y → (l.set x.snd.fst.toNat (a, b, c, p, n, d), (0 : Int), ()) = ((setF l (a, b, c, p, n, d)).fst, (setF l (a, b, c, p, n, d)).snd, ())) ∧
                    (decide ((0 : Int) ≤ x.snd.fst) = false →
                      (decide ((2000 : Int) ≤ (↑l.length : Int)) = true → ([], (3 : Int), ()) = ((setF l (a, b, c, p, n, d)).fst, (setF l (a, b, c, p, n, d)).snd, ())) ∧
                        (decide ((2000 : Int) ≤ (↑l.length : Int)) = false →
                          ((l.length + (1 : Nat)) * (48 : Nat) ≤ (140737488355328 : Nat) ∧ l.length + (1 : Nat) ≤ (4611686018427387904 : Nat)) ∧
                            (l ++ [(a, b, c, p, n, d)], (0 : Int), ()) = ((setF l (a, b, c, p, n, d)).fst, (setF l (a, b, c, p, n, d)).snd, ())))))

theorem g_rset_eq (l : List Rt) (a b c p n d : Int) : g_rset l a b c p n d = g_rset_vc l a b c p n d := by kernel_rfl
theorem set_bad {l : List Rt} {r : Rt} (h : ¬ mayR r = 0) : setF l r = ([], mayR r) := by unfold setF; rw [if_neg h]
theorem set_there {l : List Rt} {r : Rt} (h : mayR r = 0) (k : 0 ≤ lastF l r) : setF l r = (l.set (lastF l r).toNat r, 0) := by unfold setF; rw [if_pos h, if_pos k]
theorem set_full {l : List Rt} {r : Rt} (h : mayR r = 0) (k : ¬ 0 ≤ lastF l r) (m : 2000 ≤ (l.length : Int)) : setF l r = ([], 3) := by unfold setF; rw [if_pos h, if_neg k, if_pos m]
theorem set_new {l : List Rt} {r : Rt} (h : mayR r = 0) (k : ¬ 0 ≤ lastF l r) (m : ¬ 2000 ≤ (l.length : Int)) : setF l r = (l ++ [r], 0) := by unfold setF; rw [if_pos h, if_neg k, if_neg m]
theorem last_lt (l : List Rt) (k : Rt) : lastF l k < l.length ∧ -1 ≤ lastF l k := by
  rcases last_spec k l with ⟨h1, _⟩ | ⟨h1, h2, _⟩ <;> omega
theorem g_set_ok (l : List Rt) (a b c p n d : Int) (h : l.length ≤ 1000000) : g_set_vc l a b c p n d := by
  have hl := last_lt l (a, b, c, p, n, d)
  unfold g_set_vc
  simp only [decide_eq_true_eq, decide_eq_false_iff_not, Bool.not_eq_true', Bool.not_eq_false']
  refine ⟨trivial, fun k => by rw [set_bad k], fun k => ⟨h, h, fun e => ⟨⟨e, hl.1⟩, by omega, fun _ _ => by rw [set_there k e]⟩, fun e => ⟨fun f => by rw [set_full k e f], fun f => ⟨⟨by omega, by omega⟩, by rw [set_new k e f]⟩⟩⟩⟩
set_option maxRecDepth 20000 in
theorem set_pure (l : List Rt) (a b c p n d : Int) (h : l.length ≤ 1000000) : Pure Tryd.prog 9 [.list .tmp RTy l, .agg [.int .i64 a, .int .i64 b, .int .i64 c, .int .i64 p, .int .i64 n, .int .i64 d]] (.tuple [.list .part RTy (setF l (a, b, c, p, n, d)).1, .int .i64 (setF l (a, b, c, p, n, d)).2]) :=
  Pure.of_g (E := env_set l a b c p n d) (ts := tsOf Tryd.f9) (ps := [.list .part RTy, .int .i64]) (r := ((setF l (a, b, c, p, n, d)).1, (setF l (a, b, c, p, n, d)).2, ())) (fn := Tryd.f9) (c := codeOf Tryd.f9) (specs_ok (P := Tryd.prog) rfl [sp_may, sp_last, sp_clone] [] rfl rfl) mixed Tryd.func9 rfl rfl (g := g_set l a b c p n d) (by delta g_set start0; first | with_reducible exact Eq.refl _ | exact Eq.refl _) (by rw [g_set_eq l a b c p n d]; exact g_set_ok l a b c p n d h)
noncomputable def q_set (l : List Rt) (a b c p n d : Int) : Prop × V := (l.length ≤ 1000000, (.tuple [.list .part RTy (setF l (a, b, c, p, n, d)).1, .int .i64 (setF l (a, b, c, p, n, d)).2]))
noncomputable def sp_set : FSpec Tryd.prog where
  f := 9
  run := fun args => match args with
    | [v0, .agg [.int .i64 a, .int .i64 b, .int .i64 c, .int .i64 p, .int .i64 n, .int .i64 d]] => (match (asL RTy v0 : Option (List Rt)) with | some l => some (q_set l a b c p n d) | none => none)
    | _ => none
  ok := fun args pre r h hp => by
    try dsimp only at h
    split at h
    · rename_i v0 a b c p n d
      cases h0 : (asL RTy v0 : Option (List Rt)) with
      | none => rw [h0] at h; cases h
      | some l =>
      rw [h0] at h
      try dsimp only at h
      have h := Option.some.inj h
      unfold q_set at h
      cases h
      exact (set_pure l a b c p n d hp).weak (.cons (asL_weak h0) (.cons (Weak.refl _) .nil))
    · cases h
theorem g_rset_ok (l : List Rt) (a b c p n d : Int) (h : l.length ≤ 1000000) : g_rset_vc l a b c p n d := by
  have hl := last_lt l (a, b, c, p, n, d)
  unfold g_rset_vc
  simp only [decide_eq_true_eq, decide_eq_false_iff_not, Bool.not_eq_true', Bool.not_eq_false']
  refine ⟨trivial, fun k => by rw [set_bad k], fun k => ⟨⟨⟨trivial, trivial⟩, by omega, by omega, rfl⟩, ?_⟩⟩
  rintro ⟨i, v, ⟨⟩⟩ ⟨h0, h1, hv⟩
  dsimp only at h0 h1 hv ⊢
  refine ⟨fun e => ⟨⟨h0, e⟩, fun x hx => ⟨trivial, fun m => ⟨by omega, ⟨trivial, trivial⟩, ⟨by omega, by omega, ?_⟩, by omega⟩, fun m => ⟨by omega, ⟨trivial, trivial⟩, ⟨by omega, by omega, ?_⟩, by omega⟩⟩⟩, fun e => ?_⟩
  · rw [show (i + 1).toNat = i.toNat + 1 by omega, last_next hx, if_pos m]
    omega
  · rw [show (i + 1).toNat = i.toNat + 1 by omega, last_next hx, if_neg (by rw [m]; decide)]
    exact hv
  · rw [List.take_of_length_le (by omega)] at hv
    subst hv
    exact ⟨⟨by omega, by omega⟩, fun f => ⟨⟨f, hl.1⟩, by omega, fun _ _ => by rw [set_there k f]⟩, fun f => ⟨fun g => by rw [set_full k f g], fun g => ⟨⟨by omega, by omega⟩, by rw [set_new k f g]⟩⟩⟩
set_option maxRecDepth 20000 in
theorem rset_pure (l : List Rt) (a b c p n d : Int) (h : l.length ≤ 1000000) : Pure Tryd.prog 10 [.list .tmp RTy l, .agg [.int .i64 a, .int .i64 b, .int .i64 c, .int .i64 p, .int .i64 n, .int .i64 d]] (.tuple [.list .part RTy (setF l (a, b, c, p, n, d)).1, .int .i64 (setF l (a, b, c, p, n, d)).2]) :=
  Pure.of_g (E := env_rset l a b c p n d) (ts := tsOf Tryd.f10) (ps := [.list .part RTy, .int .i64]) (r := ((setF l (a, b, c, p, n, d)).1, (setF l (a, b, c, p, n, d)).2, ())) (fn := Tryd.f10) (c := codeOf Tryd.f10) (specs_ok (P := Tryd.prog) rfl [sp_rmay, sp_one] [] rfl rfl) mixed Tryd.func10 rfl rfl (g := g_rset l a b c p n d) (by delta g_rset start0; first | with_reducible exact Eq.refl _ | exact Eq.refl _) (by rw [g_rset_eq l a b c p n d]; exact g_rset_ok l a b c p n d h)
noncomputable def q_rset (l : List Rt) (a b c p n d : Int) : Prop × V := (l.length ≤ 1000000, (.tuple [.list .part RTy (setF l (a, b, c, p, n, d)).1, .int .i64 (setF l (a, b, c, p, n, d)).2]))
noncomputable def sp_rset : FSpec Tryd.prog where
  f := 10
  run := fun args => match args with
    | [v0, .agg [.int .i64 a, .int .i64 b, .int .i64 c, .int .i64 p, .int .i64 n, .int .i64 d]] => (match (asL RTy v0 : Option (List Rt)) with | some l => some (q_rset l a b c p n d) | none => none)
    | _ => none
  ok := fun args pre r h hp => by
    try dsimp only at h
    split at h
    · rename_i v0 a b c p n d
      cases h0 : (asL RTy v0 : Option (List Rt)) with
      | none => rw [h0] at h; cases h
      | some l =>
      rw [h0] at h
      try dsimp only at h
      have h := Option.some.inj h
      unfold q_rset at h
      cases h
      exact (rset_pure l a b c p n d hp).weak (.cons (asL_weak h0) (.cons (Weak.refl _) .nil))
    · cases h

noncomputable def env_rsame (l m : List Rt) : Env where
  P := Tryd.prog
  ty := tys0
  heads := fun
    | 4 => some { slots := [(5, .int .i64)], boxes := [], inv := fun _ (x : Int × Unit) => 0 ≤ x.1 ∧ x.1 ≤ l.length ∧ l.take x.1.toNat = m.take x.1.toNat, measure := fun _ (x : Int × Unit) => (l.length - x.1).toNat }
    | _ => none
noncomputable def g_rsame (l m : List Rt) : Prop := vc (env_rsame l m) (codeOf Tryd.f11) (start0 Tryd.f11 [.list .tmp RTy l, .list .tmp RTy m]) (exitK (tsOf Tryd.f11) [.bool] (decide (l = m), ()))
def g_rsame_vc (l : List Rt) (m : List Rt) : Prop :=
  ((!decide ((↑l.length : Int) = (↑m.length : Int))) = true → (false, ()) = (decide (l = m), ())) ∧
  ((!decide ((↑l.length : Int) = (↑m.length : Int))) = false →
    (True ∧ (0 : Int) ≤ (0 : Int) ∧ (0 : Int) ≤ (↑l.length : Int) ∧ List.take (Int.toNat (0 : Int)) l = List.take (Int.toNat (0 : Int)) m) ∧
      ∀ (x : Int × Unit),
        (0 : Int) ≤ x.fst ∧ x.fst ≤ (↑l.length : Int) ∧ List.take x.fst.toNat l = List.take x.fst.toNat m →
          (decide (x.fst < (↑l.length : Int)) = true →
              ((0 : Int) ≤ x.fst ∧ x.fst < (↑l.length : Int)) ∧
                ∀ (x_1 : Int × Int × Int × Int × Int × Int),
                  l[x.fst.toNat]? = some x_1 →
                    ((0 : Int) ≤ x.fst ∧ x.fst < (↑m.length : Int)) ∧
                      ∀ (x_2 : Int × Int × Int × Int × Int × Int),
                        m[x.fst.toNat]? = some x_2 →
                          ((!(decide (x_1.fst = x_2.fst) &&
                                    (decide (x_1.snd.fst = x_2.snd.fst) &&
                                      (decide (x_1.snd.snd.fst = x_2.snd.snd.fst) &&
                                        (decide (x_1.snd.snd.snd.fst = x_2.snd.snd.snd.fst) &&
                                          (decide (x_1.snd.snd.snd.snd.fst = x_2.snd.snd.snd.snd.fst) && (decide (x_1.snd.snd.snd.snd.snd = x_2.snd.snd.snd.snd.snd) && true) && true)))))) =
                                true →
                              (false, ()) = (decide (l = m), ())) ∧
                            ((!(decide (x_1.fst = x_2.fst) &&
                                    (decide (x_1.snd.fst = x_2.snd.fst) &&
                                      (decide (x_1.snd.snd.fst = x_2.snd.snd.fst) &&
                                        (decide (x_1.snd.snd.snd.fst = x_2.snd.snd.snd.fst) &&
                                          (decide (x_1.snd.snd.snd.snd.fst = x_2.snd.snd.snd.snd.fst) && (decide (x_1.snd.snd.snd.snd.snd = x_2.snd.snd.snd.snd.snd) && true) && true)))))) =
                                false →
                              ((-9223372036854775808 : Int) ≤ x.fst + (1 : Int) ∧ x.fst + (1 : Int) ≤ (9223372036854775807 : Int)) ∧
                                True ∧
                                  ((0 : Int) ≤ x.fst + (1 : Int) ∧ x.fst + (1 : Int) ≤ (↑l.length : Int) ∧ List.take (x.fst + (1 : Int)).toNat l = List.take (x.fst + (1 : Int)).toNat m) ∧
                                    ((↑l.length : Int) - (x.fst + (1 : Int))).toNat < ((↑l.length : Int) - x.fst).toNat)) ∧
            (decide (x.fst < (↑l.length : Int)) = false → (true, ()) = (decide (l = m), ())))

theorem g_rsame_eq (l m : List Rt) : g_rsame l m = g_rsame_vc l m := by kernel_rfl
noncomputable def env_sameInts (l m : List Int) : Env where
  P := Tryd.prog
  ty := tys0
  heads := fun
    | 4 => some { slots := [(5, .int .i64)], boxes := [], inv := fun _ (x : Int × Unit) => 0 ≤ x.1 ∧ x.1 ≤ l.length ∧ l.take x.1.toNat = m.take x.1.toNat, measure := fun _ (x : Int × Unit) => (l.length - x.1).toNat }
    | _ => none
noncomputable def g_sameInts (l m : List Int) : Prop := vc (env_sameInts l m) (codeOf Tryd.f18) (start0 Tryd.f18 [.list .tmp I l, .list .tmp I m]) (exitK (tsOf Tryd.f18) [.bool] (decide (l = m), ()))
def g_sameInts_vc (l : List Int) (m : List Int) : Prop :=
  ((!decide ((↑l.length : Int) = (↑m.length : Int))) = true → (false, ()) = (decide (l = m), ())) ∧
  ((!decide ((↑l.length : Int) = (↑m.length : Int))) = false →
    (True ∧ (0 : Int) ≤ (0 : Int) ∧ (0 : Int) ≤ (↑l.length : Int) ∧ List.take (Int.toNat (0 : Int)) l = List.take (Int.toNat (0 : Int)) m) ∧
      ∀ (x : Int × Unit),
        (0 : Int) ≤ x.fst ∧ x.fst ≤ (↑l.length : Int) ∧ List.take x.fst.toNat l = List.take x.fst.toNat m →
          (decide (x.fst < (↑l.length : Int)) = true →
              ((0 : Int) ≤ x.fst ∧ x.fst < (↑l.length : Int)) ∧
                ∀ (x_1 : Int),
                  l[x.fst.toNat]? = some x_1 →
                    ((0 : Int) ≤ x.fst ∧ x.fst < (↑m.length : Int)) ∧
                      ∀ (x_2 : Int),
                        m[x.fst.toNat]? = some x_2 →
                          ((!decide (x_1 = x_2)) = true → (false, ()) = (decide (l = m), ())) ∧
                            ((!decide (x_1 = x_2)) = false →
                              ((-9223372036854775808 : Int) ≤ x.fst + (1 : Int) ∧ x.fst + (1 : Int) ≤ (9223372036854775807 : Int)) ∧
                                True ∧
                                  ((0 : Int) ≤ x.fst + (1 : Int) ∧ x.fst + (1 : Int) ≤ (↑l.length : Int) ∧ List.take (x.fst + (1 : Int)).toNat l = List.take (x.fst + (1 : Int)).toNat m) ∧
                                    ((↑l.length : Int) - (x.fst + (1 : Int))).toNat < ((↑l.length : Int) - x.fst).toNat)) ∧
            (decide (x.fst < (↑l.length : Int)) = false → (true, ()) = (decide (l = m), ())))

theorem g_sameInts_eq (l m : List Int) : g_sameInts l m = g_sameInts_vc l m := by kernel_rfl
abbrev twoL : List Rt := [(1, 2, 1, 0, 3, 2), (3, 2, 1, 0, 1, 2)]
noncomputable def env_two : Env where
  P := Tryd.prog
  ty := tys0
noncomputable def g_two  : Prop := vc (env_two ) (codeOf Tryd.f17) (start0 Tryd.f17 []) (exitK (tsOf Tryd.f17) [.list .full RTy] (twoL, ()))
def g_two_vc : Prop :=
  ([((1 : Int), (2 : Int), (1 : Int), (0 : Int), (3 : Int), (2 : Int)), ((3 : Int), (2 : Int), (1 : Int), (0 : Int), (1 : Int), (2 : Int))], ()) = (twoL, ())

theorem g_two_eq  : g_two  = g_two_vc  := by kernel_rfl
theorem take_eq {α : Type} {l m : List α} {i : Nat} {x y : α} (h : l.take i = m.take i) (hx : l[i]? = some x) (hy : m[i]? = some y) (e : x = y) : l.take (i + 1) = m.take (i + 1) := by
  rw [List.take_add_one, List.take_add_one, hx, hy, h, e]
theorem g_rsame_ok (l m : List Rt) (h : l.length ≤ 1000000 ∧ m.length ≤ 1000000) : g_rsame_vc l m := by
  obtain ⟨h1, h2⟩ := h
  unfold g_rsame_vc
  simp only [decide_eq_true_eq, decide_eq_false_iff_not, Bool.not_eq_true', Bool.not_eq_false', Bool.and_true, Bool.and_eq_true, Bool.and_eq_false_iff]
  refine ⟨fun k => ?_, fun k => ⟨⟨trivial, by omega, by omega, rfl⟩, ?_⟩⟩
  · rw [decide_eq_false (fun e => k (by rw [e]))]
  rintro ⟨i, ⟨⟩⟩ ⟨i0, i1, ht⟩
  dsimp only at i0 i1 ht ⊢
  refine ⟨fun c => ⟨⟨i0, c⟩, fun x hx => ⟨⟨i0, by omega⟩, fun y hy => ⟨fun d => ?_, fun d => ⟨by omega, trivial, ⟨by omega, by omega, ?_⟩, by omega⟩⟩⟩⟩, fun c => ?_⟩
  · rw [decide_eq_false]
    intro e
    subst e
    rw [hx] at hy
    cases hy
    rcases d with d | d | d | d | d | d <;> exact d rfl
  · rw [show (i + 1).toNat = i.toNat + 1 by omega]
    obtain ⟨x1, x2, x3, x4, x5, x6⟩ := x
    obtain ⟨y1, y2, y3, y4, y5, y6⟩ := y
    obtain ⟨d1, d2, d3, d4, d5, d6⟩ := d
    dsimp only at d1 d2 d3 d4 d5 d6
    exact take_eq ht hx hy (by rw [d1, d2, d3, d4, d5, d6])
  · rw [List.take_of_length_le (by omega), List.take_of_length_le (by omega)] at ht
    rw [decide_eq_true ht]
set_option maxRecDepth 20000 in
theorem rsame_pure (l m : List Rt) (h : l.length ≤ 1000000 ∧ m.length ≤ 1000000) : Pure Tryd.prog 11 [.list .tmp RTy l, .list .tmp RTy m] (.bool (decide (l = m))) :=
  Pure.of_g (E := env_rsame l m) (ts := tsOf Tryd.f11) (ps := [.bool]) (r := (decide (l = m), ())) (fn := Tryd.f11) (c := codeOf Tryd.f11) (specs_ok (P := Tryd.prog) rfl [] [] rfl rfl) mixed Tryd.func11 rfl rfl (g := g_rsame l m) (by delta g_rsame start0; first | with_reducible exact Eq.refl _ | exact Eq.refl _) (by rw [g_rsame_eq l m]; exact g_rsame_ok l m h)
noncomputable def q_rsame (l m : List Rt) : Prop × V := (l.length ≤ 1000000 ∧ m.length ≤ 1000000, (.bool (decide (l = m))))
noncomputable def sp_rsame : FSpec Tryd.prog where
  f := 11
  run := fun args => match args with
    | [v0, v1] => (match (asL RTy v0 : Option (List Rt)) with | some l => (match (asL RTy v1 : Option (List Rt)) with | some m => some (q_rsame l m) | none => none) | none => none)
    | _ => none
  ok := fun args pre r h hp => by
    try dsimp only at h
    split at h
    · rename_i v0 v1
      cases h0 : (asL RTy v0 : Option (List Rt)) with
      | none => rw [h0] at h; cases h
      | some l =>
      rw [h0] at h
      try dsimp only at h
      cases h1 : (asL RTy v1 : Option (List Rt)) with
      | none => rw [h1] at h; cases h
      | some m =>
      rw [h1] at h
      try dsimp only at h
      have h := Option.some.inj h
      unfold q_rsame at h
      cases h
      exact (rsame_pure l m hp).weak (.cons (asL_weak h0) (.cons (asL_weak h1) .nil))
    · cases h
theorem g_sameInts_ok (l m : List Int) (h : l.length ≤ 1000000 ∧ m.length ≤ 1000000) : g_sameInts_vc l m := by
  obtain ⟨h1, h2⟩ := h
  unfold g_sameInts_vc
  simp only [decide_eq_true_eq, decide_eq_false_iff_not, Bool.not_eq_true', Bool.not_eq_false']
  refine ⟨fun k => ?_, fun k => ⟨⟨trivial, by omega, by omega, rfl⟩, ?_⟩⟩
  · rw [decide_eq_false (fun e => k (by rw [e]))]
  rintro ⟨i, ⟨⟩⟩ ⟨i0, i1, ht⟩
  dsimp only at i0 i1 ht ⊢
  refine ⟨fun c => ⟨⟨i0, c⟩, fun x hx => ⟨⟨i0, by omega⟩, fun y hy => ⟨fun d => ?_, fun d => ⟨by omega, trivial, ⟨by omega, by omega, ?_⟩, by omega⟩⟩⟩⟩, fun c => ?_⟩
  · rw [decide_eq_false]
    intro e
    subst e
    rw [hx] at hy
    cases hy
    exact d rfl
  · rw [show (i + 1).toNat = i.toNat + 1 by omega]
    exact take_eq ht hx hy d
  · rw [List.take_of_length_le (by omega), List.take_of_length_le (by omega)] at ht
    rw [decide_eq_true ht]
set_option maxRecDepth 20000 in
theorem sameInts_pure (l m : List Int) (h : l.length ≤ 1000000 ∧ m.length ≤ 1000000) : Pure Tryd.prog 18 [.list .tmp I l, .list .tmp I m] (.bool (decide (l = m))) :=
  Pure.of_g (E := env_sameInts l m) (ts := tsOf Tryd.f18) (ps := [.bool]) (r := (decide (l = m), ())) (fn := Tryd.f18) (c := codeOf Tryd.f18) (specs_ok (P := Tryd.prog) rfl [] [] rfl rfl) mixed Tryd.func18 rfl rfl (g := g_sameInts l m) (by delta g_sameInts start0; first | with_reducible exact Eq.refl _ | exact Eq.refl _) (by rw [g_sameInts_eq l m]; exact g_sameInts_ok l m h)
noncomputable def q_sameInts (l m : List Int) : Prop × V := (l.length ≤ 1000000 ∧ m.length ≤ 1000000, (.bool (decide (l = m))))
noncomputable def sp_sameInts : FSpec Tryd.prog where
  f := 18
  run := fun args => match args with
    | [v0, v1] => (match (asL I v0 : Option (List Int)) with | some l => (match (asL I v1 : Option (List Int)) with | some m => some (q_sameInts l m) | none => none) | none => none)
    | _ => none
  ok := fun args pre r h hp => by
    try dsimp only at h
    split at h
    · rename_i v0 v1
      cases h0 : (asL I v0 : Option (List Int)) with
      | none => rw [h0] at h; cases h
      | some l =>
      rw [h0] at h
      try dsimp only at h
      cases h1 : (asL I v1 : Option (List Int)) with
      | none => rw [h1] at h; cases h
      | some m =>
      rw [h1] at h
      try dsimp only at h
      have h := Option.some.inj h
      unfold q_sameInts at h
      cases h
      exact (sameInts_pure l m hp).weak (.cons (asL_weak h0) (.cons (asL_weak h1) .nil))
    · cases h
theorem g_two_ok : g_two_vc := rfl
set_option maxRecDepth 20000 in
theorem two_pure  : Pure Tryd.prog 17 [] (.list .full RTy twoL) :=
  Pure.of_g (E := env_two ) (ts := tsOf Tryd.f17) (ps := [.list .full RTy]) (r := (twoL, ())) (fn := Tryd.f17) (c := codeOf Tryd.f17) (specs_ok (P := Tryd.prog) rfl [] [] rfl rfl) mixed Tryd.func17 rfl rfl (g := g_two ) (by delta g_two start0; first | with_reducible exact Eq.refl _ | exact Eq.refl _) (by rw [g_two_eq ]; exact g_two_ok )
noncomputable def q_two  : Prop × V := (True, (.list .full RTy twoL))
noncomputable def sp_two : FSpec Tryd.prog where
  f := 17
  run := fun args => match args with
    | [] => some (q_two )
    | _ => none
  ok := fun args pre r h hp => by
    try dsimp only at h
    split at h
    ·
      have h := Option.some.inj h
      unfold q_two at h
      cases h
      exact (two_pure ).weak .nil
    · cases h

end Go.Proofs.YtccmidojhagppaaDoor
