/-
  rate: whether rates may be, the last one of a key, what is found.
-/
import Derived.Test.YtccmidojhagppaaDoorRate1
namespace Go.Proofs.YtccmidojhagppaaDoor
open Go.Vm

/-- The first one that may not be, from a number on. -/
def badL : List Rt → Int → Int × Int
  | [], i => (i, 0)
  | x :: r, i => if mayR x = 0 then badL r (i + 1) else (i, mayR x)
def checkF (l : List Rt) : Int × Int := if 2000 < (l.length : Int) then (0, 3) else badL l 0
noncomputable def env_check (l : List Rt) : Env where
  P := Tryd.prog
  ty := tys0
  specs := specsOf [sp_may]
  heads := fun
    | 4 => some { slots := [(12, .int .i64)], boxes := [], inv := fun _ (x : Int × Unit) => 0 ≤ x.1 ∧ x.1 ≤ l.length ∧ badL l 0 = badL (l.drop x.1.toNat) x.1, measure := fun _ (x : Int × Unit) => (l.length - x.1).toNat }
    | _ => none
noncomputable def g_check (l : List Rt) : Prop := vc (env_check l) (codeOf Tryd.f7) (start0 Tryd.f7 [.list .tmp RTy l]) (exitK (tsOf Tryd.f7) [.int .i64, .int .i64] ((checkF l).1, (checkF l).2, ()))
def g_check_vc (l : List Rt) : Prop :=
  (decide ((2000 : Int) < (↑l.length : Int)) = true → ((0 : Int), (3 : Int), ()) = ((checkF l).fst, (checkF l).snd, ())) ∧
  (decide ((2000 : Int) < (↑l.length : Int)) = false →
    (True ∧ (0 : Int) ≤ (0 : Int) ∧ (0 : Int) ≤ (↑l.length : Int) ∧ badL l (0 : Int) = badL (List.drop (Int.toNat (0 : Int)) l) (0 : Int)) ∧
      ∀ (x : Int × Unit),
        (0 : Int) ≤ x.fst ∧ x.fst ≤ (↑l.length : Int) ∧ badL l (0 : Int) = badL (List.drop x.fst.toNat l) x.fst →
          (decide (x.fst < (↑l.length : Int)) = true →
              ((0 : Int) ≤ x.fst ∧ x.fst < (↑l.length : Int)) ∧
                ∀ (x_1 : Int × Int × Int × Int × Int × Int),
                  l[x.fst.toNat]? = some x_1 →
                    True ∧
                      ((!decide (mayR (x_1.fst, x_1.snd.fst, x_1.snd.snd.fst, x_1.snd.snd.snd.fst, x_1.snd.snd.snd.snd.fst, x_1.snd.snd.snd.snd.snd) = (0 : Int))) = true →
                          (x.fst, mayR (x_1.fst, x_1.snd.fst, x_1.snd.snd.fst, x_1.snd.snd.snd.fst, x_1.snd.snd.snd.snd.fst, x_1.snd.snd.snd.snd.snd), ()) = ((checkF l).fst, (checkF l).snd, ())) ∧
                        ((!decide (mayR (x_1.fst, x_1.snd.fst, x_1.snd.snd.fst, x_1.snd.snd.snd.fst, x_1.snd.snd.snd.snd.fst, x_1.snd.snd.snd.snd.snd) = (0 : Int))) = false →
                          ((-9223372036854775808 : Int) ≤ x.fst + (1 : Int) ∧ x.fst + (1 : Int) ≤ (9223372036854775807 : Int)) ∧
                            True ∧
                              ((0 : Int) ≤ x.fst + (1 : Int) ∧ x.fst + (1 : Int) ≤ (↑l.length : Int) ∧ badL l (0 : Int) = badL (List.drop (x.fst + (1 : Int)).toNat l) (x.fst + (1 : Int))) ∧
                                ((↑l.length : Int) - (x.fst + (1 : Int))).toNat < ((↑l.length : Int) - x.fst).toNat)) ∧
            (decide (x.fst < (↑l.length : Int)) = false → ((↑l.length : Int), (0 : Int), ()) = ((checkF l).fst, (checkF l).snd, ())))

theorem g_check_eq (l : List Rt) : g_check l = g_check_vc l := by kernel_rfl
noncomputable def env_rcheckl (l : List Rt) : Env where
  P := Tryd.prog
  ty := tys0
  specs := specsOf [sp_rmay]
  heads := fun
    | 4 => some { slots := [(4, .int .i64)], boxes := [], inv := fun _ (x : Int × Unit) => 0 ≤ x.1 ∧ x.1 ≤ l.length ∧ badL l 0 = badL (l.drop x.1.toNat) x.1, measure := fun _ (x : Int × Unit) => (l.length - x.1).toNat }
    | _ => none
noncomputable def g_rcheckl (l : List Rt) : Prop := vc (env_rcheckl l) (codeOf Tryd.f8) (start0 Tryd.f8 [.list .tmp RTy l]) (exitK (tsOf Tryd.f8) [.int .i64, .int .i64] ((checkF l).1, (checkF l).2, ()))
def g_rcheckl_vc (l : List Rt) : Prop :=
  (decide ((2000 : Int) < (↑l.length : Int)) = true → ((0 : Int), (3 : Int), ()) = ((checkF l).fst, (checkF l).snd, ())) ∧
  (decide ((2000 : Int) < (↑l.length : Int)) = false →
    (True ∧ (0 : Int) ≤ (0 : Int) ∧ (0 : Int) ≤ (↑l.length : Int) ∧ badL l (0 : Int) = badL (List.drop (Int.toNat (0 : Int)) l) (0 : Int)) ∧
      ∀ (x : Int × Unit),
        (0 : Int) ≤ x.fst ∧ x.fst ≤ (↑l.length : Int) ∧ badL l (0 : Int) = badL (List.drop x.fst.toNat l) x.fst →
          (decide (x.fst < (↑l.length : Int)) = true →
              ((0 : Int) ≤ x.fst ∧ x.fst < (↑l.length : Int)) ∧
                ∀ (x_1 : Int × Int × Int × Int × Int × Int),
                  l[x.fst.toNat]? = some x_1 →
                    True ∧
                      ((!decide (mayR (x_1.fst, x_1.snd.fst, x_1.snd.snd.fst, x_1.snd.snd.snd.fst, x_1.snd.snd.snd.snd.fst, x_1.snd.snd.snd.snd.snd) = (0 : Int))) = true →
                          (x.fst, mayR (x_1.fst, x_1.snd.fst, x_1.snd.snd.fst, x_1.snd.snd.snd.fst, x_1.snd.snd.snd.snd.fst, x_1.snd.snd.snd.snd.snd), ()) = ((checkF l).fst, (checkF l).snd, ())) ∧
                        ((!decide (mayR (x_1.fst, x_1.snd.fst, x_1.snd.snd.fst, x_1.snd.snd.snd.fst, x_1.snd.snd.snd.snd.fst, x_1.snd.snd.snd.snd.snd) = (0 : Int))) = false →
                          ((-9223372036854775808 : Int) ≤ x.fst + (1 : Int) ∧ x.fst + (1 : Int) ≤ (9223372036854775807 : Int)) ∧
                            True ∧
                              ((0 : Int) ≤ x.fst + (1 : Int) ∧ x.fst + (1 : Int) ≤ (↑l.length : Int) ∧ badL l (0 : Int) = badL (List.drop (x.fst + (1 : Int)).toNat l) (x.fst + (1 : Int))) ∧
                                ((↑l.length : Int) - (x.fst + (1 : Int))).toNat < ((↑l.length : Int) - x.fst).toNat)) ∧
            (decide (x.fst < (↑l.length : Int)) = false → ((↑l.length : Int), (0 : Int), ()) = ((checkF l).fst, (checkF l).snd, ())))

theorem g_rcheckl_eq (l : List Rt) : g_rcheckl l = g_rcheckl_vc l := by kernel_rfl
noncomputable def env_last (l : List Rt) (a b c p n d : Int) : Env where
  P := Tryd.prog
  ty := tys0
  specs := specsOf [sp_key]
  frz := fun | 19 => true | _ => false
  heads := fun
    | 3 => some { slots := [(5, .int .i64)], boxes := [], keep := [3], inv := fun _ (x : Int × Unit) => -1 ≤ x.1 ∧ x.1 < l.length ∧ lastF l (a, b, c, p, n, d) = lastF (l.take (x.1 + 1).toNat) (a, b, c, p, n, d), measure := fun _ (x : Int × Unit) => (x.1 + 1).toNat }
    | _ => none
noncomputable def g_last (l : List Rt) (a b c p n d : Int) : Prop := vc (env_last l a b c p n d) (codeOf Tryd.f23) (start0 Tryd.f23 [.list .tmp RTy l, .agg [.int .i64 a, .int .i64 b, .int .i64 c, .int .i64 p, .int .i64 n, .int .i64 d]]) (exitK (tsOf Tryd.f23) [.int .i64] (lastF l (a, b, c, p, n, d), ()))
def g_last_vc (l : List Rt) (a : Int) (b : Int) (c : Int) (p : Int) (n : Int) (d : Int) : Prop :=
  True ∧
  ((-9223372036854775808 : Int) ≤ (↑l.length : Int) - (1 : Int) ∧ (↑l.length : Int) - (1 : Int) ≤ (9223372036854775807 : Int)) ∧
    ((some (Obj.box [V.int IntKind.i64 a, V.int IntKind.i64 b, V.int IntKind.i64 c, V.int IntKind.i64 p, V.int IntKind.i64 (0 : Int), V.int IntKind.i64 (0 : Int)]) =
            some (Obj.box [V.int IntKind.i64 a, V.int IntKind.i64 b, V.int IntKind.i64 c, V.int IntKind.i64 p, V.int IntKind.i64 (0 : Int), V.int IntKind.i64 (0 : Int)]) ∧
          True) ∧
        (-1 : Int) ≤ (↑l.length : Int) - (1 : Int) ∧
          (↑l.length : Int) - (1 : Int) < (↑l.length : Int) ∧ lastF l (a, b, c, p, n, d) = lastF (List.take ((↑l.length : Int) - (1 : Int) + (1 : Int)).toNat l) (a, b, c, p, n, d)) ∧
      ∀ (x : Int × Unit),
        (-1 : Int) ≤ x.fst ∧ x.fst < (↑l.length : Int) ∧ lastF l (a, b, c, p, n, d) = lastF (List.take (x.fst + (1 : Int)).toNat l) (a, b, c, p, n, d) →
          (decide ((0 : Int) ≤ x.fst) = true →
              ((0 : Int) ≤ x.fst ∧ x.fst < (↑l.length : Int)) ∧
                ∀ (x_1 : Int × Int × Int × Int × Int × Int),
                  l[x.fst.toNat]? = some x_1 →
                    True ∧
                      ((decide (x_1.fst = a) &&
                              (decide (x_1.snd.fst = b) &&
                                (decide (x_1.snd.snd.fst = c) && (decide (x_1.snd.snd.snd.fst = p) && (decide ((0 : Int) = (0 : Int)) && (decide ((0 : Int) = (0 : Int)) && true) && true))))) =
                            true →
                          (x.fst, ()) = (lastF l (a, b, c, p, n, d), ())) ∧
                        ((decide (x_1.fst = a) &&
                              (decide (x_1.snd.fst = b) &&
                                (decide (x_1.snd.snd.fst = c) && (decide (x_1.snd.snd.snd.fst = p) && (decide ((0 : Int) = (0 : Int)) && (decide ((0 : Int) = (0 : Int)) && true) && true))))) =
                            false →
                          ((-9223372036854775808 : Int) ≤ x.fst - (1 : Int) ∧ x.fst - (1 : Int) ≤ (9223372036854775807 : Int)) ∧
                            (some (Obj.box [V.int IntKind.i64 a, V.int IntKind.i64 b, V.int IntKind.i64 c, V.int IntKind.i64 p, V.int IntKind.i64 (0 : Int), V.int IntKind.i64 (0 : Int)]) =
                                  some (Obj.box [V.int IntKind.i64 a, V.int IntKind.i64 b, V.int IntKind.i64 c, V.int IntKind.i64 p, V.int IntKind.i64 (0 : Int), V.int IntKind.i64 (0 : Int)]) ∧
                                True) ∧
                              ((-1 : Int) ≤ x.fst - (1 : Int) ∧
                                  x.fst - (1 : Int) < (↑l.length : Int) ∧ lastF l (a, b, c, p, n, d) = lastF (List.take (x.fst - (1 : Int) + (1 : Int)).toNat l) (a, b, c, p, n, d)) ∧
                                (x.fst - (1 : Int) + (1 : Int)).toNat < (x.fst + (1 : Int)).toNat)) ∧
            (decide ((0 : Int) ≤ x.fst) = false → ((-1 : Int), ()) = (lastF l (a, b, c, p, n, d), ()))

theorem g_last_eq (l : List Rt) (a b c p n d : Int) : g_last l a b c p n d = g_last_vc l a b c p n d := by kernel_rfl
theorem bad_next {l : List Rt} {i : Int} {x : Rt} (h0 : 0 ≤ i) (hx : l[i.toNat]? = some x) : badL (l.drop i.toNat) i = if mayR x = 0 then badL (l.drop (i + 1).toNat) (i + 1) else (i, mayR x) := by
  obtain ⟨h1, h2⟩ := List.getElem?_eq_some_iff.1 hx
  rw [List.drop_eq_getElem_cons h1, h2, show (i + 1).toNat = i.toNat + 1 by omega]
  rfl
theorem check_big {l : List Rt} (h : 2000 < (l.length : Int)) : checkF l = (0, 3) := by unfold checkF; rw [if_pos h]
theorem check_small {l : List Rt} (h : ¬ 2000 < (l.length : Int)) : checkF l = badL l 0 := by unfold checkF; rw [if_neg h]
theorem g_check_ok (l : List Rt) : g_check_vc l := by
  unfold g_check_vc
  simp only [decide_eq_true_eq, decide_eq_false_iff_not, Bool.not_eq_true', Bool.not_eq_false']
  refine ⟨fun c => by rw [check_big c], fun c => ⟨⟨trivial, by omega, by omega, rfl⟩, ?_⟩⟩
  rw [check_small c]
  rintro ⟨i, ⟨⟩⟩ ⟨h0, h1, hb⟩
  dsimp only at h0 h1 hb ⊢
  rw [hb]
  refine ⟨fun d => ⟨⟨h0, d⟩, fun x hx => ⟨trivial, fun k => ?_, fun k => ⟨by omega, trivial, ⟨by omega, by omega, ?_⟩, by omega⟩⟩⟩, fun d => ?_⟩
  · rw [bad_next h0 hx, if_neg k]
  · rw [bad_next h0 hx, if_pos k]
  · rw [List.drop_of_length_le (by omega)]
    have : i = l.length := by omega
    rw [this]
    rfl
set_option maxRecDepth 20000 in
theorem check_pure (l : List Rt) : Pure Tryd.prog 7 [.list .tmp RTy l] (.tuple [.int .i64 (checkF l).1, .int .i64 (checkF l).2]) :=
  Pure.of_g (E := env_check l) (ts := tsOf Tryd.f7) (ps := [.int .i64, .int .i64]) (r := ((checkF l).1, (checkF l).2, ())) (fn := Tryd.f7) (c := codeOf Tryd.f7) (specs_ok (P := Tryd.prog) rfl [sp_may] [] rfl rfl) mixed Tryd.func7 rfl rfl (g := g_check l) (by delta g_check start0; first | with_reducible exact Eq.refl _ | exact Eq.refl _) (by rw [g_check_eq l]; exact g_check_ok l)
noncomputable def q_check (l : List Rt) : Prop × V := (True, (.tuple [.int .i64 (checkF l).1, .int .i64 (checkF l).2]))
noncomputable def sp_check : FSpec Tryd.prog where
  f := 7
  run := fun args => match args with
    | [v0] => (match (asL RTy v0 : Option (List Rt)) with | some l => some (q_check l) | none => none)
    | _ => none
  ok := fun args pre r h hp => by
    try dsimp only at h
    split at h
    · rename_i v0
      cases h0 : (asL RTy v0 : Option (List Rt)) with
      | none => rw [h0] at h; cases h
      | some l =>
      rw [h0] at h
      try dsimp only at h
      have h := Option.some.inj h
      unfold q_check at h
      cases h
      exact (check_pure l).weak (.cons (asL_weak h0) .nil)
    · cases h
theorem g_rcheckl_ok (l : List Rt) : g_rcheckl_vc l := by
  unfold g_rcheckl_vc
  simp only [decide_eq_true_eq, decide_eq_false_iff_not, Bool.not_eq_true', Bool.not_eq_false']
  refine ⟨fun c => by rw [check_big c], fun c => ⟨⟨trivial, by omega, by omega, rfl⟩, ?_⟩⟩
  rw [check_small c]
  rintro ⟨i, ⟨⟩⟩ ⟨h0, h1, hb⟩
  dsimp only at h0 h1 hb ⊢
  rw [hb]
  refine ⟨fun d => ⟨⟨h0, d⟩, fun x hx => ⟨trivial, fun k => ?_, fun k => ⟨by omega, trivial, ⟨by omega, by omega, ?_⟩, by omega⟩⟩⟩, fun d => ?_⟩
  · rw [bad_next h0 hx, if_neg k]
  · rw [bad_next h0 hx, if_pos k]
  · rw [List.drop_of_length_le (by omega)]
    have : i = l.length := by omega
    rw [this]
    rfl
set_option maxRecDepth 20000 in
theorem rcheckl_pure (l : List Rt) : Pure Tryd.prog 8 [.list .tmp RTy l] (.tuple [.int .i64 (checkF l).1, .int .i64 (checkF l).2]) :=
  Pure.of_g (E := env_rcheckl l) (ts := tsOf Tryd.f8) (ps := [.int .i64, .int .i64]) (r := ((checkF l).1, (checkF l).2, ())) (fn := Tryd.f8) (c := codeOf Tryd.f8) (specs_ok (P := Tryd.prog) rfl [sp_rmay] [] rfl rfl) mixed Tryd.func8 rfl rfl (g := g_rcheckl l) (by delta g_rcheckl start0; first | with_reducible exact Eq.refl _ | exact Eq.refl _) (by rw [g_rcheckl_eq l]; exact g_rcheckl_ok l)
noncomputable def q_rcheckl (l : List Rt) : Prop × V := (True, (.tuple [.int .i64 (checkF l).1, .int .i64 (checkF l).2]))
noncomputable def sp_rcheckl : FSpec Tryd.prog where
  f := 8
  run := fun args => match args with
    | [v0] => (match (asL RTy v0 : Option (List Rt)) with | some l => some (q_rcheckl l) | none => none)
    | _ => none
  ok := fun args pre r h hp => by
    try dsimp only at h
    split at h
    · rename_i v0
      cases h0 : (asL RTy v0 : Option (List Rt)) with
      | none => rw [h0] at h; cases h
      | some l =>
      rw [h0] at h
      try dsimp only at h
      have h := Option.some.inj h
      unfold q_rcheckl at h
      cases h
      exact (rcheckl_pure l).weak (.cons (asL_weak h0) .nil)
    · cases h
theorem same_eq {x : Rt} {a b c p n d : Int} : (decide (x.1 = a) && (decide (x.2.1 = b) && (decide (x.2.2.1 = c) && decide (x.2.2.2.1 = p)))) = sameB x (a, b, c, p, n, d) := by
  unfold sameB
  rw [← Bool.decide_and, ← Bool.decide_and, ← Bool.decide_and]
theorem g_last_ok (l : List Rt) (a b c p n d : Int) (h : l.length ≤ 1000000) : g_last_vc l a b c p n d := by
  unfold g_last_vc
  simp only [decide_true, Bool.and_true]
  refine ⟨trivial, by omega, ⟨⟨trivial, trivial⟩, by omega, by omega, ?_⟩, ?_⟩
  · rw [List.take_of_length_le (by omega)]
  rintro ⟨i, ⟨⟩⟩ ⟨h0, h1, hb⟩
  dsimp only at h0 h1 hb ⊢
  rw [decide_eq_true_eq, decide_eq_false_iff_not]
  refine ⟨fun e => ⟨⟨e, h1⟩, fun x hx => ⟨trivial, fun k => ?_, fun k => ⟨by omega, ⟨trivial, trivial⟩, ⟨by omega, by omega, ?_⟩, by omega⟩⟩⟩, fun e => ?_⟩
  · rw [same_eq (n := n) (d := d)] at k
    rw [hb, show (i + 1).toNat = i.toNat + 1 by omega, last_next hx, if_pos k, show ((i.toNat : Nat) : Int) = i by omega]
  · rw [same_eq (n := n) (d := d)] at k
    rw [hb, show (i + 1).toNat = i.toNat + 1 by omega, last_next hx, if_neg (by rw [k]; decide), show (i - 1 + 1).toNat = i.toNat by omega]
  · have : i = -1 := by omega
    subst this
    rw [hb]
    rfl
set_option maxRecDepth 20000 in
theorem last_pure (l : List Rt) (a b c p n d : Int) (h : l.length ≤ 1000000) : Pure Tryd.prog 23 [.list .tmp RTy l, .agg [.int .i64 a, .int .i64 b, .int .i64 c, .int .i64 p, .int .i64 n, .int .i64 d]] (.int .i64 (lastF l (a, b, c, p, n, d))) :=
  Pure.of_g (E := env_last l a b c p n d) (ts := tsOf Tryd.f23) (ps := [.int .i64]) (r := (lastF l (a, b, c, p, n, d), ())) (fn := Tryd.f23) (c := codeOf Tryd.f23) (specs_ok (P := Tryd.prog) rfl [sp_key] [] rfl rfl) mixed Tryd.func23 rfl rfl (g := g_last l a b c p n d) (by delta g_last start0; first | with_reducible exact Eq.refl _ | exact Eq.refl _) (by rw [g_last_eq l a b c p n d]; exact g_last_ok l a b c p n d h)
noncomputable def q_last (l : List Rt) (a b c p n d : Int) : Prop × V := (l.length ≤ 1000000, (.int .i64 (lastF l (a, b, c, p, n, d))))
noncomputable def sp_last : FSpec Tryd.prog where
  f := 23
  run := fun args => match args with
    | [v0, .agg [.int .i64 a, .int .i64 b, .int .i64 c, .int .i64 p, .int .i64 n, .int .i64 d]] => (match (asL RTy v0 : Option (List Rt)) with | some l => some (q_last l a b c p n d) | none => none)
    | _ => none
  ok := fun args pre r h hp => by
    try dsimp only at h
    split at h
    · rename_i v0 a b c p n d
      cases h0 : (asL RTy v0 : Option (List Rt)) with
      | none => rw [h0] at h; cases h
      | some l =>
      rw [h0] at h
      try dsimp only at h
      have h := Option.some.inj h
      unfold q_last at h
      cases h
      exact (last_pure l a b c p n d hp).weak (.cons (asL_weak h0) (.cons (Weak.refl _) .nil))
    · cases h

noncomputable def env_find (l : List Rt) (a b c p n d : Int) : Env where
  P := Tryd.prog
  ty := tys0
  specs := specsOf [sp_last]
abbrev ann_find : Ann := { slots := numP 0 [.int .i64, .int .i64, .bool], boxes := [], inv := fun _ _ => True }
noncomputable def g_find (l : List Rt) (a b c p n d : Int) : Prop := vc (env_find l a b c p n d) (codeOf Tryd.f12) (start0 Tryd.f12 [.list .tmp RTy l, .agg [.int .i64 a, .int .i64 b, .int .i64 c, .int .i64 p, .int .i64 n, .int .i64 d]]) (exitG (env_find l a b c p n d).P Tryd.f12.results.toList [some 2, none] (env_find l a b c p n d).pins ann_find ((findF l (a, b, c, p, n, d)).1.1, (findF l (a, b, c, p, n, d)).1.2, (findF l (a, b, c, p, n, d)).2, ()))
def g_find_vc (l : List Rt) (a : Int) (b : Int) (c : Int) (p : Int) (n : Int) (d : Int) : Prop :=
  l.length ≤ (1000000 : Nat) ∧
  (decide (lastF l (a, b, c, p, n, d) < (0 : Int)) = true →
      True ∧ ((0 : Int), (0 : Int), false, ()) = ((findF l (a, b, c, p, n, d)).fst.fst, (findF l (a, b, c, p, n, d)).fst.snd, (findF l (a, b, c, p, n, d)).snd, ())) ∧
    (decide (lastF l (a, b, c, p, n, d) < (0 : Int)) = false →
      ((0 : Int) ≤ lastF l (a, b, c, p, n, d) ∧ lastF l (a, b, c, p, n, d) < (↑l.length : Int)) ∧
        ∀ (x : Int × Int × Int × Int × Int × Int),
          l[(lastF l (a, b, c, p, n, d)).toNat]? = some x →
            True ∧ (x.snd.snd.snd.snd.fst, x.snd.snd.snd.snd.snd, true, ()) = ((findF l (a, b, c, p, n, d)).fst.fst, (findF l (a, b, c, p, n, d)).fst.snd, (findF l (a, b, c, p, n, d)).snd, ()))

theorem g_find_eq (l : List Rt) (a b c p n d : Int) : g_find l a b c p n d = g_find_vc l a b c p n d := by kernel_rfl
noncomputable def env_one (a b c p n d e f g q m t : Int) : Env where
  P := Tryd.prog
  ty := tys0
noncomputable def g_one (a b c p n d e f g q m t : Int) : Prop := vc (env_one a b c p n d e f g q m t) (codeOf Tryd.f13) (start0 Tryd.f13 [.agg [.int .i64 a, .int .i64 b, .int .i64 c, .int .i64 p, .int .i64 n, .int .i64 d], .agg [.int .i64 e, .int .i64 f, .int .i64 g, .int .i64 q, .int .i64 m, .int .i64 t]]) (exitK (tsOf Tryd.f13) [.bool] (sameB (a, b, c, p, n, d) (e, f, g, q, m, t), ()))
def g_one_vc (a : Int) (b : Int) (c : Int) (p : Int) (n : Int) (d : Int) (e : Int) (f : Int) (g : Int) (q : Int) (m : Int) (t : Int) : Prop :=
  (decide (a = e) = true →
    (decide (b = f) = true →
        (decide (c = g) = true → (decide (p = q), ()) = (sameB (a, b, c, p, n, d) (e, f, g, q, m, t), ())) ∧
          (decide (c = g) = !true → (false, ()) = (sameB (a, b, c, p, n, d) (e, f, g, q, m, t), ()))) ∧
      (decide (b = f) = !true → (false, ()) = (sameB (a, b, c, p, n, d) (e, f, g, q, m, t), ()))) ∧
  (decide (a = e) = !true → (false, ()) = (sameB (a, b, c, p, n, d) (e, f, g, q, m, t), ()))

theorem g_one_eq (a b c p n d e f g q m t : Int) : g_one a b c p n d e f g q m t = g_one_vc a b c p n d e f g q m t := by kernel_rfl
noncomputable def env_clone (l : List Rt) : Env where
  P := Tryd.prog
  ty := tys0
noncomputable def g_clone (l : List Rt) : Prop := vc (env_clone l) (codeOf Tryd.f22) (start0 Tryd.f22 [.list .tmp RTy l]) (exitK (tsOf Tryd.f22) [.slc 0 RTy] (l, ()))
def g_clone_vc (l : List Rt) : Prop :=
  ((true = true → l.length = (0 : Nat)) → ([], ()) = (l, ())) ∧
  ((false = true → l.length = (0 : Nat)) →
    (((0 : Nat) + l.length) * (48 : Nat) ≤ (140737488355328 : Nat) ∧ (0 : Nat) + l.length ≤ (4611686018427387904 : Nat) ∧ ((0 : Nat) < l.length ∨ (0 : Nat) = (0 : Nat))) ∧ (l, ()) = (l, ()))

theorem g_clone_eq (l : List Rt) : g_clone l = g_clone_vc l := by kernel_rfl
theorem g_find_ok (l : List Rt) (a b c p n d : Int) (h : l.length ≤ 1000000) : g_find_vc l a b c p n d := by
  unfold g_find_vc
  simp only [decide_eq_true_eq, decide_eq_false_iff_not]
  refine ⟨h, fun k => ⟨trivial, by rw [find_none k]⟩, fun k => ⟨⟨by omega, ?_⟩, fun x hx => ⟨trivial, by rw [find_some k hx]⟩⟩⟩
  rcases last_spec (a, b, c, p, n, d) l with ⟨h1, _⟩ | ⟨_, h2, _⟩
  · omega
  · exact h2
set_option maxRecDepth 20000 in
theorem find_pure (l : List Rt) (a b c p n d : Int) (h : l.length ≤ 1000000) : Pure Tryd.prog 12 [.list .tmp RTy l, .agg [.int .i64 a, .int .i64 b, .int .i64 c, .int .i64 p, .int .i64 n, .int .i64 d]] (.tuple [.agg [.int .i64 (findF l (a, b, c, p, n, d)).1.1, .int .i64 (findF l (a, b, c, p, n, d)).1.2], .bool (findF l (a, b, c, p, n, d)).2]) :=
  Pure.of_gG (E := env_find l a b c p n d) (sh := [some 2, none]) (ann := ann_find) (x := ((findF l (a, b, c, p, n, d)).1.1, (findF l (a, b, c, p, n, d)).1.2, (findF l (a, b, c, p, n, d)).2, ())) (fn := Tryd.f12) (c := codeOf Tryd.f12) (specs_ok (P := Tryd.prog) rfl [sp_last] [] rfl rfl) mixed Tryd.func12 rfl rfl rfl rfl rfl (g := g_find l a b c p n d) (by delta g_find start0; first | with_reducible exact Eq.refl _ | exact Eq.refl _) (by rw [g_find_eq l a b c p n d]; exact g_find_ok l a b c p n d h)
noncomputable def q_find (l : List Rt) (a b c p n d : Int) : Prop × V := (l.length ≤ 1000000, (.tuple [.agg [.int .i64 (findF l (a, b, c, p, n, d)).1.1, .int .i64 (findF l (a, b, c, p, n, d)).1.2], .bool (findF l (a, b, c, p, n, d)).2]))
noncomputable def sp_find : FSpec Tryd.prog where
  f := 12
  run := fun args => match args with
    | [v0, .agg [.int .i64 a, .int .i64 b, .int .i64 c, .int .i64 p, .int .i64 n, .int .i64 d]] => (match (asL RTy v0 : Option (List Rt)) with | some l => some (q_find l a b c p n d) | none => none)
    | _ => none
  ok := fun args pre r h hp => by
    try dsimp only at h
    split at h
    · rename_i v0 a b c p n d
      cases h0 : (asL RTy v0 : Option (List Rt)) with
      | none => rw [h0] at h; cases h
      | some l =>
      rw [h0] at h
      try dsimp only at h
      have h := Option.some.inj h
      unfold q_find at h
      cases h
      exact (find_pure l a b c p n d hp).weak (.cons (asL_weak h0) (.cons (Weak.refl _) .nil))
    · cases h
theorem g_one_ok (a b c p n d e f g q m t : Int) : g_one_vc a b c p n d e f g q m t := by
  unfold g_one_vc sameB
  simp only [decide_eq_true_eq, decide_eq_false_iff_not, Bool.not_true, Prod.mk.injEq, and_true]
  refine ⟨fun h1 => ⟨fun h2 => ⟨fun h3 => decide_eq_decide.2 ⟨fun h => ⟨h1, h2, h3, h⟩, fun h => h.2.2.2⟩, fun h3 => ?_⟩, fun h2 => ?_⟩, fun h1 => ?_⟩
  · rw [decide_eq_false (fun h => h3 h.2.2.1)]
  · rw [decide_eq_false (fun h => h2 h.2.1)]
  · rw [decide_eq_false (fun h => h1 h.1)]
set_option maxRecDepth 20000 in
theorem one_pure (a b c p n d e f g q m t : Int) : Pure Tryd.prog 13 [.agg [.int .i64 a, .int .i64 b, .int .i64 c, .int .i64 p, .int .i64 n, .int .i64 d], .agg [.int .i64 e, .int .i64 f, .int .i64 g, .int .i64 q, .int .i64 m, .int .i64 t]] (.bool (sameB (a, b, c, p, n, d) (e, f, g, q, m, t))) :=
  Pure.of_g (E := env_one a b c p n d e f g q m t) (ts := tsOf Tryd.f13) (ps := [.bool]) (r := (sameB (a, b, c, p, n, d) (e, f, g, q, m, t), ())) (fn := Tryd.f13) (c := codeOf Tryd.f13) (specs_ok (P := Tryd.prog) rfl [] [] rfl rfl) mixed Tryd.func13 rfl rfl (g := g_one a b c p n d e f g q m t) (by delta g_one start0; first | with_reducible exact Eq.refl _ | exact Eq.refl _) (by rw [g_one_eq a b c p n d e f g q m t]; exact g_one_ok a b c p n d e f g q m t)
noncomputable def q_one (a b c p n d e f g q m t : Int) : Prop × V := (True, (.bool (sameB (a, b, c, p, n, d) (e, f, g, q, m, t))))
noncomputable def sp_one : FSpec Tryd.prog where
  f := 13
  run := fun args => match args with
    | [.agg [.int .i64 a, .int .i64 b, .int .i64 c, .int .i64 p, .int .i64 n, .int .i64 d], .agg [.int .i64 e, .int .i64 f, .int .i64 g, .int .i64 q, .int .i64 m, .int .i64 t]] => some (q_one a b c p n d e f g q m t)
    | _ => none
  ok := fun args pre r h hp => by
    try dsimp only at h
    split at h
    · rename_i a b c p n d e f g q m t
      have h := Option.some.inj h
      unfold q_one at h
      cases h
      exact (one_pure a b c p n d e f g q m t).weak (.cons (Weak.refl _) (.cons (Weak.refl _) .nil))
    · cases h
theorem g_clone_ok (l : List Rt) (h : l.length ≤ 1000000) : g_clone_vc l := by
  unfold g_clone_vc
  refine ⟨fun e => ?_, fun _ => ⟨⟨by omega, by omega, .inr rfl⟩, rfl⟩⟩
  have := List.eq_nil_of_length_eq_zero (e rfl)
  rw [this]
set_option maxRecDepth 20000 in
theorem clone_pure (l : List Rt) (h : l.length ≤ 1000000) : Pure Tryd.prog 22 [.list .tmp RTy l] (.olist RTy l) :=
  Pure.of_g (E := env_clone l) (ts := tsOf Tryd.f22) (ps := [.slc 0 RTy]) (r := (l, ())) (fn := Tryd.f22) (c := codeOf Tryd.f22) (specs_ok (P := Tryd.prog) rfl [] [] rfl rfl) mixed Tryd.func22 rfl rfl (g := g_clone l) (by delta g_clone start0; first | with_reducible exact Eq.refl _ | exact Eq.refl _) (by rw [g_clone_eq l]; exact g_clone_ok l h)
noncomputable def q_clone (l : List Rt) : Prop × V := (l.length ≤ 1000000, (.olist RTy l))
noncomputable def sp_clone : FSpec Tryd.prog where
  f := 22
  run := fun args => match args with
    | [v0] => (match (asL RTy v0 : Option (List Rt)) with | some l => some (q_clone l) | none => none)
    | _ => none
  ok := fun args pre r h hp => by
    try dsimp only at h
    split at h
    · rename_i v0
      cases h0 : (asL RTy v0 : Option (List Rt)) with
      | none => rw [h0] at h; cases h
      | some l =>
      rw [h0] at h
      try dsimp only at h
      have h := Option.some.inj h
      unfold q_clone at h
      cases h
      exact (clone_pure l hp).weak (.cons (asL_weak h0) .nil)
    · cases h

end Go.Proofs.YtccmidojhagppaaDoor
