/-
  cell: rows of keys: the same, among them, in order: the walks.
-/
import Derived.Test.YtemgelifnjefoaaDoorCell1
namespace Go.Proofs.YtemgelifnjefoaaDoor
open Go.Vm

theorem ce_eq {x y : CeD} : (x.1 = y.1 ∧ x.2.1 = y.2.1 ∧ x.2.2.1 = y.2.2.1 ∧ x.2.2.2.1 = y.2.2.2.1 ∧ x.2.2.2.2.1 = y.2.2.2.2.1 ∧ x.2.2.2.2.2 = y.2.2.2.2.2) ↔ x = y := by
  obtain ⟨x1, x2, x3, x4, x5, x6⟩ := x
  obtain ⟨y1, y2, y3, y4, y5, y6⟩ := y
  simp [Prod.mk.injEq]

theorem drop_ce {l : List CeD} {i : Nat} {x : CeD} (h : l[i]? = some x) : l.drop i = x :: l.drop (i + 1) := by
  obtain ⟨h1, h2⟩ := List.getElem?_eq_some_iff.1 h
  rw [List.drop_eq_getElem_cons h1, h2]
noncomputable def env_same (l m : List CeD) : Env where
  P := Tryd.prog
  ty := tys0
  heads := fun
    | 4 => some { slots := [(5, .int .i64)], boxes := [], keep := [], inv := fun _ (x : Int × Unit) => 0 ≤ x.1 ∧ x.1 ≤ l.length ∧ l.length = m.length ∧ l.take x.1.toNat = m.take x.1.toNat, measure := fun _ (x : Int × Unit) => (l.length - x.1).toNat }
    | _ => none
noncomputable def g_same (l m : List CeD) : Prop := vc (env_same l m) (codeOf Tryd.f13) (start0 Tryd.f13 [.list .tmp Ce l, .list .tmp Ce m]) (exitK (tsOf Tryd.f13) [.bool] (decide (l = m), ()))
def g_same_vc (l : List CeD) (m : List CeD) : Prop :=
  ((!decide ((↑l.length : Int) = (↑m.length : Int))) = true → (false, ()) = (decide (l = m), ())) ∧ ((!decide ((↑l.length : Int) = (↑m.length : Int))) = false → (True ∧ (0 : Int) ≤ (0 : Int) ∧ (0 : Int) ≤ (↑l.length : Int) ∧ l.length = m.length ∧ List.take (Int.toNat (0 : Int)) l = List.take (Int.toNat (0 : Int)) m) ∧ ∀ (x : Int × Unit), (0 : Int) ≤ x.fst ∧ x.fst ≤ (↑l.length : Int) ∧ l.length = m.length ∧ List.take x.fst.toNat l = List.take x.fst.toNat m → (decide (x.fst < (↑l.length : Int)) = true → ((0 : Int) ≤ x.fst ∧ x.fst < (↑l.length : Int)) ∧ ∀ (x_1 : Int × Int × Int × Int × Int × Int), l[x.fst.toNat]? = some x_1 → ((0 : Int) ≤ x.fst ∧ x.fst < (↑m.length : Int)) ∧ ∀ (x_2 : Int × Int × Int × Int × Int × Int), m[x.fst.toNat]? = some x_2 → ((!(decide (x_1.fst = x_2.fst) && (decide (x_1.snd.fst = x_2.snd.fst) && (decide (x_1.snd.snd.fst = x_2.snd.snd.fst) && (decide (x_1.snd.snd.snd.fst = x_2.snd.snd.snd.fst) && (decide (x_1.snd.snd.snd.snd.fst = x_2.snd.snd.snd.snd.fst) && (decide (x_1.snd.snd.snd.snd.snd = x_2.snd.snd.snd.snd.snd) && true))))))) = true → (false, ()) = (decide (l = m), ())) ∧ ((!(decide (x_1.fst = x_2.fst) && (decide (x_1.snd.fst = x_2.snd.fst) && (decide (x_1.snd.snd.fst = x_2.snd.snd.fst) && (decide (x_1.snd.snd.snd.fst = x_2.snd.snd.snd.fst) && (decide (x_1.snd.snd.snd.snd.fst = x_2.snd.snd.snd.snd.fst) && (decide (x_1.snd.snd.snd.snd.snd = x_2.snd.snd.snd.snd.snd) && true))))))) = false → ((-9223372036854775808 : Int) ≤ x.fst + (1 : Int) ∧ x.fst + (1 : Int) ≤ (9223372036854775807 : Int)) ∧ True ∧ ((0 : Int) ≤ x.fst + (1 : Int) ∧ x.fst + (1 : Int) ≤ (↑l.length : Int) ∧ l.length = m.length ∧ List.take (x.fst + (1 : Int)).toNat l = List.take (x.fst + (1 : Int)).toNat m) ∧ ((↑l.length : Int) - (x.fst + (1 : Int))).toNat < ((↑l.length : Int) - x.fst).toNat)) ∧ (decide (x.fst < (↑l.length : Int)) = false → (true, ()) = (decide (l = m), ())))
theorem g_same_eq (l m : List CeD) : g_same l m = g_same_vc l m := by kernel_rfl
theorem g_same_ok (l m : List CeD) (h : l.length ≤ 1000000000) : g_same_vc l m := by
  unfold g_same_vc
  simp only [decide_eq_true_eq, decide_eq_false_iff_not, Bool.not_eq_true', Bool.not_eq_false', Bool.not_true, Bool.not_false, Bool.and_eq_true, Bool.and_eq_false_iff, and_true]
  repeat' (first | with_reducible apply And.intro | (intro (x : Int × Unit); obtain ⟨i, ⟨⟩⟩ := x; rintro ⟨h0, h1, h2, h3⟩; dsimp only at h0 h1 h2 h3 ⊢) | intro _)
  all_goals try (first | trivial | rfl | omega)
  · rename_i c
    rw [decide_eq_false fun e => c (by rw [e])]
  · rename_i hl hi x hx y hy ne
    rw [decide_eq_false]
    rintro rfl
    rw [hx] at hy
    cases hy
    simp at ne
  · rename_i hl hi x hx y hy e
    have := ce_eq.1 e
    subst this
    rw [show (i + 1).toNat = i.toNat + 1 by omega, List.take_add_one, List.take_add_one, hx, hy, h3]
  · rename_i hl hi
    rw [List.take_of_length_le (by omega), List.take_of_length_le (by omega)] at h3
    rw [decide_eq_true h3]
set_option maxRecDepth 20000 in
theorem same_pure (l m : List CeD) (h : l.length ≤ 1000000000) : Pure Tryd.prog 13 [.list .tmp Ce l, .list .tmp Ce m] (.bool (decide (l = m))) :=
  Pure.of_g (E := env_same l m) (ts := tsOf Tryd.f13) (ps := [.bool]) (r := (decide (l = m), ())) (fn := Tryd.f13) (c := codeOf Tryd.f13) (specs_ok (P := Tryd.prog) rfl [] [] rfl rfl) mixed Tryd.func13 rfl rfl (g := g_same l m) (by delta g_same start0; first | with_reducible exact Eq.refl _ | exact Eq.refl _) (by rw [g_same_eq l m]; exact g_same_ok l m h)
noncomputable def q_same (l m : List CeD) : Prop × V := (l.length ≤ 1000000000, (.bool (decide (l = m))))
noncomputable def sp_same : FSpec Tryd.prog where
  f := 13
  run := fun args => match args with
    | [v0, v1] => (match (asL Ce v0 : Option (List CeD)) with | some l => (match (asL Ce v1 : Option (List CeD)) with | some m => some (q_same l m) | none => none) | none => none)
    | _ => none
  ok := fun args pre r h hp => by
    try dsimp only at h
    split at h
    · rename_i v0 v1
      cases h0 : (asL Ce v0 : Option (List CeD)) with
      | none => rw [h0] at h; cases h
      | some l =>
      rw [h0] at h
      try dsimp only at h
      cases h1 : (asL Ce v1 : Option (List CeD)) with
      | none => rw [h1] at h; cases h
      | some m =>
      rw [h1] at h
      try dsimp only at h
      have h := Option.some.inj h
      unfold q_same at h
      cases h
      exact (same_pure l m hp).weak (.cons (asL_weak h0) (.cons (asL_weak h1) .nil))
    · cases h

noncomputable def env_has (l : List CeD) (r e a p c q : Int) : Env where
  P := Tryd.prog
  ty := tys0
  heads := fun
    | 2 => some { slots := [(5, .int .i64)], boxes := [], keep := [3], inv := fun _ (x : Int × Unit) => 0 ≤ x.1 ∧ x.1 ≤ l.length ∧ ((r, e, a, p, c, q) ∈ l ↔ (r, e, a, p, c, q) ∈ l.drop x.1.toNat), measure := fun _ (x : Int × Unit) => (l.length - x.1).toNat }
    | _ => none
noncomputable def g_has (l : List CeD) (r e a p c q : Int) : Prop := vc (env_has l r e a p c q) (codeOf Tryd.f18) (start0 Tryd.f18 [.list .tmp Ce l, .agg [.int .i64 r, .int .i64 e, .int .i64 a, .int .i64 p, .int .i64 c, .int .i64 q]]) (exitK (tsOf Tryd.f18) [.bool] (decide ((r, e, a, p, c, q) ∈ l), ()))
abbrev bx_has_1 (r : Int) (e : Int) (a : Int) (p : Int) (c : Int) (q : Int) : _root_.Go.Vm.Obj := Obj.box [V.int IntKind.i64 r, V.int IntKind.i64 e, V.int IntKind.i64 a, V.int IntKind.i64 p, V.int IntKind.i64 c, V.int IntKind.i64 q]
def g_has_vc (l : List CeD) (r : Int) (e : Int) (a : Int) (p : Int) (c : Int) (q : Int) : Prop :=
  ((some (bx_has_1 r e a p c q) = some (bx_has_1 r e a p c q) ∧ True) ∧ (0 : Int) ≤ (0 : Int) ∧ (0 : Int) ≤ (↑l.length : Int) ∧ ((r, e, a, p, c, q) ∈ l ↔ (r, e, a, p, c, q) ∈ List.drop (Int.toNat (0 : Int)) l)) ∧ ∀ (x : Int × Unit), (0 : Int) ≤ x.fst ∧ x.fst ≤ (↑l.length : Int) ∧ ((r, e, a, p, c, q) ∈ l ↔ (r, e, a, p, c, q) ∈ List.drop x.fst.toNat l) → (decide (x.fst < (↑l.length : Int)) = true → ((0 : Int) ≤ x.fst ∧ x.fst < (↑l.length : Int)) ∧ ∀ (x_1 : Int × Int × Int × Int × Int × Int), l[x.fst.toNat]? = some x_1 → ((decide (x_1.fst = r) && (decide (x_1.snd.fst = e) && (decide (x_1.snd.snd.fst = a) && (decide (x_1.snd.snd.snd.fst = p) && (decide (x_1.snd.snd.snd.snd.fst = c) && (decide (x_1.snd.snd.snd.snd.snd = q) && true)))))) = true → (true, ()) = (decide ((r, e, a, p, c, q) ∈ l), ())) ∧ ((decide (x_1.fst = r) && (decide (x_1.snd.fst = e) && (decide (x_1.snd.snd.fst = a) && (decide (x_1.snd.snd.snd.fst = p) && (decide (x_1.snd.snd.snd.snd.fst = c) && (decide (x_1.snd.snd.snd.snd.snd = q) && true)))))) = false → ((-9223372036854775808 : Int) ≤ x.fst + (1 : Int) ∧ x.fst + (1 : Int) ≤ (9223372036854775807 : Int)) ∧ (some (bx_has_1 r e a p c q) = some (bx_has_1 r e a p c q) ∧ True) ∧ ((0 : Int) ≤ x.fst + (1 : Int) ∧ x.fst + (1 : Int) ≤ (↑l.length : Int) ∧ ((r, e, a, p, c, q) ∈ l ↔ (r, e, a, p, c, q) ∈ List.drop (x.fst + (1 : Int)).toNat l)) ∧ ((↑l.length : Int) - (x.fst + (1 : Int))).toNat < ((↑l.length : Int) - x.fst).toNat)) ∧ (decide (x.fst < (↑l.length : Int)) = false → (false, ()) = (decide ((r, e, a, p, c, q) ∈ l), ()))
theorem g_has_eq (l : List CeD) (r e a p c q : Int) : g_has l r e a p c q = g_has_vc l r e a p c q := by kernel_rfl
theorem g_has_ok (l : List CeD) (r e a p c q : Int) (h : l.length ≤ 1000000000) : g_has_vc l r e a p c q := by
  unfold g_has_vc
  simp only [decide_eq_true_eq, decide_eq_false_iff_not, Bool.not_eq_true', Bool.not_eq_false', Bool.not_true, Bool.not_false, Bool.and_eq_true, Bool.and_eq_false_iff, and_true]
  repeat' (first | with_reducible apply And.intro | (intro (x : Int × Unit); obtain ⟨i, ⟨⟩⟩ := x; rintro ⟨h0, h1, h2⟩; dsimp only at h0 h1 h2 ⊢) | intro _)
  all_goals try (first | trivial | rfl | omega)
  · rename_i hi x hx e
    have := ce_eq (x := x) (y := (r, _, _, _, _, _)) |>.1 e
    rw [decide_eq_true]
    rw [← this]
    exact List.mem_of_getElem? hx
  · rename_i hi x hx ne
    rw [h2, drop_ce hx, List.mem_cons, show (i + 1).toNat = i.toNat + 1 by omega]
    refine ⟨fun k => ?_, .inr⟩
    rcases k with k | k
    · exfalso
      subst k
      simp at ne
    · exact k
  · rename_i hi
    rw [decide_eq_false]
    rw [h2, List.drop_of_length_le (by omega)]
    simp
set_option maxRecDepth 20000 in
theorem has_pure (l : List CeD) (r e a p c q : Int) (h : l.length ≤ 1000000000) : Pure Tryd.prog 18 [.list .tmp Ce l, .agg [.int .i64 r, .int .i64 e, .int .i64 a, .int .i64 p, .int .i64 c, .int .i64 q]] (.bool (decide ((r, e, a, p, c, q) ∈ l))) :=
  Pure.of_g (E := env_has l r e a p c q) (ts := tsOf Tryd.f18) (ps := [.bool]) (r := (decide ((r, e, a, p, c, q) ∈ l), ())) (fn := Tryd.f18) (c := codeOf Tryd.f18) (specs_ok (P := Tryd.prog) rfl [] [] rfl rfl) mixed Tryd.func18 rfl rfl (g := g_has l r e a p c q) (by delta g_has start0; first | with_reducible exact Eq.refl _ | exact Eq.refl _) (by rw [g_has_eq l r e a p c q]; exact g_has_ok l r e a p c q h)
noncomputable def q_has (l : List CeD) (r e a p c q : Int) : Prop × V := (l.length ≤ 1000000000, (.bool (decide ((r, e, a, p, c, q) ∈ l))))
noncomputable def sp_has : FSpec Tryd.prog where
  f := 18
  run := fun args => match args with
    | [v0, .agg [.int .i64 r, .int .i64 e, .int .i64 a, .int .i64 p, .int .i64 c, .int .i64 q]] => (match (asL Ce v0 : Option (List CeD)) with | some l => some (q_has l r e a p c q) | none => none)
    | _ => none
  ok := fun args pre r h hp => by
    try dsimp only at h
    split at h
    · rename_i v0 r e a p c q
      cases h0 : (asL Ce v0 : Option (List CeD)) with
      | none => rw [h0] at h; cases h
      | some l =>
      rw [h0] at h
      try dsimp only at h
      have h := Option.some.inj h
      unfold q_has at h
      cases h
      exact (has_pure l r e a p c q hp).weak (.cons (asL_weak h0) (.cons (Weak.refl _) .nil))
    · cases h

/-! A row in order with one key more. -/
def withC : List CeD → CeD → List CeD
  | [], n => [n]
  | x :: r, n => if lessF x n = true then x :: withC r n else if x = n then x :: r else n :: x :: r
noncomputable def env_with (l : List CeD) (r e a p c q : Int) : Env where
  P := Tryd.prog
  ty := tys0
  specs := specsOf [sp_rless]
  heads := fun
    | 2 => some { slots := [(5, .int .i64)], boxes := [], keep := [3], inv := fun _ (x : Int × Unit) => 0 ≤ x.1 ∧ x.1 ≤ l.length ∧ withC l (r, e, a, p, c, q) = l.take x.1.toNat ++ withC (l.drop x.1.toNat) (r, e, a, p, c, q), measure := fun _ (x : Int × Unit) => (l.length - x.1).toNat }
    | _ => none
noncomputable def g_with (l : List CeD) (r e a p c q : Int) : Prop := vc (env_with l r e a p c q) (codeOf Tryd.f26) (start0 Tryd.f26 [.list .part Ce l, .agg [.int .i64 r, .int .i64 e, .int .i64 a, .int .i64 p, .int .i64 c, .int .i64 q]]) (exitK (tsOf Tryd.f26) [.list .part Ce] (withC l (r, e, a, p, c, q), ()))
abbrev bx_with_1 (r : Int) (e : Int) (a : Int) (p : Int) (c : Int) (q : Int) : _root_.Go.Vm.Obj := Obj.box [V.int IntKind.i64 r, V.int IntKind.i64 e, V.int IntKind.i64 a, V.int IntKind.i64 p, V.int IntKind.i64 c, V.int IntKind.i64 q]
def g_with_vc (l : List CeD) (r : Int) (e : Int) (a : Int) (p : Int) (c : Int) (q : Int) : Prop :=
  ((some (bx_with_1 r e a p c q) = some (bx_with_1 r e a p c q) ∧ True) ∧ (0 : Int) ≤ (0 : Int) ∧ (0 : Int) ≤ (↑l.length : Int) ∧ withC l (r, e, a, p, c, q) = List.take (Int.toNat (0 : Int)) l ++ withC (List.drop (Int.toNat (0 : Int)) l) (r, e, a, p, c, q)) ∧ ∀ (x : Int × Unit), (0 : Int) ≤ x.fst ∧ x.fst ≤ (↑l.length : Int) ∧ withC l (r, e, a, p, c, q) = List.take x.fst.toNat l ++ withC (List.drop x.fst.toNat l) (r, e, a, p, c, q) → (decide (x.fst < (↑l.length : Int)) = true → ((0 : Int) ≤ x.fst ∧ x.fst < (↑l.length : Int)) ∧ ∀ (x_1 : Int × Int × Int × Int × Int × Int), l[x.fst.toNat]? = some x_1 → True ∧ (lessF (x_1.fst, x_1.snd.fst, x_1.snd.snd.fst, x_1.snd.snd.snd.fst, x_1.snd.snd.snd.snd.fst, x_1.snd.snd.snd.snd.snd) (r, e, a, p, c, q) = true → ((-9223372036854775808 : Int) ≤ x.fst + (1 : Int) ∧ x.fst + (1 : Int) ≤ (9223372036854775807 : Int)) ∧ (some (bx_with_1 r e a p c q) = some (bx_with_1 r e a p c q) ∧ True) ∧ ((0 : Int) ≤ x.fst + (1 : Int) ∧ x.fst + (1 : Int) ≤ (↑l.length : Int) ∧ withC l (r, e, a, p, c, q) = List.take (x.fst + (1 : Int)).toNat l ++ withC (List.drop (x.fst + (1 : Int)).toNat l) (r, e, a, p, c, q)) ∧ ((↑l.length : Int) - (x.fst + (1 : Int))).toNat < ((↑l.length : Int) - x.fst).toNat) ∧ (lessF (x_1.fst, x_1.snd.fst, x_1.snd.snd.fst, x_1.snd.snd.snd.fst, x_1.snd.snd.snd.snd.fst, x_1.snd.snd.snd.snd.snd) (r, e, a, p, c, q) = false → (decide (x.fst < (↑l.length : Int)) = true → ((0 : Int) ≤ x.fst ∧ x.fst < (↑l.length : Int)) ∧ ∀ (x_2 : Int × Int × Int × Int × Int × Int), l[x.fst.toNat]? = some x_2 → ((decide (x_2.fst = r) && (decide (x_2.snd.fst = e) && (decide (x_2.snd.snd.fst = a) && (decide (x_2.snd.snd.snd.fst = p) && (decide (x_2.snd.snd.snd.snd.fst = c) && (decide (x_2.snd.snd.snd.snd.snd = q) && true)))))) = true → (l, ()) = (withC l (r, e, a, p, c, q), ())) ∧ ((decide (x_2.fst = r) && (decide (x_2.snd.fst = e) && (decide (x_2.snd.snd.fst = a) && (decide (x_2.snd.snd.snd.fst = p) && (decide (x_2.snd.snd.snd.snd.fst = c) && (decide (x_2.snd.snd.snd.snd.snd = q) && true)))))) = false → ((0 : Int) ≤ x.fst ∧ x.fst ≤ (↑l.length : Int)) ∧ (((0 : Nat) + (List.take x.fst.toNat l).length) * (48 : Nat) ≤ (140737488355328 : Nat) ∧ (0 : Nat) + (List.take x.fst.toNat l).length ≤ (4611686018427387904 : Nat) ∧ ((0 : Nat) < (List.take x.fst.toNat l).length ∨ (0 : Nat) = (0 : Nat))) ∧ (((List.take x.fst.toNat l).length + (1 : Nat)) * (48 : Nat) ≤ (140737488355328 : Nat) ∧ (List.take x.fst.toNat l).length + (1 : Nat) ≤ (4611686018427387904 : Nat)) ∧ ((0 : Int) ≤ x.fst ∧ x.fst ≤ (↑l.length : Int)) ∧ (((List.take x.fst.toNat l ++ [(r, e, a, p, c, q)]).length + (List.drop x.fst.toNat l).length) * (48 : Nat) ≤ (140737488355328 : Nat) ∧ (List.take x.fst.toNat l ++ [(r, e, a, p, c, q)]).length + (List.drop x.fst.toNat l).length ≤ (4611686018427387904 : Nat)) ∧ (List.take x.fst.toNat l ++ [(r, e, a, p, c, q)] ++ List.drop x.fst.toNat l, ()) = (withC l (r, e, a, p, c, q), ()))) ∧ (decide (x.fst < (↑l.length : Int)) = !true → ((0 : Int) ≤ x.fst ∧ x.fst ≤ (↑l.length : Int)) ∧ (((0 : Nat) + (List.take x.fst.toNat l).length) * (48 : Nat) ≤ (140737488355328 : Nat) ∧ (0 : Nat) + (List.take x.fst.toNat l).length ≤ (4611686018427387904 : Nat) ∧ ((0 : Nat) < (List.take x.fst.toNat l).length ∨ (0 : Nat) = (0 : Nat))) ∧ (((List.take x.fst.toNat l).length + (1 : Nat)) * (48 : Nat) ≤ (140737488355328 : Nat) ∧ (List.take x.fst.toNat l).length + (1 : Nat) ≤ (4611686018427387904 : Nat)) ∧ ((0 : Int) ≤ x.fst ∧ x.fst ≤ (↑l.length : Int)) ∧ (((List.take x.fst.toNat l ++ [(r, e, a, p, c, q)]).length + (List.drop x.fst.toNat l).length) * (48 : Nat) ≤ (140737488355328 : Nat) ∧ (List.take x.fst.toNat l ++ [(r, e, a, p, c, q)]).length + (List.drop x.fst.toNat l).length ≤ (4611686018427387904 : Nat)) ∧ (List.take x.fst.toNat l ++ [(r, e, a, p, c, q)] ++ List.drop x.fst.toNat l, ()) = (withC l (r, e, a, p, c, q), ())))) ∧ (decide (x.fst < (↑l.length : Int)) = !true → (decide (x.fst < (↑l.length : Int)) = true → ((0 : Int) ≤ x.fst ∧ x.fst < (↑l.length : Int)) ∧ ∀ (x_1 : Int × Int × Int × Int × Int × Int), l[x.fst.toNat]? = some x_1 → ((decide (x_1.fst = r) && (decide (x_1.snd.fst = e) && (decide (x_1.snd.snd.fst = a) && (decide (x_1.snd.snd.snd.fst = p) && (decide (x_1.snd.snd.snd.snd.fst = c) && (decide (x_1.snd.snd.snd.snd.snd = q) && true)))))) = true → (l, ()) = (withC l (r, e, a, p, c, q), ())) ∧ ((decide (x_1.fst = r) && (decide (x_1.snd.fst = e) && (decide (x_1.snd.snd.fst = a) && (decide (x_1.snd.snd.snd.fst = p) && (decide (x_1.snd.snd.snd.snd.fst = c) && (decide (x_1.snd.snd.snd.snd.snd = q) && true)))))) = false → ((0 : Int) ≤ x.fst ∧ x.fst ≤ (↑l.length : Int)) ∧ (((0 : Nat) + (List.take x.fst.toNat l).length) * (48 : Nat) ≤ (140737488355328 : Nat) ∧ (0 : Nat) + (List.take x.fst.toNat l).length ≤ (4611686018427387904 : Nat) ∧ ((0 : Nat) < (List.take x.fst.toNat l).length ∨ (0 : Nat) = (0 : Nat))) ∧ (((List.take x.fst.toNat l).length + (1 : Nat)) * (48 : Nat) ≤ (140737488355328 : Nat) ∧ (List.take x.fst.toNat l).length + (1 : Nat) ≤ (4611686018427387904 : Nat)) ∧ ((0 : Int) ≤ x.fst ∧ x.fst ≤ (↑l.length : Int)) ∧ (((List.take x.fst.toNat l ++ [(r, e, a, p, c, q)]).length + (List.drop x.fst.toNat l).length) * (48 : Nat) ≤ (140737488355328 : Nat) ∧ (List.take x.fst.toNat l ++ [(r, e, a, p, c, q)]).length + (List.drop x.fst.toNat l).length ≤ (4611686018427387904 : Nat)) ∧ (List.take x.fst.toNat l ++ [(r, e, a, p, c, q)] ++ List.drop x.fst.toNat l, ()) = (withC l (r, e, a, p, c, q), ()))) ∧ (decide (x.fst < (↑l.length : Int)) = !true → ((0 : Int) ≤ x.fst ∧ x.fst ≤ (↑l.length : Int)) ∧ (((0 : Nat) + (List.take x.fst.toNat l).length) * (48 : Nat) ≤ (140737488355328 : Nat) ∧ (0 : Nat) + (List.take x.fst.toNat l).length ≤ (4611686018427387904 : Nat) ∧ ((0 : Nat) < (List.take x.fst.toNat l).length ∨ (0 : Nat) = (0 : Nat))) ∧ (((List.take x.fst.toNat l).length + (1 : Nat)) * (48 : Nat) ≤ (140737488355328 : Nat) ∧ (List.take x.fst.toNat l).length + (1 : Nat) ≤ (4611686018427387904 : Nat)) ∧ ((0 : Int) ≤ x.fst ∧ x.fst ≤ (↑l.length : Int)) ∧ (((List.take x.fst.toNat l ++ [(r, e, a, p, c, q)]).length + (List.drop x.fst.toNat l).length) * (48 : Nat) ≤ (140737488355328 : Nat) ∧ (List.take x.fst.toNat l ++ [(r, e, a, p, c, q)]).length + (List.drop x.fst.toNat l).length ≤ (4611686018427387904 : Nat)) ∧ (List.take x.fst.toNat l ++ [(r, e, a, p, c, q)] ++ List.drop x.fst.toNat l, ()) = (withC l (r, e, a, p, c, q), ())))
theorem g_with_eq (l : List CeD) (r e a p c q : Int) : g_with l r e a p c q = g_with_vc l r e a p c q := by kernel_rfl
theorem g_with_ok (l : List CeD) (r e a p c q : Int) (h : l.length ≤ 1000000000) : g_with_vc l r e a p c q := by
  unfold g_with_vc
  simp only [decide_eq_true_eq, decide_eq_false_iff_not, Bool.not_eq_true', Bool.not_eq_false', Bool.not_true, Bool.not_false, Bool.and_eq_true, Bool.and_eq_false_iff, and_true]
  repeat' (first | with_reducible apply And.intro | (intro (x : Int × Unit); obtain ⟨i, ⟨⟩⟩ := x; rintro ⟨h0, h1, h2⟩; dsimp only at h0 h1 h2 ⊢; have lens : (l.take i.toNat).length ≤ l.length ∧ (l.drop i.toNat).length ≤ l.length := ⟨by rw [List.length_take]; omega, by rw [List.length_drop]; omega⟩) | intro _)
  all_goals try (first | trivial | rfl | omega)
  · rename_i hi x hx lt
    have lt : lessF x (r, e, a, p, c, q) = true := lt
    rw [h2, drop_ce hx, withC, if_pos lt, show (i + 1).toNat = i.toNat + 1 by omega, List.take_add_one, hx]
    simp
  · rename_i hi x hx ge hi2 y hy e0
    have ge : lessF x (r, e, a, p, c, q) = false := ge
    rw [hx] at hy
    cases hy
    have := ce_eq (x := x) (y := (r, e, a, p, c, q)) |>.1 e0
    rw [h2, drop_ce hx, withC, if_neg (by rw [ge]; simp), if_pos this, ← drop_ce hx, List.take_append_drop]
  all_goals try (first | exact .inr trivial | omega | (simp only [List.length_append, List.length_singleton]; omega))
  · rename_i hi x hx ge hi2 y hy ne
    have ge : lessF x (r, e, a, p, c, q) = false := ge
    rw [hx] at hy
    cases hy
    have : ¬ x = (r, e, a, p, c, q) := fun k => by
      subst k
      simp at ne
    rw [h2, drop_ce hx, withC, if_neg (by rw [ge]; simp), if_neg this]
    simp
  · rename_i hi hi2
    rw [h2, List.drop_of_length_le (by omega), withC]
    simp
set_option maxRecDepth 20000 in
theorem with_pure (l : List CeD) (r e a p c q : Int) (h : l.length ≤ 1000000000) : Pure Tryd.prog 26 [.list .part Ce l, .agg [.int .i64 r, .int .i64 e, .int .i64 a, .int .i64 p, .int .i64 c, .int .i64 q]] (.list .part Ce (withC l (r, e, a, p, c, q))) :=
  Pure.of_g (E := env_with l r e a p c q) (ts := tsOf Tryd.f26) (ps := [.list .part Ce]) (r := (withC l (r, e, a, p, c, q), ())) (fn := Tryd.f26) (c := codeOf Tryd.f26) (specs_ok (P := Tryd.prog) rfl [sp_rless] [] rfl rfl) mixed Tryd.func26 rfl rfl (g := g_with l r e a p c q) (by delta g_with start0; first | with_reducible exact Eq.refl _ | exact Eq.refl _) (by rw [g_with_eq l r e a p c q]; exact g_with_ok l r e a p c q h)
noncomputable def q_with (l : List CeD) (r e a p c q : Int) : Prop × V := (l.length ≤ 1000000000, (.list .part Ce (withC l (r, e, a, p, c, q))))
noncomputable def sp_with : FSpec Tryd.prog where
  f := 26
  run := fun args => match args with
    | [v0, .agg [.int .i64 r, .int .i64 e, .int .i64 a, .int .i64 p, .int .i64 c, .int .i64 q]] => (match (asP Ce v0 : Option (List CeD)) with | some l => some (q_with l r e a p c q) | none => none)
    | _ => none
  ok := fun args pre r h hp => by
    try dsimp only at h
    split at h
    · rename_i v0 r e a p c q
      cases h0 : (asP Ce v0 : Option (List CeD)) with
      | none => rw [h0] at h; cases h
      | some l =>
      rw [h0] at h
      try dsimp only at h
      have h := Option.some.inj h
      unfold q_with at h
      cases h
      exact (with_pure l r e a p c q hp).weak (.cons (asP_weak h0) (.cons (Weak.refl _) .nil))
    · cases h

theorem withC_len : ∀ (l : List CeD) (n : CeD), (withC l n).length ≤ l.length + 1
  | [], n => by simp [withC]
  | x :: r, n => by
    have := withC_len r n
    unfold withC
    split
    · simpa using this
    · split <;> simp
noncomputable def env_rsort (l : List CeD) : Env where
  P := Tryd.prog
  ty := tys0
  specs := specsOf [sp_with]
  heads := fun
    | 3 => some { slots := [(4, .int .i64), (3, .list .part Ce)], boxes := [], keep := [], inv := fun _ (x : Int × List CeD × Unit) => 0 ≤ x.1 ∧ x.1 ≤ l.length ∧ x.2.1.length ≤ x.1 ∧ x.2.1 = (l.take x.1.toNat).foldl withC [], measure := fun _ (x : Int × List CeD × Unit) => (l.length - x.1).toNat }
    | _ => none
noncomputable def g_rsort (l : List CeD) : Prop := vc (env_rsort l) (codeOf Tryd.f15) (start0 Tryd.f15 [.list .tmp Ce l]) (exitK (tsOf Tryd.f15) [.list .part Ce] (l.foldl withC [], ()))
def g_rsort_vc (l : List CeD) : Prop :=
  (True ∧ (0 : Int) ≤ (0 : Int) ∧ (0 : Int) ≤ (↑l.length : Int) ∧ (↑(0 : Nat) : Int) ≤ (0 : Int) ∧ [] = List.foldl withC [] (List.take (Int.toNat (0 : Int)) l)) ∧ ∀ (x : Int × List (Int × Int × Int × Int × Int × Int) × Unit), (0 : Int) ≤ x.fst ∧ x.fst ≤ (↑l.length : Int) ∧ (↑x.snd.fst.length : Int) ≤ x.fst ∧ x.snd.fst = List.foldl withC [] (List.take x.fst.toNat l) → (decide (x.fst < (↑l.length : Int)) = true → ((0 : Int) ≤ x.fst ∧ x.fst < (↑l.length : Int)) ∧ ∀ (x_1 : Int × Int × Int × Int × Int × Int), l[x.fst.toNat]? = some x_1 → x.snd.fst.length ≤ (1000000000 : Nat) ∧ ((-9223372036854775808 : Int) ≤ x.fst + (1 : Int) ∧ x.fst + (1 : Int) ≤ (9223372036854775807 : Int)) ∧ True ∧ ((0 : Int) ≤ x.fst + (1 : Int) ∧ x.fst + (1 : Int) ≤ (↑l.length : Int) ∧ (↑(withC x.snd.fst (x_1.fst, x_1.snd.fst, x_1.snd.snd.fst, x_1.snd.snd.snd.fst, x_1.snd.snd.snd.snd.fst, x_1.snd.snd.snd.snd.snd)).length : Int) ≤ x.fst + (1 : Int) ∧ withC x.snd.fst (x_1.fst, x_1.snd.fst, x_1.snd.snd.fst, x_1.snd.snd.snd.fst, x_1.snd.snd.snd.snd.fst, x_1.snd.snd.snd.snd.snd) = List.foldl withC [] (List.take (x.fst + (1 : Int)).toNat l)) ∧ ((↑l.length : Int) - (x.fst + (1 : Int))).toNat < ((↑l.length : Int) - x.fst).toNat) ∧ (decide (x.fst < (↑l.length : Int)) = false → (x.snd.fst, ()) = (List.foldl withC [] l, ()))
theorem g_rsort_eq (l : List CeD) : g_rsort l = g_rsort_vc l := by kernel_rfl
theorem g_rsort_ok (l : List CeD) (h : l.length ≤ 1000000) : g_rsort_vc l := by
  unfold g_rsort_vc
  simp only [decide_eq_true_eq, decide_eq_false_iff_not, Bool.not_eq_true', Bool.not_eq_false', Bool.not_true, Bool.not_false, Bool.and_eq_true, Bool.and_eq_false_iff, and_true]
  repeat' (first | with_reducible apply And.intro | (intro (x : Int × List CeD × Unit); obtain ⟨i, m, ⟨⟩⟩ := x; rintro ⟨h0, h1, h2, h3⟩; dsimp only at h0 h1 h2 h3 ⊢) | intro _)
  all_goals try (first | trivial | rfl | omega)
  · rename_i hi x hx
    have := withC_len m (x.1, x.2.1, x.2.2.1, x.2.2.2.1, x.2.2.2.2.1, x.2.2.2.2.2)
    omega
  · rename_i hi x hx
    rw [show (i + 1).toNat = i.toNat + 1 by omega, List.take_add_one, hx, List.foldl_append, ← h3]
    rfl
  · rename_i hi
    rw [h3, List.take_of_length_le (by omega)]
set_option maxRecDepth 20000 in
theorem rsort_pure (l : List CeD) (h : l.length ≤ 1000000) : Pure Tryd.prog 15 [.list .tmp Ce l] (.list .part Ce (l.foldl withC [])) :=
  Pure.of_g (E := env_rsort l) (ts := tsOf Tryd.f15) (ps := [.list .part Ce]) (r := (l.foldl withC [], ())) (fn := Tryd.f15) (c := codeOf Tryd.f15) (specs_ok (P := Tryd.prog) rfl [sp_with] [] rfl rfl) mixed Tryd.func15 rfl rfl (g := g_rsort l) (by delta g_rsort start0; first | with_reducible exact Eq.refl _ | exact Eq.refl _) (by rw [g_rsort_eq l]; exact g_rsort_ok l h)
noncomputable def q_rsort (l : List CeD) : Prop × V := (l.length ≤ 1000000, (.list .part Ce (l.foldl withC [])))
noncomputable def sp_rsort : FSpec Tryd.prog where
  f := 15
  run := fun args => match args with
    | [v0] => (match (asL Ce v0 : Option (List CeD)) with | some l => some (q_rsort l) | none => none)
    | _ => none
  ok := fun args pre r h hp => by
    try dsimp only at h
    split at h
    · rename_i v0
      cases h0 : (asL Ce v0 : Option (List CeD)) with
      | none => rw [h0] at h; cases h
      | some l =>
      rw [h0] at h
      try dsimp only at h
      have h := Option.some.inj h
      unfold q_rsort at h
      cases h
      exact (rsort_pure l hp).weak (.cons (asL_weak h0) .nil)
    · cases h

/-! slices.Clone, slices.Compact -/
noncomputable def env_clone (l : List CeD) : Env where
  P := Tryd.prog
  ty := tys0
noncomputable def g_clone (l : List CeD) : Prop := vc (env_clone l) (codeOf Tryd.f23) (start0 Tryd.f23 [.list .tmp Ce l]) (exitK (tsOf Tryd.f23) [.slc 0 Ce] (l, ()))
def g_clone_vc (l : List CeD) : Prop :=
  ((true = true → l.length = (0 : Nat)) → ([], ()) = (l, ())) ∧ ((false = true → l.length = (0 : Nat)) → (((0 : Nat) + l.length) * (48 : Nat) ≤ (140737488355328 : Nat) ∧ (0 : Nat) + l.length ≤ (4611686018427387904 : Nat) ∧ ((0 : Nat) < l.length ∨ (0 : Nat) = (0 : Nat))) ∧ (l, ()) = (l, ()))
theorem g_clone_eq (l : List CeD) : g_clone l = g_clone_vc l := by kernel_rfl
theorem g_clone_ok (l : List CeD) (h : l.length ≤ 1000000000) : g_clone_vc l := by
  unfold g_clone_vc
  refine ⟨fun e => ?_, fun _ => ⟨⟨by omega, by omega, .inr rfl⟩, rfl⟩⟩
  have := List.eq_nil_of_length_eq_zero (e rfl)
  rw [this]
set_option maxRecDepth 20000 in
theorem clone_pure (l : List CeD) (h : l.length ≤ 1000000000) : Pure Tryd.prog 23 [.list .tmp Ce l] (.olist Ce l) :=
  Pure.of_g (E := env_clone l) (ts := tsOf Tryd.f23) (ps := [.slc 0 Ce]) (r := (l, ())) (fn := Tryd.f23) (c := codeOf Tryd.f23) (specs_ok (P := Tryd.prog) rfl [] [] rfl rfl) mixed Tryd.func23 rfl rfl (g := g_clone l) (by delta g_clone start0; first | with_reducible exact Eq.refl _ | exact Eq.refl _) (by rw [g_clone_eq l]; exact g_clone_ok l h)
noncomputable def q_clone (l : List CeD) : Prop × V := (l.length ≤ 1000000000, (.olist Ce l))
noncomputable def sp_clone : FSpec Tryd.prog where
  f := 23
  run := fun args => match args with
    | [v0] => (match (asL Ce v0 : Option (List CeD)) with | some l => some (q_clone l) | none => none)
    | _ => none
  ok := fun args pre r h hp => by
    try dsimp only at h
    split at h
    · rename_i v0
      cases h0 : (asL Ce v0 : Option (List CeD)) with
      | none => rw [h0] at h; cases h
      | some l =>
      rw [h0] at h
      try dsimp only at h
      have h := Option.some.inj h
      unfold q_clone at h
      cases h
      exact (clone_pure l hp).weak (.cons (asL_weak h0) .nil)
    · cases h

/-- Of those that are the same, one behind the other, the first one. -/
def ddL : List CeD → List CeD
  | [] => []
  | [x] => [x]
  | x :: y :: r => if x = y then ddL (y :: r) else x :: ddL (y :: r)
noncomputable def env_compactO (l : List CeD) : Env where
  P := Tryd.prog
  ty := tys0
  heads := fun
    | 4 => some { slots := [(3, .int .i64), (0, .slc 9000 Ce)], boxes := [], keep := [], inv := fun _ (x : Int × List CeD × Unit) => 1 ≤ x.1 ∧ x.1 ≤ l.length ∧ x.2.1 = l ∧ ddL l = l.take (x.1.toNat - 1) ++ ddL (l.drop (x.1.toNat - 1)), measure := fun _ (x : Int × List CeD × Unit) => (l.length - x.1).toNat }
    | 9 => some { slots := [(3, .int .i64), (5, .int .i64), (0, .slc 9000 Ce)], boxes := [], keep := [], inv := fun st (x : Int × Int × List CeD × Unit) => 1 ≤ x.2.1 ∧ st.int 3 ≤ x.1 ∧ x.1 < st.int 3 + x.2.1 ∧ st.int 3 + x.2.1 ≤ l.length ∧ x.2.2.1.length = l.length ∧ x.2.2.1.drop (st.int 3 + x.2.1 - 1).toNat = l.drop (st.int 3 + x.2.1 - 1).toNat ∧ ddL l = x.2.2.1.take x.1.toNat ++ (ddL (l.drop (st.int 3 + x.2.1 - 1).toNat)).tail, measure := fun _ (x : Int × Int × List CeD × Unit) => (l.length - x.2.1).toNat }
    | _ => none
abbrev ann_compactO : Ann := { slots := numP 0 [.list .part Ce], boxes := [], inv := fun _ _ => True }
noncomputable def g_compactO (l : List CeD) : Prop := vc (env_compactO l) (codeOf Tryd.f25) ⟨(start0 Tryd.f25 [.slc 9000 0 none]).s, [(9000, .arr 0 (.pair (.int .i64) (.pair (.int .i64) (.pair (.int .i64) (.pair (.int .i64) (.pair (.int .i64) (.int .i64)))))) l)]⟩ (exitG (env_compactO l).P Tryd.f25.results.toList [none] (env_compactO l).pins ann_compactO (ddL l, ()))
def g_compactO_vc (l : List CeD) : Prop :=
  (decide ((↑l.length : Int) < (2 : Int)) = true → True ∧ (l, ()) = (ddL l, ())) ∧ (decide ((↑l.length : Int) < (2 : Int)) = false → (True ∧ (1 : Int) ≤ (1 : Int) ∧ (1 : Int) ≤ (↑l.length : Int) ∧ l = l ∧ ddL l = List.take (Int.toNat (1 : Int) - (1 : Nat)) l ++ ddL (List.drop (Int.toNat (1 : Int) - (1 : Nat)) l)) ∧ ∀ (x : Int × List (Int × Int × Int × Int × Int × Int) × Unit), (1 : Int) ≤ x.fst ∧ x.fst ≤ (↑l.length : Int) ∧ x.snd.fst = l ∧ ddL l = List.take (x.fst.toNat - (1 : Nat)) l ++ ddL (List.drop (x.fst.toNat - (1 : Nat)) l) → (decide (x.fst < (↑x.snd.fst.length : Int)) = true → ((0 : Int) ≤ x.fst ∧ x.fst < (↑x.snd.fst.length : Int)) ∧ x.fst.toNat < x.snd.fst.length ∧ ∀ (x_1 : Int × Int × Int × Int × Int × Int), x.snd.fst[x.fst.toNat]? = some x_1 → ((-9223372036854775808 : Int) ≤ x.fst - (1 : Int) ∧ x.fst - (1 : Int) ≤ (9223372036854775807 : Int)) ∧ ((0 : Int) ≤ x.fst - (1 : Int) ∧ x.fst - (1 : Int) < (↑x.snd.fst.length : Int)) ∧ (x.fst - (1 : Int)).toNat < x.snd.fst.length ∧ ∀ (x_2 : Int × Int × Int × Int × Int × Int), x.snd.fst[(x.fst - (1 : Int)).toNat]? = some x_2 → ((decide (x_1.fst = x_2.fst) && (decide (x_1.snd.fst = x_2.snd.fst) && (decide (x_1.snd.snd.fst = x_2.snd.snd.fst) && (decide (x_1.snd.snd.snd.fst = x_2.snd.snd.snd.fst) && (decide (x_1.snd.snd.snd.snd.fst = x_2.snd.snd.snd.snd.fst) && (decide (x_1.snd.snd.snd.snd.snd = x_2.snd.snd.snd.snd.snd) && true)))))) = true → ((0 : Int) ≤ x.fst ∧ x.fst ≤ (↑x.snd.fst.length : Int)) ∧ (True ∧ (1 : Int) ≤ (1 : Int) ∧ x.fst ≤ x.fst ∧ x.fst < x.fst + (1 : Int) ∧ x.fst + (1 : Int) ≤ (↑l.length : Int) ∧ x.snd.fst.length = l.length ∧ List.drop (x.fst + (1 : Int) - (1 : Int)).toNat x.snd.fst = List.drop (x.fst + (1 : Int) - (1 : Int)).toNat l ∧ ddL l = List.take x.fst.toNat x.snd.fst ++ (ddL (List.drop (x.fst + (1 : Int) - (1 : Int)).toNat l)).tail) ∧ ∀ (x_3 : Int × Int × List (Int × Int × Int × Int × Int × Int) × Unit), (1 : Int) ≤ x_3.snd.fst ∧ x.fst ≤ x_3.fst ∧ x_3.fst < x.fst + x_3.snd.fst ∧ x.fst + x_3.snd.fst ≤ (↑l.length : Int) ∧ x_3.snd.snd.fst.length = l.length ∧ List.drop (x.fst + x_3.snd.fst - (1 : Int)).toNat x_3.snd.snd.fst = List.drop (x.fst + x_3.snd.fst - (1 : Int)).toNat l ∧ ddL l = List.take x_3.fst.toNat x_3.snd.snd.fst ++ (ddL (List.drop (x.fst + x_3.snd.fst - (1 : Int)).toNat l)).tail → (decide (x_3.snd.fst < (↑(x.snd.fst.length - x.fst.toNat) : Int)) = true → ((0 : Int) ≤ x_3.snd.fst ∧ x_3.snd.fst < (↑(x.snd.fst.length - x.fst.toNat) : Int)) ∧ x.fst.toNat + x_3.snd.fst.toNat < x_3.snd.snd.fst.length ∧ ∀ (x_4 : Int × Int × Int × Int × Int × Int), x_3.snd.snd.fst[x.fst.toNat + x_3.snd.fst.toNat]? = some x_4 → ((-9223372036854775808 : Int) ≤ x_3.snd.fst - (1 : Int) ∧ x_3.snd.fst - (1 : Int) ≤ (9223372036854775807 : Int)) ∧ ((0 : Int) ≤ x_3.snd.fst - (1 : Int) ∧ x_3.snd.fst - (1 : Int) < (↑(x.snd.fst.length - x.fst.toNat) : Int)) ∧ x.fst.toNat + (x_3.snd.fst - (1 : Int)).toNat < x_3.snd.snd.fst.length ∧ ∀ (x_5 : Int × Int × Int × Int × Int × Int), x_3.snd.snd.fst[x.fst.toNat + (x_3.snd.fst - (1 : Int)).toNat]? = some x_5 → ((!(decide (x_4.fst = x_5.fst) && (decide (x_4.snd.fst = x_5.snd.fst) && (decide (x_4.snd.snd.fst = x_5.snd.snd.fst) && (decide (x_4.snd.snd.snd.fst = x_5.snd.snd.snd.fst) && (decide (x_4.snd.snd.snd.snd.fst = x_5.snd.snd.snd.snd.fst) && (decide (x_4.snd.snd.snd.snd.snd = x_5.snd.snd.snd.snd.snd) && true))))))) = true → ((0 : Int) ≤ x_3.snd.fst ∧ x_3.snd.fst < (↑(x.snd.fst.length - x.fst.toNat) : Int)) ∧ x.fst.toNat + x_3.snd.fst.toNat < x_3.snd.snd.fst.length ∧ ∀ (x_6 : Int × Int × Int × Int × Int × Int), x_3.snd.snd.fst[x.fst.toNat + x_3.snd.fst.toNat]? = some x_6 → ((0 : Int) ≤ x_3.fst ∧ x_3.fst < (↑x_3.snd.snd.fst.length : Int)) ∧ x_3.fst.toNat < x_3.snd.snd.fst.length ∧ ∀ (y : Int × Int × Int × Int × Int × Int), x_3.snd.snd.fst[x_3.fst.toNat]? = some y → ((-9223372036854775808 : Int) ≤ x_3.fst + (1 : Int) ∧ x_3.fst + (1 : Int) ≤ (9223372036854775807 : Int)) ∧ ((-9223372036854775808 : Int) ≤ x_3.snd.fst + (1 : Int) ∧ x_3.snd.fst + (1 : Int) ≤ (9223372036854775807 : Int)) ∧ True ∧ ((1 : Int) ≤ x_3.snd.fst + (1 : Int) ∧ x.fst ≤ x_3.fst + (1 : Int) ∧ x_3.fst + (1 : Int) < x.fst + (x_3.snd.fst + (1 : Int)) ∧ x.fst + (x_3.snd.fst + (1 : Int)) ≤ (↑l.length : Int) ∧ (x_3.snd.snd.fst.set x_3.fst.toNat (x_6.fst, x_6.snd.fst, x_6.snd.snd.fst, x_6.snd.snd.snd.fst, x_6.snd.snd.snd.snd.fst, x_6.snd.snd.snd.snd.snd)).length = l.length ∧ List.drop (x.fst + (x_3.snd.fst + (1 : Int)) - (1 : Int)).toNat (x_3.snd.snd.fst.set x_3.fst.toNat (x_6.fst, x_6.snd.fst, x_6.snd.snd.fst, x_6.snd.snd.snd.fst, x_6.snd.snd.snd.snd.fst, x_6.snd.snd.snd.snd.snd)) = List.drop (x.fst + (x_3.snd.fst + (1 : Int)) - (1 : Int)).toNat l ∧ ddL l = List.take (x_3.fst + (1 : Int)).toNat (x_3.snd.snd.fst.set x_3.fst.toNat (x_6.fst, x_6.snd.fst, x_6.snd.snd.fst, x_6.snd.snd.snd.fst, x_6.snd.snd.snd.snd.fst, x_6.snd.snd.snd.snd.snd)) ++ (ddL (List.drop (x.fst + (x_3.snd.fst + (1 : Int)) - (1 : Int)).toNat l)).tail) ∧ ((↑l.length : Int) - (x_3.snd.fst + (1 : Int))).toNat < ((↑l.length : Int) - x_3.snd.fst).toNat) ∧ ((!(decide (x_4.fst = x_5.fst) && (decide (x_4.snd.fst = x_5.snd.fst) && (decide (x_4.snd.snd.fst = x_5.snd.snd.fst) && (decide (x_4.snd.snd.snd.fst = x_5.snd.snd.snd.fst) && (decide (x_4.snd.snd.snd.snd.fst = x_5.snd.snd.snd.snd.fst) && (decide (x_4.snd.snd.snd.snd.snd = x_5.snd.snd.snd.snd.snd) && true))))))) = false → ((-9223372036854775808 : Int) ≤ x_3.snd.fst + (1 : Int) ∧ x_3.snd.fst + (1 : Int) ≤ (9223372036854775807 : Int)) ∧ True ∧ ((1 : Int) ≤ x_3.snd.fst + (1 : Int) ∧ x.fst ≤ x_3.fst ∧ x_3.fst < x.fst + (x_3.snd.fst + (1 : Int)) ∧ x.fst + (x_3.snd.fst + (1 : Int)) ≤ (↑l.length : Int) ∧ x_3.snd.snd.fst.length = l.length ∧ List.drop (x.fst + (x_3.snd.fst + (1 : Int)) - (1 : Int)).toNat x_3.snd.snd.fst = List.drop (x.fst + (x_3.snd.fst + (1 : Int)) - (1 : Int)).toNat l ∧ ddL l = List.take x_3.fst.toNat x_3.snd.snd.fst ++ (ddL (List.drop (x.fst + (x_3.snd.fst + (1 : Int)) - (1 : Int)).toNat l)).tail) ∧ ((↑l.length : Int) - (x_3.snd.fst + (1 : Int))).toNat < ((↑l.length : Int) - x_3.snd.fst).toNat)) ∧ (decide (x_3.snd.fst < (↑(x.snd.fst.length - x.fst.toNat) : Int)) = false → ((0 : Int) ≤ x_3.fst ∧ x_3.fst ≤ (↑x_3.snd.snd.fst.length : Int)) ∧ x_3.fst.toNat + (x_3.snd.snd.fst.length - x_3.fst.toNat) ≤ x_3.snd.snd.fst.length ∧ ((0 : Int) ≤ x_3.fst ∧ x_3.fst ≤ (↑(List.take x_3.fst.toNat x_3.snd.snd.fst ++ List.replicate (x_3.snd.snd.fst.length - x_3.fst.toNat) ((0 : Int), (0 : Int), (0 : Int), (0 : Int), (0 : Int), (0 : Int)) ++ List.drop (x_3.fst.toNat + (x_3.snd.snd.fst.length - x_3.fst.toNat)) x_3.snd.snd.fst).length : Int)) ∧ True ∧ (List.take x_3.fst.toNat (List.drop (0 : Nat) (List.take x_3.fst.toNat x_3.snd.snd.fst ++ List.replicate (x_3.snd.snd.fst.length - x_3.fst.toNat) ((0 : Int), (0 : Int), (0 : Int), (0 : Int), (0 : Int), (0 : Int)) ++ List.drop (x_3.fst.toNat + (x_3.snd.snd.fst.length - x_3.fst.toNat)) x_3.snd.snd.fst)), ()) = (ddL l, ()))) ∧ ((decide (x_1.fst = x_2.fst) && (decide (x_1.snd.fst = x_2.snd.fst) && (decide (x_1.snd.snd.fst = x_2.snd.snd.fst) && (decide (x_1.snd.snd.snd.fst = x_2.snd.snd.snd.fst) && (decide (x_1.snd.snd.snd.snd.fst = x_2.snd.snd.snd.snd.fst) && (decide (x_1.snd.snd.snd.snd.snd = x_2.snd.snd.snd.snd.snd) && true)))))) = false → ((-9223372036854775808 : Int) ≤ x.fst + (1 : Int) ∧ x.fst + (1 : Int) ≤ (9223372036854775807 : Int)) ∧ True ∧ ((1 : Int) ≤ x.fst + (1 : Int) ∧ x.fst + (1 : Int) ≤ (↑l.length : Int) ∧ x.snd.fst = l ∧ ddL l = List.take ((x.fst + (1 : Int)).toNat - (1 : Nat)) l ++ ddL (List.drop ((x.fst + (1 : Int)).toNat - (1 : Nat)) l)) ∧ ((↑l.length : Int) - (x.fst + (1 : Int))).toNat < ((↑l.length : Int) - x.fst).toNat)) ∧ (decide (x.fst < (↑x.snd.fst.length : Int)) = false → True ∧ (x.snd.fst, ()) = (ddL l, ())))
theorem g_compactO_eq (l : List CeD) : g_compactO l = g_compactO_vc l := by kernel_rfl
theorem ddL_ne {x y : CeD} {r : List CeD} (h : ¬ x = y) : ddL (x :: y :: r) = x :: ddL (y :: r) := by rw [ddL, if_neg h]
theorem ddL_eq {x : CeD} {r : List CeD} : ddL (x :: x :: r) = ddL (x :: r) := by rw [ddL, if_pos rfl]
theorem ddL_head : ∀ (x : CeD) (r : List CeD), ddL (x :: r) = x :: (ddL (x :: r)).tail
  | x, [] => rfl
  | x, y :: r => by
    by_cases e : x = y
    · subst e
      rw [ddL_eq]
      exact ddL_head x r
    · rw [ddL_ne e]
      rfl
theorem take_setc (m : List CeD) (u : CeD) {k : Nat} (h : k < m.length) : (m.set k u).take (k + 1) = m.take k ++ [u] := by
  rw [List.take_add_one, List.take_set_of_le (Nat.le_refl k), List.getElem?_set_self h]
  rfl
theorem g_compactO_ok (l : List CeD) (h : l.length ≤ 1000000000) : g_compactO_vc l := by
  unfold g_compactO_vc
  simp only [decide_eq_true_eq, decide_eq_false_iff_not, Bool.not_eq_true', Bool.not_eq_false', Bool.not_true, Bool.not_false, Bool.and_eq_true, Bool.and_eq_false_iff, and_true]
  refine ⟨fun c => ⟨trivial, ?_⟩, fun c => ⟨⟨trivial, by omega, by omega, trivial, rfl⟩, ?_⟩⟩
  · match l, c with
    | [], _ => rfl
    | [x], _ => rfl
    | x :: y :: r, c => simp at c; omega
  rintro ⟨k, l', ⟨⟩⟩ ⟨h1, h2, rfl, h3⟩
  dsimp only at h c h1 h2 h3 ⊢
  refine ⟨fun c => ⟨by omega, by omega, fun x hx => ⟨by omega, by omega, by omega, fun y hy => ⟨fun e => ⟨by omega, ?_⟩, fun ne => ⟨by omega, trivial, ⟨by omega, by omega, rfl, ?_⟩, by omega⟩⟩⟩⟩, fun c => ⟨trivial, ?_⟩⟩
  · have e := ce_eq.1 e
    subst e
    rw [show (k - 1).toNat = k.toNat - 1 by omega] at hy
    have hx2 : l'[k.toNat - 1 + 1]? = some x := by rw [show k.toNat - 1 + 1 = k.toNat by omega]; exact hx
    have base : ddL l' = l'.take k.toNat ++ (ddL (l'.drop (k + 1 - 1).toNat)).tail := by
      rw [h3, drop_ce hy, drop_ce hx2, ddL_eq, ddL_head, show (k + 1 - 1).toNat = k.toNat - 1 + 1 by omega, drop_ce hx2]
      have : l'.take k.toNat = l'.take (k.toNat - 1) ++ [x] := by
        rw [show k.toNat = k.toNat - 1 + 1 by omega, List.take_add_one, show k.toNat - 1 + 1 - 1 = k.toNat - 1 by omega, hy]
        rfl
      rw [this]
      simp
    refine ⟨⟨trivial, by omega, by omega, by omega, by omega, rfl, rfl, base⟩, ?_⟩
    rintro ⟨k', j, m, ⟨⟩⟩ ⟨g1, g2, g3, g4, g5, g6, g7⟩
    dsimp only at g1 g2 g3 g4 g5 g6 g7 ⊢
    have at_ : ∀ n : Nat, k + j - 1 ≤ n → m[n]? = l'[n]? := fun n hn => by
      have := congrArg (fun z => z[n - (k + j - 1).toNat]?) g6
      simp only [List.getElem?_drop] at this
      rwa [show (k + j - 1).toNat + (n - (k + j - 1).toNat) = n by omega] at this
    have nx : (k + j - 1).toNat + 1 = (k + (j + 1) - 1).toNat := by omega
    have g6' : m.drop (k + (j + 1) - 1).toNat = l'.drop (k + (j + 1) - 1).toNat := by
      have := congrArg (List.drop 1) g6
      rwa [List.drop_drop, List.drop_drop, nx] at this
    refine ⟨fun c => ⟨by omega, by omega, fun u hu => ⟨by omega, by omega, by omega, fun v hv => ⟨fun ne => ⟨by omega, by omega, fun u2 hu2 => ⟨by omega, by omega, fun z hz => ⟨by omega, by omega, trivial, ⟨by omega, by omega, by omega, by omega, by rw [List.length_set]; exact g5, ?_, ?_⟩, by omega⟩⟩⟩, fun e => ⟨by omega, trivial, ⟨by omega, by omega, by omega, by omega, g5, ?_, ?_⟩, by omega⟩⟩⟩⟩, fun c => ⟨by omega, by omega, ⟨by omega, ?_⟩, trivial, ?_⟩⟩
    · rw [List.drop_set_of_lt (by omega)]
      exact g6'
    · rw [hu] at hu2
      cases hu2
      rw [at_ _ (by omega)] at hu hv
      have ne : ¬ v = u := fun e => by
        subst e
        simp at ne
      have hv : l'[(k + j - 1).toNat]? = some v := by rw [← hv]; congr 1; omega
      have hu : l'[(k + j - 1).toNat + 1]? = some u := by rw [← hu]; congr 1; omega
      rw [g7, drop_ce hv, drop_ce hu, ddL_ne ne, List.tail_cons, ddL_head, ← drop_ce hu, nx, show (k' + 1).toNat = k'.toNat + 1 by omega, take_setc m _ (by omega)]
      simp
    · exact g6'
    · rw [at_ _ (by omega)] at hu hv
      have e := ce_eq.1 e
      subst e
      have hv : l'[(k + j - 1).toNat]? = some u := by rw [← hv]; congr 1; omega
      have hu : l'[(k + j - 1).toNat + 1]? = some u := by rw [← hu]; congr 1; omega
      rw [g7, drop_ce hv, drop_ce hu, ddL_eq, ← drop_ce hu, nx]
    · simp only [List.length_append, List.length_take, List.length_replicate, List.length_drop]
      omega
    · have hd : (l'.drop (k + j - 1).toNat).length = 1 := by rw [List.length_drop]; omega
      obtain ⟨z, hz⟩ := List.length_eq_one_iff.1 hd
      rw [g7, hz, List.drop_zero, List.append_assoc, List.take_append_of_le_length (by rw [List.length_take]; omega), List.take_take, Nat.min_self]
      simp [ddL]
  · have ne : ¬ y = x := fun e => by
      subst e
      simp at ne
    rw [show (k - 1).toNat = k.toNat - 1 by omega] at hy
    have hx2 : l'[k.toNat - 1 + 1]? = some x := by rw [show k.toNat - 1 + 1 = k.toNat by omega]; exact hx
    rw [h3, drop_ce hy, drop_ce hx2, ddL_ne ne, ← drop_ce hx2, show (k + 1).toNat - 1 = k.toNat - 1 + 1 by omega, List.take_add_one, hy]
    simp
  · have : l'.length = k.toNat := by omega
    rw [h3]
    have hd : (l'.drop (k.toNat - 1)).length = 1 := by rw [List.length_drop]; omega
    obtain ⟨z, hz⟩ := List.length_eq_one_iff.1 hd
    have : ddL (l'.drop (k.toNat - 1)) = l'.drop (k.toNat - 1) := by rw [hz]; rfl
    rw [this, List.take_append_drop]
set_option maxRecDepth 20000 in
theorem compactO_upd (l : List CeD) (h : l.length ≤ 1000000000) : UpdC Tryd.prog 25 [.slc 9000 0 none] [(9000, .arr 0 (.pair (.int .i64) (.pair (.int .i64) (.pair (.int .i64) (.pair (.int .i64) (.pair (.int .i64) (.int .i64)))))) l)] (.list .part Ce (ddL l)) [] :=
  UpdC.of_vcG (E := env_compactO l) (sh := [none]) (ann := ann_compactO) (x := (ddL l, ())) (fn := Tryd.f25) (c := codeOf Tryd.f25) (specs_ok (P := Tryd.prog) rfl [] [] rfl rfl) mixed Tryd.func25 rfl rfl rfl rfl (by
    have := g_compactO_ok l h
    rw [← g_compactO_eq] at this
    exact this)
noncomputable def q_compactO (l : List CeD) : Prop × V × Store := (l.length ≤ 1000000000, .list .part Ce (ddL l), [])
noncomputable def so_compactO : OSpec Tryd.prog where
  f := 25
  run := fun args σ => match args, σ with
    | [.slc 9000 0 none], [(9000, .arr 0 (.pair (.int .i64) (.pair (.int .i64) (.pair (.int .i64) (.pair (.int .i64) (.pair (.int .i64) (.int .i64)))))) l)] => some (q_compactO l)
    | _, _ => none
  ok := fun args σ pre r σ' h hp => by
    try dsimp only at h
    split at h
    · rename_i l
      have h := Option.some.inj h
      unfold q_compactO at h
      cases h
      exact (compactO_upd l hp).weak (.cons (Weak.refl _) .nil)
    · cases h

end Go.Proofs.YtemgelifnjefoaaDoor
