/-
  An entry's opposite.
-/
import Derived.Test.YtgjpehgnagfghaaGreatEnt9
namespace Go.Proofs.YtgjpehgnagfghaaGreat.Ent
open Go.Vm
def negLn (x : Ln) : Ln := (x.1, x.2.1, x.2.2.1, -x.2.2.2)
def hasLeast (L : List Ln) : Bool := L.any fun x => decide (x.2.2.2 = -9223372036854775808)
def oppF (p r : Int) (L : List Ln) : (Int × Int × List Ln) × Int := if hasLeast L then ((0, 0, []), 10) else ((p, r, L.map negLn), 0)
theorem take_snoc' {α : Type} {l : List α} {i : Nat} {d : α} (hd : l[i]? = some d) : l.take (i + 1) = l.take i ++ [d] := by
  rw [List.take_add_one, hd]
  rfl
theorem least_take {L : List Ln} {i : Nat} {x : Ln} (h : L[i]? = some x) : hasLeast (L.take (i + 1)) = (hasLeast (L.take i) || decide (x.2.2.2 = -9223372036854775808)) := by
  unfold hasLeast
  rw [take_snoc' h, List.any_append]
  simp
theorem least_hit {L : List Ln} {i : Nat} {x : Ln} (h : L[i]? = some x) (e : x.2.2.2 = -9223372036854775808) : hasLeast L = true := by
  simp only [hasLeast, List.any_eq_true, decide_eq_true_eq]
  exact ⟨x, List.mem_of_getElem? h, e⟩
theorem neg_take {L : List Ln} {i : Nat} {x : Ln} (h : L[i]? = some x) : (L.take (i + 1)).map negLn = (L.take i).map negLn ++ [negLn x] := by
  rw [take_snoc' h, List.map_append]
  rfl
theorem mid_len {L : List Ln} (i : Nat) : ((L.take i).map negLn ++ L.drop i).length = L.length := by
  simp
  omega
theorem mid_get {L : List Ln} {i : Nat} {x : Ln} (h : L[i]? = some x) : ((L.take i).map negLn ++ L.drop i)[i]? = some x := by
  have hi := (List.getElem?_eq_some_iff.1 h).1
  rw [List.getElem?_append_right (by simp; omega)]
  simp only [List.length_map, List.length_take, Nat.min_eq_left (Nat.le_of_lt hi), Nat.sub_self, List.getElem?_drop]
  exact h
theorem mid_set {L : List Ln} {i : Nat} {x : Ln} (h : L[i]? = some x) : ((L.take i).map negLn ++ L.drop i).set i (negLn x) = (L.take (i + 1)).map negLn ++ L.drop (i + 1) := by
  have hi := (List.getElem?_eq_some_iff.1 h).1
  rw [neg_take h, drop_at h, List.set_append_right _ _ (by simp; omega)]
  simp only [List.length_map, List.length_take, Nat.min_eq_left (Nat.le_of_lt hi), Nat.sub_self, List.set_cons_zero, List.append_assoc]
  rfl
theorem sub0 {a : Int} (h : InI a) : (a = -9223372036854775808 ∧ subF 0 a = (0, 10)) ∨ (a ≠ -9223372036854775808 ∧ subF 0 a = (-a, 0)) := by
  obtain ⟨h1, h2⟩ := h
  unfold subF
  by_cases c : a = -9223372036854775808
  · exact .inl ⟨c, if_neg (by omega)⟩
  · exact .inr ⟨c, by rw [if_pos (by omega), Int.zero_sub]⟩
theorem oppF_bad {p r : Int} {L : List Ln} (h : hasLeast L = true) : oppF p r L = ((0, 0, []), 10) := by unfold oppF; rw [if_pos h]
theorem oppF_good {p r : Int} {L : List Ln} (h : hasLeast L = false) : oppF p r L = ((p, r, L.map negLn), 0) := by unfold oppF; rw [if_neg (by rw [h]; decide)]
noncomputable def env_opp (p r : Int) (L : List Ln) : Env where
  P := Tryz.prog
  ty := tys
  specs := specsOf [sp_clone, sp_neg]
  heads := fun
    | 4 => some { slots := [(17, .int .i64), (12, .any), (5, .any), (6, .any), (7, .any), (8, .any)], boxes := [(4, [.int .i64, .int .i64, .slc 5000 LTy])], keep := [1, 2], inv := fun _ (x : Int × Unit × Unit × Unit × Unit × Unit × Int × Int × List Ln × Unit) => 0 ≤ x.1 ∧ x.1 ≤ L.length ∧ x.2.2.2.2.2.2.1 = p ∧ x.2.2.2.2.2.2.2.1 = r ∧ x.2.2.2.2.2.2.2.2.1 = (L.take x.1.toNat).map negLn ++ L.drop x.1.toNat ∧ hasLeast (L.take x.1.toNat) = false, measure := fun _ (x : Int × Unit × Unit × Unit × Unit × Unit × Int × Int × List Ln × Unit) => (L.length - x.1).toNat }
    | _ => none
abbrev ann_opp : Ann := { slots := numP 0 [.int .i64, .int .i64, .list .part LTy, .int .i64], boxes := [], inv := fun _ _ => True }
abbrev bx_opp_1  : _root_.Go.Vm.Obj := Obj.box [V.int IntKind.i64 (0 : Int), V.int IntKind.i64 (0 : Int), V.nils]
abbrev bx_opp_2 (p : Int) (r : Int) (L : List Ln) : _root_.Go.Vm.Obj := Obj.box [V.int IntKind.i64 p, V.int IntKind.i64 r, V.list LK.tmp LTy L]
def g_opp_vc (p : Int) (r : Int) (L : List Ln) : Prop :=
  L.length ≤ (1000000000 : Nat) ∧ ((some (bx_opp_2 p r L) = some (bx_opp_2 p r L) ∧ some bx_opp_1 = some bx_opp_1 ∧ True) ∧ (0 : Int) ≤ (0 : Int) ∧ (0 : Int) ≤ (↑L.length : Int) ∧ p = p ∧ r = r ∧ L = List.map negLn (List.take (Int.toNat (0 : Int)) L) ++ List.drop (Int.toNat (0 : Int)) L ∧ hasLeast (List.take (Int.toNat (0 : Int)) L) = false) ∧ ∀ (x : Int × Unit × Unit × Unit × Unit × Unit × Int × Int × List (Int × Int × Int × Int) × Unit), (0 : Int) ≤ x.1 ∧ x.1 ≤ (↑L.length : Int) ∧ x.2.2.2.2.2.2.1 = p ∧ x.2.2.2.2.2.2.2.1 = r ∧ x.2.2.2.2.2.2.2.2.1 = List.map negLn (List.take x.1.toNat L) ++ List.drop x.1.toNat L ∧ hasLeast (List.take x.1.toNat L) = false → (decide (x.1 < (↑L.length : Int)) = true → ((0 : Int) ≤ x.1 ∧ x.1 < (↑L.length : Int)) ∧ ∀ (x_1 : Int × Int × Int × Int), L[x.1.toNat]? = some x_1 → InI x_1.2.2.2 ∧ ((!decide ((subF (0 : Int) x_1.2.2.2).2 = (0 : Int))) = true → True ∧ ((0 : Int), (0 : Int), [], (subF (0 : Int) x_1.2.2.2).2, ()) = ((oppF p r L).1.1, (oppF p r L).1.2.1, (oppF p r L).1.2.2, (oppF p r L).2, ())) ∧ ((!decide ((subF (0 : Int) x_1.2.2.2).2 = (0 : Int))) = false → ((0 : Int) ≤ x.1 ∧ x.1 < (↑x.2.2.2.2.2.2.2.2.1.length : Int)) ∧ x.1.toNat < x.2.2.2.2.2.2.2.2.1.length ∧ ∀ (y : Int × Int × Int × Int), x.2.2.2.2.2.2.2.2.1[x.1.toNat]? = some y → ((-9223372036854775808 : Int) ≤ x.1 + (1 : Int) ∧ x.1 + (1 : Int) ≤ (9223372036854775807 : Int)) ∧ (some (bx_opp_2 p r L) = some (bx_opp_2 p r L) ∧ some bx_opp_1 = some bx_opp_1 ∧ True) ∧ ((0 : Int) ≤ x.1 + (1 : Int) ∧ x.1 + (1 : Int) ≤ (↑L.length : Int) ∧ x.2.2.2.2.2.2.1 = p ∧ x.2.2.2.2.2.2.2.1 = r ∧ x.2.2.2.2.2.2.2.2.1.set x.1.toNat (y.1, y.2.1, y.2.2.1, (subF (0 : Int) x_1.2.2.2).1) = List.map negLn (List.take (x.1 + (1 : Int)).toNat L) ++ List.drop (x.1 + (1 : Int)).toNat L ∧ hasLeast (List.take (x.1 + (1 : Int)).toNat L) = false) ∧ ((↑L.length : Int) - (x.1 + (1 : Int))).toNat < ((↑L.length : Int) - x.1).toNat)) ∧ (decide (x.1 < (↑L.length : Int)) = false → True ∧ (x.2.2.2.2.2.2.1, x.2.2.2.2.2.2.2.1, x.2.2.2.2.2.2.2.2.1, (0 : Int), ()) = ((oppF p r L).1.1, (oppF p r L).1.2.1, (oppF p r L).1.2.2, (oppF p r L).2, ()))
theorem g_opp_eq (p r : Int) (L : List Ln) : CondG (env_opp p r L) Tryz.f110 [.agg [.int .i64 p, .int .i64 r, .list .tmp LTy L]] [some 3, none] ann_opp ((oppF p r L).1.1, (oppF p r L).1.2.1, (oppF p r L).1.2.2, (oppF p r L).2, ()) = g_opp_vc p r L := by kernel_rfl
theorem g_opp_ok (p r : Int) (L : List Ln) (h : InL L ∧ L.length ≤ 1000) : g_opp_vc p r L := by
  obtain ⟨hI, hl⟩ := h
  unfold g_opp_vc
  refine ⟨by omega, ⟨⟨rfl, rfl, trivial⟩, by omega, by omega, rfl, rfl, by simp, by simp [hasLeast]⟩, ?_⟩
  rintro ⟨i, _, _, _, _, _, q, s, M, ⟨⟩⟩ ⟨h1, h2, h3, h4, h5, h6⟩
  dsimp only at h1 h2 h3 h4 h5 h6 ⊢
  subst h3 h4 h5
  simp only [decide_eq_true_eq, decide_eq_false_iff_not, Bool.not_eq_true', Bool.not_eq_false']
  refine ⟨fun hi => ⟨⟨h1, hi⟩, fun x hx => ⟨hI.get hx, fun c => ⟨trivial, ?_⟩, fun c => ⟨⟨h1, by rw [mid_len]; exact hi⟩, by rw [mid_len]; omega, fun y hy => ⟨by omega, ⟨trivial, trivial, trivial⟩, ⟨by omega, by omega, trivial, trivial, ?_, ?_⟩, by omega⟩⟩⟩⟩, fun hi => ⟨trivial, ?_⟩⟩
  · rcases sub0 (hI.get hx) with ⟨e1, e2⟩ | ⟨e1, e2⟩
    · rw [e2, oppF_bad (least_hit hx e1)]
    · rw [e2] at c
      exact absurd rfl c
  · rw [mid_get hx] at hy
    cases hy
    rcases sub0 (hI.get hx) with ⟨e1, e2⟩ | ⟨e1, e2⟩
    · rw [e2] at c
      exact absurd c (by decide)
    · rw [e2, toNat_next h1]
      exact mid_set hx
  · rcases sub0 (hI.get hx) with ⟨e1, e2⟩ | ⟨e1, e2⟩
    · rw [e2] at c
      exact absurd c (by decide)
    · rw [toNat_next h1, least_take hx, h6, decide_eq_false e1]
      rfl
  · have e1 : L.take i.toNat = L := List.take_of_length_le (by omega)
    have e2 : L.drop i.toNat = [] := List.drop_of_length_le (by omega)
    rw [e1] at h6 ⊢
    rw [e2, oppF_good h6, List.append_nil]
set_option maxRecDepth 20000
theorem opp_pure (p r : Int) (L : List Ln) (h : InL L ∧ L.length ≤ 1000) : Pure Tryz.prog 110 [.agg [.int .i64 p, .int .i64 r, .list .tmp LTy L]] (.tuple [.agg [.int .i64 (oppF p r L).1.1, .int .i64 (oppF p r L).1.2.1, .list .part LTy (oppF p r L).1.2.2], .int .i64 (oppF p r L).2]) :=
  by have k := Pure.of_condG (r := (.tuple [.agg [.int .i64 (oppF p r L).1.1, .int .i64 (oppF p r L).1.2.1, .list .part LTy (oppF p r L).1.2.2], .int .i64 (oppF p r L).2])) (g_opp_eq p r L) (g_opp_ok p r L h) rfl (specs_ok rfl [sp_clone, sp_neg] [] rfl rfl) mixed Tryz.func110; exact k
noncomputable def q_opp (p r : Int) (L : List Ln) : Prop × V := (InL L ∧ L.length ≤ 1000, (.tuple [.agg [.int .i64 (oppF p r L).1.1, .int .i64 (oppF p r L).1.2.1, .list .part LTy (oppF p r L).1.2.2], .int .i64 (oppF p r L).2]))
noncomputable def sp_opp : FSpec Tryz.prog where
 f := 110
 run := fun
  | [.agg [.int .i64 p, .int .i64 r, v0_2]] => (asL LTy v0_2 : Option (List Ln)).bind fun L => some (q_opp p r L)
  | _ => none
 ok := fun args pre r h hp => by
  split at h
  · rename_i p r v0_2
    obtain ⟨L, h0_2, h⟩ := Option.bind_eq_some_iff.1 h
    exact of_q h hp fun h => (opp_pure p r L h).weak (.cons (Weak.agg (.cons (.refl _) (.cons (.refl _) (.cons (asL_weak h0_2) .nil)))) .nil)
  · cases h
noncomputable def env_refOpp (p r : Int) (L : List Ln) : Env where
  P := Tryz.prog
  ty := tys
  heads := fun
    | 3 => some { slots := [(5, .int .i64), (6, .any)], boxes := [(4, [.int .i64, .int .i64, .slc 5000 LTy])], keep := [1, 2], inv := fun _ (x : Int × Unit × Int × Int × List Ln × Unit) => 0 ≤ x.1 ∧ x.1 ≤ L.length ∧ x.2.2.1 = p ∧ x.2.2.2.1 = r ∧ x.2.2.2.2.1 = (L.take x.1.toNat).map negLn ∧ hasLeast (L.take x.1.toNat) = false, measure := fun _ (x : Int × Unit × Int × Int × List Ln × Unit) => (L.length - x.1).toNat }
    | _ => none
abbrev ann_refOpp : Ann := { slots := numP 0 [.int .i64, .int .i64, .list .part LTy, .int .i64], boxes := [], inv := fun _ _ => True }
abbrev bx_refOpp_1  : _root_.Go.Vm.Obj := Obj.box [V.int IntKind.i64 (0 : Int), V.int IntKind.i64 (0 : Int), V.nils]
abbrev bx_refOpp_2 (p : Int) (r : Int) (L : List Ln) : _root_.Go.Vm.Obj := Obj.box [V.int IntKind.i64 p, V.int IntKind.i64 r, V.list LK.tmp LTy L]
def g_refOpp_vc (p : Int) (r : Int) (L : List Ln) : Prop :=
  ((some (bx_refOpp_2 p r L) = some (bx_refOpp_2 p r L) ∧ some bx_refOpp_1 = some bx_refOpp_1 ∧ True) ∧ (0 : Int) ≤ (0 : Int) ∧ (0 : Int) ≤ (↑L.length : Int) ∧ p = p ∧ r = r ∧ [] = List.map negLn (List.take (Int.toNat (0 : Int)) L) ∧ hasLeast (List.take (Int.toNat (0 : Int)) L) = false) ∧ ∀ (x : Int × Unit × Int × Int × List (Int × Int × Int × Int) × Unit), (0 : Int) ≤ x.1 ∧ x.1 ≤ (↑L.length : Int) ∧ x.2.2.1 = p ∧ x.2.2.2.1 = r ∧ x.2.2.2.2.1 = List.map negLn (List.take x.1.toNat L) ∧ hasLeast (List.take x.1.toNat L) = false → (decide (x.1 < (↑L.length : Int)) = true → ((0 : Int) ≤ x.1 ∧ x.1 < (↑L.length : Int)) ∧ ∀ (x_1 : Int × Int × Int × Int), L[x.1.toNat]? = some x_1 → (decide (x_1.2.2.2 = (-9223372036854775808 : Int)) = true → True ∧ ((0 : Int), (0 : Int), [], (10 : Int), ()) = ((oppF p r L).1.1, (oppF p r L).1.2.1, (oppF p r L).1.2.2, (oppF p r L).2, ())) ∧ (decide (x_1.2.2.2 = (-9223372036854775808 : Int)) = false → ((-9223372036854775808 : Int) ≤ (0 : Int) - x_1.2.2.2 ∧ (0 : Int) - x_1.2.2.2 ≤ (9223372036854775807 : Int)) ∧ ((x.2.2.2.2.1.length + (1 : Nat)) * (32 : Nat) ≤ (140737488355328 : Nat) ∧ x.2.2.2.2.1.length + (1 : Nat) ≤ (4611686018427387904 : Nat)) ∧ ((-9223372036854775808 : Int) ≤ x.1 + (1 : Int) ∧ x.1 + (1 : Int) ≤ (9223372036854775807 : Int)) ∧ (some (bx_refOpp_2 p r L) = some (bx_refOpp_2 p r L) ∧ some bx_refOpp_1 = some bx_refOpp_1 ∧ True) ∧ ((0 : Int) ≤ x.1 + (1 : Int) ∧ x.1 + (1 : Int) ≤ (↑L.length : Int) ∧ x.2.2.1 = p ∧ x.2.2.2.1 = r ∧ x.2.2.2.2.1 ++ [(x_1.1, x_1.2.1, x_1.2.2.1, (0 : Int) - x_1.2.2.2)] = List.map negLn (List.take (x.1 + (1 : Int)).toNat L) ∧ hasLeast (List.take (x.1 + (1 : Int)).toNat L) = false) ∧ ((↑L.length : Int) - (x.1 + (1 : Int))).toNat < ((↑L.length : Int) - x.1).toNat)) ∧ (decide (x.1 < (↑L.length : Int)) = false → True ∧ (x.2.2.1, x.2.2.2.1, x.2.2.2.2.1, (0 : Int), ()) = ((oppF p r L).1.1, (oppF p r L).1.2.1, (oppF p r L).1.2.2, (oppF p r L).2, ()))
theorem g_refOpp_eq (p r : Int) (L : List Ln) : CondG (env_refOpp p r L) Tryz.f119 [.agg [.int .i64 p, .int .i64 r, .list .tmp LTy L]] [some 3, none] ann_refOpp ((oppF p r L).1.1, (oppF p r L).1.2.1, (oppF p r L).1.2.2, (oppF p r L).2, ()) = g_refOpp_vc p r L := by kernel_rfl
theorem g_refOpp_ok (p r : Int) (L : List Ln) (h : InL L ∧ L.length ≤ 1000) : g_refOpp_vc p r L := by
  obtain ⟨hI, hl⟩ := h
  unfold g_refOpp_vc
  refine ⟨⟨⟨rfl, rfl, trivial⟩, by omega, by omega, rfl, rfl, by simp, by simp [hasLeast]⟩, ?_⟩
  rintro ⟨i, _, q, s, M, ⟨⟩⟩ ⟨h1, h2, h3, h4, h5, h6⟩
  dsimp only at h1 h2 h3 h4 h5 h6 ⊢
  subst h3 h4 h5
  have hm : ((L.take i.toNat).map negLn).length ≤ 1000 := by simp; omega
  simp only [decide_eq_true_eq, decide_eq_false_iff_not]
  refine ⟨fun hi => ⟨⟨h1, hi⟩, fun x hx => ⟨fun c => ⟨trivial, ?_⟩, fun c => ⟨?_, ⟨by omega, by omega⟩, by omega, ⟨trivial, trivial, trivial⟩, ⟨by omega, by omega, trivial, trivial, ?_, ?_⟩, by omega⟩⟩⟩, fun hi => ⟨trivial, ?_⟩⟩
  · rw [oppF_bad (least_hit hx c)]
  · obtain ⟨b1, b2⟩ := hI.get hx
    omega
  · rw [toNat_next h1, neg_take hx, Int.zero_sub]
    rfl
  · rw [toNat_next h1, least_take hx, h6, decide_eq_false c]
    rfl
  · have e1 : L.take i.toNat = L := List.take_of_length_le (by omega)
    rw [e1] at h6 ⊢
    rw [oppF_good h6]
theorem refOpp_pure (p r : Int) (L : List Ln) (h : InL L ∧ L.length ≤ 1000) : Pure Tryz.prog 119 [.agg [.int .i64 p, .int .i64 r, .list .tmp LTy L]] (.tuple [.agg [.int .i64 (oppF p r L).1.1, .int .i64 (oppF p r L).1.2.1, .list .part LTy (oppF p r L).1.2.2], .int .i64 (oppF p r L).2]) :=
  by have k := Pure.of_condG (r := (.tuple [.agg [.int .i64 (oppF p r L).1.1, .int .i64 (oppF p r L).1.2.1, .list .part LTy (oppF p r L).1.2.2], .int .i64 (oppF p r L).2])) (g_refOpp_eq p r L) (g_refOpp_ok p r L h) rfl (specs_ok rfl [] [] rfl rfl) mixed Tryz.func119; exact k
noncomputable def q_refOpp (p r : Int) (L : List Ln) : Prop × V := (InL L ∧ L.length ≤ 1000, (.tuple [.agg [.int .i64 (oppF p r L).1.1, .int .i64 (oppF p r L).1.2.1, .list .part LTy (oppF p r L).1.2.2], .int .i64 (oppF p r L).2]))
noncomputable def sp_refOpp : FSpec Tryz.prog where
 f := 119
 run := fun
  | [.agg [.int .i64 p, .int .i64 r, v0_2]] => (asL LTy v0_2 : Option (List Ln)).bind fun L => some (q_refOpp p r L)
  | _ => none
 ok := fun args pre r h hp => by
  split at h
  · rename_i p r v0_2
    obtain ⟨L, h0_2, h⟩ := Option.bind_eq_some_iff.1 h
    exact of_q h hp fun h => (refOpp_pure p r L h).weak (.cons (Weak.agg (.cons (.refl _) (.cons (.refl _) (.cons (asL_weak h0_2) .nil)))) .nil)
  · cases h
end Go.Proofs.YtgjpehgnagfghaaGreat.Ent
