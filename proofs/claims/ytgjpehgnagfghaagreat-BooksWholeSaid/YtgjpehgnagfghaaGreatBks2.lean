/-
  Whether books may be.
-/
import Derived.Test.YtgjpehgnagfghaaGreatBks1
import Derived.Test.YtgjpehgnagfghaaGreatStk8
namespace Go.Proofs.YtgjpehgnagfghaaGreat.Bks
open Go.Vm
noncomputable def env_sameLines (L M : List Ln) : Env where
  P := Tryz.prog
  ty := tys0
  specs := specsOf [Ent.sp_same]
def g_sameLines_vc (L : List Ln) (M : List Ln) : Prop :=
  L.length ≤ (1000000000 : Nat) ∧ (Ent.sameE (0 : Int) (0 : Int) L (0 : Int) (0 : Int) M, ()) = (decide (L = M), ())
theorem g_sameLines_eq (L M : List Ln) : Cond (env_sameLines L M) Tryz.f120 [.list .tmp LnT L, .list .tmp LnT M] [.bool] (decide (L = M), ()) = g_sameLines_vc L M := by kernel_rfl
theorem g_sameLines_ok (L M : List Ln) (h : L.length ≤ 1000000) : g_sameLines_vc L M := by
  unfold g_sameLines_vc
  exact ⟨by omega, by unfold Ent.sameE; simp⟩
set_option maxRecDepth 20000
theorem sameLines_pure (L M : List Ln) (h : L.length ≤ 1000000) : Pure Tryz.prog 120 [.list .tmp LnT L, .list .tmp LnT M] (.bool (decide (L = M))) :=
  by have k := Pure.of_cond (g_sameLines_eq L M) (g_sameLines_ok L M h) (specs_ok rfl [Ent.sp_same] [] rfl rfl) mixed Tryz.func120; exact k
noncomputable def q_sameLines (L M : List Ln) : Prop × V := (L.length ≤ 1000000, (.bool (decide (L = M))))
noncomputable def sp_sameLines : FSpec Tryz.prog where
 f := 120
 run := fun
  | [v0, v1] => (asL LnT v0 : Option (List Ln)).bind fun L => (asL LnT v1 : Option (List Ln)).bind fun M => some (q_sameLines L M)
  | _ => none
 ok := fun args pre r h hp => by
  split at h
  · rename_i v0 v1
    obtain ⟨L, h0, h⟩ := Option.bind_eq_some_iff.1 h
    obtain ⟨M, h1, h⟩ := Option.bind_eq_some_iff.1 h
    exact of_q h hp fun h => (sameLines_pure L M h).weak (.cons (asL_weak h0) (.cons (asL_weak h1) .nil))
  · cases h
def entryF (n k : Int) (ls : List Int) (A : List En) (x : En) : Int :=
  if (Ent.checkF x.1 x.2.2 n k).2 = 0 then (if placedF ls x.2.2 = 0 then turnedF A x.2.1 x.2.2 else placedF ls x.2.2) else (Ent.checkF x.1 x.2.2 n k).2
theorem entry_1 {n k : Int} {ls : List Int} {A : List En} {x : En} (h : (Ent.checkF x.1 x.2.2 n k).2 ≠ 0) : entryF n k ls A x = (Ent.checkF x.1 x.2.2 n k).2 := by unfold entryF; rw [if_neg h]
theorem entry_2 {n k : Int} {ls : List Int} {A : List En} {x : En} (h : (Ent.checkF x.1 x.2.2 n k).2 = 0) (g : placedF ls x.2.2 ≠ 0) : entryF n k ls A x = placedF ls x.2.2 := by unfold entryF; rw [if_pos h, if_neg g]
theorem entry_3 {n k : Int} {ls : List Int} {A : List En} {x : En} (h : (Ent.checkF x.1 x.2.2 n k).2 = 0) (g : placedF ls x.2.2 = 0) : entryF n k ls A x = turnedF A x.2.1 x.2.2 := by unfold entryF; rw [if_pos h, if_pos g]
theorem placed_28 {ls : List Int} {L : List Ln} (h : L.any ownP = true) : placedF ls L = 28 := by unfold placedF; rw [if_pos h]
theorem placed_27 {ls : List Int} {L : List Ln} (h : L.any ownP = false) (g : L.any (innP ls) = true) : placedF ls L = 27 := by unfold placedF; rw [if_neg (by rw [h]; decide), if_pos g]
theorem placed_0 {ls : List Int} {L : List Ln} (h : L.any ownP = false) (g : L.any (innP ls) = false) : placedF ls L = 0 := by unfold placedF; rw [if_neg (by rw [h]; decide), if_neg (by rw [g]; decide)]
theorem any_hit {α : Type} {p : α → Bool} {l : List α} {i : Int} {x : α} (hx : l[i.toNat]? = some x) (h : p x = true) : (l.drop i.toNat).any p = true := by
  obtain ⟨h1, h2⟩ := List.getElem?_eq_some_iff.1 hx
  rw [List.drop_eq_getElem_cons h1, h2, List.any_cons, h, Bool.true_or]
theorem any_miss {α : Type} {p : α → Bool} {l : List α} {i : Int} {x : α} (h0 : 0 ≤ i) (hx : l[i.toNat]? = some x) (h : p x = false) : (l.drop i.toNat).any p = (l.drop (i + 1).toNat).any p := by
  obtain ⟨h1, h2⟩ := List.getElem?_eq_some_iff.1 hx
  rw [List.drop_eq_getElem_cons h1, h2, List.any_cons, h, Bool.false_or, show (i + 1).toNat = i.toNat + 1 by omega]
theorem any_end {α : Type} {p : α → Bool} {l : List α} {i : Int} (h : ¬ i < (l.length : Int)) : (l.drop i.toNat).any p = false := by
  rw [List.drop_of_length_le (by omega)]
  rfl
theorem th_any (p : Int → Bool) (a : Int) : ∀ (f : Nat) (i : Int), (Acc.thGo p f i).any (eqP a) = (decide (i ≤ a ∧ a < i + f) && p a)
  | 0, i => by
    rw [decide_eq_false (by omega)]
    rfl
  | f + 1, i => by
    rw [Acc.thGo]
    by_cases c : i = a
    · subst c
      rw [decide_eq_true (by omega), Bool.true_and]
      split
      · rename_i h; rw [List.any_cons, h, show eqP i i = true by simp [eqP], Bool.true_or]
      · rename_i h
        rw [th_any p i f (i + 1), decide_eq_false (by omega)]
        simpa using h
    · have e : (decide (i ≤ a ∧ a < i + ((f + 1 : Nat) : Int))) = decide (i + 1 ≤ a ∧ a < i + 1 + f) := decide_eq_decide.2 (by omega)
      rw [e]
      split
      · rw [List.any_cons, show eqP a i = false by unfold eqP; rw [decide_eq_false (fun h => c h.symm)], Bool.false_or, th_any p a f (i + 1)]
      · rw [th_any p a f (i + 1)]
theorem inn_leaf (A : List Acc.AcD) (x : Ln) : innP (Acc.thoseF (Acc.leafF A) A.length) x = !Acc.leafF A x.2.1 := by
  unfold innP Acc.thoseF
  rw [th_any]
  congr 1
  rw [show decide (1 ≤ x.2.1 ∧ x.2.1 < 1 + (A.length : Int)) = decide (Acc.isIn A x.2.1) from decide_eq_decide.2 (by unfold Acc.isIn; omega)]
  unfold Acc.leafF
  rw [← Bool.and_assoc, Bool.and_self]
def entGo (n k : Int) (ls : List Int) (N : List En) : Nat → Int → Option (Int × Int)
  | 0, _ => none
  | f + 1, i => match N[i.toNat]? with
    | none => none
    | some x => if entryF n k ls (N.take i.toNat) x = 0 then entGo n k ls N f (i + 1) else some (i, entryF n k ls (N.take i.toNat) x)
theorem ent_next {n k : Int} {ls : List Int} {N : List En} {f : Nat} {i : Int} {x : En} (hf : 0 < f) (hx : N[i.toNat]? = some x) : entGo n k ls N f i = if entryF n k ls (N.take i.toNat) x = 0 then entGo n k ls N (f - 1) (i + 1) else some (i, entryF n k ls (N.take i.toNat) x) := by
  obtain ⟨g, rfl⟩ : ∃ g, f = g + 1 := ⟨f - 1, by omega⟩
  rw [entGo, hx]
  rfl
def endE (o : Option (Int × Int)) (z : Int) : Int × Int := match o with
  | none => (z, 0)
  | some r => r
def allF (N : List En) (n k : Int) (ls : List Int) : Int × Int := if 2000 < (N.length : Int) then (0, 3) else endE (entGo n k ls N N.length 0) N.length
def entriesF (N : List En) (n k : Int) (ls : List Int) : Int × Int := if 2000 < (N.length : Int) then (0, 3) else endE (entGo n k ls N N.length 0) 0
def Sm (E : List Int) (A : List Acc.AcD) (S : List Ln) (R : List Rts.Rt) (K : List Lck.Lk) (N : List En) : Prop := E.length ≤ 1000000 ∧ A.length ≤ 1000000 ∧ S.length ≤ 1000000 ∧ R.length ≤ 1000000 ∧ K.length ≤ 1000000 ∧ N.length ≤ 1000000 ∧ InE N
noncomputable def env_all (E : List Int) (A : List Acc.AcD) (S : List Ln) (R : List Rts.Rt) (K : List Lck.Lk) (N : List En) : Env where
  P := Tryz.prog
  ty := tys0
  specs := specsOf [Acc.sp_leaves, Ent.sp_check, sp_placed, sp_turned]
  frz := fun | 17 => true | 53 => true | _ => false
  heads := fun | 5 => some { slots := [(21, .int .i64)], boxes := [], keep := [1], inv := fun _ (x : Int × Unit) => 0 ≤ x.1 ∧ x.1 ≤ N.length ∧ entGo E.length A.length (Acc.thoseF (Acc.leafF A) A.length) N N.length 0 = entGo E.length A.length (Acc.thoseF (Acc.leafF A) A.length) N (N.length - x.1.toNat) x.1, measure := fun _ (x : Int × Unit) => (N.length - x.1).toNat } | _ => none
abbrev bx_all_1 (E : List Int) (A : List Acc.AcD) (S : List Ln) (R : List Rts.Rt) (K : List Lck.Lk) (N : List En) : _root_.Go.Vm.Obj := Obj.box [V.list LK.tmp I E, V.list LK.tmp AcT A, V.list LK.tmp LnT S, V.list LK.tmp RTy R, V.list LK.tmp Vl K, V.list LK.tmp EnT N]
def g_all_vc (E : List Int) (A : List Acc.AcD) (S : List Ln) (R : List Rts.Rt) (K : List Lck.Lk) (N : List En) : Prop :=
  (decide ((2000 : Int) < (↑N.length : Int)) = true → ((0 : Int), (3 : Int), ()) = ((allF N (↑E.length : Int) (↑A.length : Int) (Acc.thoseF (Acc.leafF A) A.length)).1, (allF N (↑E.length : Int) (↑A.length : Int) (Acc.thoseF (Acc.leafF A) A.length)).2, ())) ∧ (decide ((2000 : Int) < (↑N.length : Int)) = false → A.length ≤ (1000000000 : Nat) ∧ ((some (bx_all_1 E A S R K N) = some (bx_all_1 E A S R K N) ∧ True) ∧ (0 : Int) ≤ (0 : Int) ∧ (0 : Int) ≤ (↑N.length : Int) ∧ entGo (↑E.length : Int) (↑A.length : Int) (Acc.thoseF (Acc.leafF A) A.length) N N.length (0 : Int) = entGo (↑E.length : Int) (↑A.length : Int) (Acc.thoseF (Acc.leafF A) A.length) N (N.length - Int.toNat (0 : Int)) (0 : Int)) ∧ ∀ (x : Int × Unit), (0 : Int) ≤ x.1 ∧ x.1 ≤ (↑N.length : Int) ∧ entGo (↑E.length : Int) (↑A.length : Int) (Acc.thoseF (Acc.leafF A) A.length) N N.length (0 : Int) = entGo (↑E.length : Int) (↑A.length : Int) (Acc.thoseF (Acc.leafF A) A.length) N (N.length - x.1.toNat) x.1 → (decide (x.1 < (↑N.length : Int)) = true → ((0 : Int) ≤ x.1 ∧ x.1 < (↑N.length : Int)) ∧ ∀ (x_1 : Int × Int × List (Int × Int × Int × Int)), N[x.1.toNat]? = some x_1 → (Ent.InL x_1.2.2 ∧ x_1.2.2.length ≤ (1000 : Nat)) ∧ ((!decide ((Ent.checkF x_1.1 x_1.2.2 (↑E.length : Int) (↑A.length : Int)).2 = (0 : Int))) = true → (x.1, (Ent.checkF x_1.1 x_1.2.2 (↑E.length : Int) (↑A.length : Int)).2, ()) = ((allF N (↑E.length : Int) (↑A.length : Int) (Acc.thoseF (Acc.leafF A) A.length)).1, (allF N (↑E.length : Int) (↑A.length : Int) (Acc.thoseF (Acc.leafF A) A.length)).2, ())) ∧ ((!decide ((Ent.checkF x_1.1 x_1.2.2 (↑E.length : Int) (↑A.length : Int)).2 = (0 : Int))) = false → (x_1.2.2.length ≤ (1000000000 : Nat) ∧ (Acc.thoseF (Acc.leafF A) A.length).length ≤ (1000000000 : Nat)) ∧ ((!decide (placedF (Acc.thoseF (Acc.leafF A) A.length) x_1.2.2 = (0 : Int))) = true → (x.1, placedF (Acc.thoseF (Acc.leafF A) A.length) x_1.2.2, ()) = ((allF N (↑E.length : Int) (↑A.length : Int) (Acc.thoseF (Acc.leafF A) A.length)).1, (allF N (↑E.length : Int) (↑A.length : Int) (Acc.thoseF (Acc.leafF A) A.length)).2, ())) ∧ ((!decide (placedF (Acc.thoseF (Acc.leafF A) A.length) x_1.2.2 = (0 : Int))) = false → ((0 : Int) ≤ x.1 ∧ x.1 ≤ (↑N.length : Int)) ∧ ((List.take x.1.toNat N).length ≤ (1000000000 : Nat) ∧ InE (List.take x.1.toNat N) ∧ x_1.2.2.length ≤ (1000000000 : Nat)) ∧ ((!decide (turnedF (List.take x.1.toNat N) x_1.2.1 x_1.2.2 = (0 : Int))) = true → (x.1, turnedF (List.take x.1.toNat N) x_1.2.1 x_1.2.2, ()) = ((allF N (↑E.length : Int) (↑A.length : Int) (Acc.thoseF (Acc.leafF A) A.length)).1, (allF N (↑E.length : Int) (↑A.length : Int) (Acc.thoseF (Acc.leafF A) A.length)).2, ())) ∧ ((!decide (turnedF (List.take x.1.toNat N) x_1.2.1 x_1.2.2 = (0 : Int))) = false → ((-9223372036854775808 : Int) ≤ x.1 + (1 : Int) ∧ x.1 + (1 : Int) ≤ (9223372036854775807 : Int)) ∧ (some (bx_all_1 E A S R K N) = some (bx_all_1 E A S R K N) ∧ True) ∧ ((0 : Int) ≤ x.1 + (1 : Int) ∧ x.1 + (1 : Int) ≤ (↑N.length : Int) ∧ entGo (↑E.length : Int) (↑A.length : Int) (Acc.thoseF (Acc.leafF A) A.length) N N.length (0 : Int) = entGo (↑E.length : Int) (↑A.length : Int) (Acc.thoseF (Acc.leafF A) A.length) N (N.length - (x.1 + (1 : Int)).toNat) (x.1 + (1 : Int))) ∧ ((↑N.length : Int) - (x.1 + (1 : Int))).toNat < ((↑N.length : Int) - x.1).toNat)))) ∧ (decide (x.1 < (↑N.length : Int)) = false → ((↑N.length : Int), (0 : Int), ()) = ((allF N (↑E.length : Int) (↑A.length : Int) (Acc.thoseF (Acc.leafF A) A.length)).1, (allF N (↑E.length : Int) (↑A.length : Int) (Acc.thoseF (Acc.leafF A) A.length)).2, ())))
theorem g_all_eq (E : List Int) (A : List Acc.AcD) (S : List Ln) (R : List Rts.Rt) (K : List Lck.Lk) (N : List En) : Cond (env_all E A S R K N) Tryz.f35 [.agg [.list .tmp I E, .list .tmp AcT A, .list .tmp LnT S, .list .tmp RTy R, .list .tmp Vl K, .list .tmp EnT N]] [.int .i64, .int .i64] ((allF N E.length A.length (Acc.thoseF (Acc.leafF A) A.length)).1, (allF N E.length A.length (Acc.thoseF (Acc.leafF A) A.length)).2, ()) = g_all_vc E A S R K N := by kernel_rfl
theorem g_all_ok (E : List Int) (A : List Acc.AcD) (S : List Ln) (R : List Rts.Rt) (K : List Lck.Lk) (N : List En) (h : Sm E A S R K N) : g_all_vc E A S R K N := by
  obtain ⟨l1, l2, l3, l4, l5, l6, hi⟩ := h
  unfold g_all_vc allF
  simp only [decide_eq_true_eq, decide_eq_false_iff_not, Bool.not_false, Bool.not_true, Bool.not_eq_true', Bool.not_eq_false']
  have hlen : (Acc.thoseF (Acc.leafF A) A.length).length ≤ 1000000000 := by
    have := Acc.th_len (Acc.leafF A) A.length 1
    unfold Acc.thoseF; omega
  generalize Acc.thoseF (Acc.leafF A) A.length = ls at *
  refine ⟨fun c => by rw [if_pos c], fun c => ?_⟩
  simp only [if_neg c]
  refine ⟨by omega, ⟨⟨trivial, trivial⟩, by omega, by omega, by rw [show N.length - Int.toNat 0 = N.length by omega]⟩, ?_⟩
  rintro ⟨i, ⟨⟩⟩ ⟨h0, h1, hb⟩
  dsimp only at h0 h1 hb ⊢
  refine ⟨fun d => ⟨⟨h0, d⟩, fun x hx => ?_⟩, fun d => ?_⟩
  · obtain ⟨x1, x2⟩ := ine_at hi hx
    refine ⟨⟨x1, x2⟩, fun k => ?_, fun k => ⟨⟨by omega, hlen⟩, fun m => ?_, fun m => ⟨by omega, ⟨by rw [List.length_take]; omega, ine_take hi, by omega⟩, fun o => ?_, fun o => ⟨by omega, ⟨trivial, trivial⟩, ⟨by omega, by omega, ?_⟩, by omega⟩⟩⟩⟩
    · rw [hb, ent_next (by omega) hx, entry_1 k, if_neg k]; rfl
    · rw [hb, ent_next (by omega) hx, entry_2 k m, if_neg m]; rfl
    · rw [hb, ent_next (by omega) hx, entry_3 k m, if_neg o]; rfl
    · rw [hb, ent_next (by omega) hx, entry_3 k m, if_pos o, show N.length - (i + 1).toNat = N.length - i.toNat - 1 by omega]
  · rw [hb, show N.length - i.toNat = 0 by omega]; rfl
theorem all_pure (E : List Int) (A : List Acc.AcD) (S : List Ln) (R : List Rts.Rt) (K : List Lck.Lk) (N : List En) (h : Sm E A S R K N) : Pure Tryz.prog 35 [.agg [.list .tmp I E, .list .tmp AcT A, .list .tmp LnT S, .list .tmp RTy R, .list .tmp Vl K, .list .tmp EnT N]] (.tuple [.int .i64 (allF N E.length A.length (Acc.thoseF (Acc.leafF A) A.length)).1, .int .i64 (allF N E.length A.length (Acc.thoseF (Acc.leafF A) A.length)).2]) :=
  by have k := Pure.of_cond (g_all_eq E A S R K N) (g_all_ok E A S R K N h) (specs_ok rfl [Acc.sp_leaves, Ent.sp_check, sp_placed, sp_turned] [] rfl rfl) mixed Tryz.func35; exact k
noncomputable def q_all (E : List Int) (A : List Acc.AcD) (S : List Ln) (R : List Rts.Rt) (K : List Lck.Lk) (N : List En) : Prop × V := (Sm E A S R K N, (.tuple [.int .i64 (allF N E.length A.length (Acc.thoseF (Acc.leafF A) A.length)).1, .int .i64 (allF N E.length A.length (Acc.thoseF (Acc.leafF A) A.length)).2]))
noncomputable def sp_all : FSpec Tryz.prog where
 f := 35
 run := fun
  | [.agg [v0_0, v0_1, v0_2, v0_3, v0_4, v0_5]] => (asL I v0_0 : Option (List Int)).bind fun E => (asL AcT v0_1 : Option (List Acc.AcD)).bind fun A => (asL LnT v0_2 : Option (List Ln)).bind fun S => (asL RTy v0_3 : Option (List Rts.Rt)).bind fun R => (asL Vl v0_4 : Option (List Lck.Lk)).bind fun K => (asL EnT v0_5 : Option (List En)).bind fun N => some (q_all E A S R K N)
  | _ => none
 ok := fun args pre r h hp => by
  split at h
  · rename_i v0_0 v0_1 v0_2 v0_3 v0_4 v0_5
    obtain ⟨E, h0_0, h⟩ := Option.bind_eq_some_iff.1 h
    obtain ⟨A, h0_1, h⟩ := Option.bind_eq_some_iff.1 h
    obtain ⟨S, h0_2, h⟩ := Option.bind_eq_some_iff.1 h
    obtain ⟨R, h0_3, h⟩ := Option.bind_eq_some_iff.1 h
    obtain ⟨K, h0_4, h⟩ := Option.bind_eq_some_iff.1 h
    obtain ⟨N, h0_5, h⟩ := Option.bind_eq_some_iff.1 h
    exact of_q h hp fun h => (all_pure E A S R K N h).weak (.cons (Weak.agg (.cons (asL_weak h0_0) (.cons (asL_weak h0_1) (.cons (asL_weak h0_2) (.cons (asL_weak h0_3) (.cons (asL_weak h0_4) (.cons (asL_weak h0_5) .nil))))))) .nil)
  · cases h
noncomputable def env_entry (E : List Int) (A : List Acc.AcD) (S : List Ln) (R : List Rts.Rt) (K : List Lck.Lk) (N : List En) (B : List En) (p r : Int) (L : List Ln) : Env where
  P := Tryz.prog
  ty := tys0
  specs := specsOf [Ent.sp_refCheck, Acc.sp_rleaf, sp_rrev, Ent.sp_refOpp, sp_sameLines]
  frz := fun | 56 => true | _ => false
  heads := fun | 5 => some { slots := [(9, .int .i64)], boxes := [], keep := [3, 5], inv := fun _ (x : Int × Unit) => 0 ≤ x.1 ∧ x.1 ≤ L.length ∧ L.any ownP = (L.drop x.1.toNat).any ownP, measure := fun _ (x : Int × Unit) => (L.length - x.1).toNat } | 10 => some { slots := [(10, .int .i64)], boxes := [], keep := [3, 5], inv := fun _ (x : Int × Unit) => 0 ≤ x.1 ∧ x.1 ≤ L.length ∧ L.any (innP (Acc.thoseF (Acc.leafF A) A.length)) = (L.drop x.1.toNat).any (innP (Acc.thoseF (Acc.leafF A) A.length)), measure := fun _ (x : Int × Unit) => (L.length - x.1).toNat } | _ => none
abbrev bx_entry_1 (E : List Int) (A : List Acc.AcD) (S : List Ln) (R : List Rts.Rt) (K : List Lck.Lk) (N : List En) : _root_.Go.Vm.Obj := Obj.box [V.list LK.tmp I E, V.list LK.tmp AcT A, V.list LK.tmp LnT S, V.list LK.tmp RTy R, V.list LK.tmp Vl K, V.list LK.tmp EnT N]
abbrev bx_entry_2 (p : Int) (r : Int) (L : List Ln) : _root_.Go.Vm.Obj := Obj.box [V.int IntKind.i64 p, V.int IntKind.i64 r, V.list LK.tmp LnT L]
def g_entry_vc (E : List Int) (A : List Acc.AcD) (S : List Ln) (R : List Rts.Rt) (K : List Lck.Lk) (N : List En) (B : List En) (p : Int) (r : Int) (L : List Ln) : Prop :=
  (Ent.InL L ∧ L.length ≤ (1000 : Nat)) ∧ ((!decide ((Ent.checkF p L (↑E.length : Int) (↑A.length : Int)).2 = (0 : Int))) = true → ((Ent.checkF p L (↑E.length : Int) (↑A.length : Int)).2, ()) = (entryF (↑E.length : Int) (↑A.length : Int) (Acc.thoseF (Acc.leafF A) A.length) B (p, r, L), ())) ∧ ((!decide ((Ent.checkF p L (↑E.length : Int) (↑A.length : Int)).2 = (0 : Int))) = false → ((some (bx_entry_1 E A S R K N) = some (bx_entry_1 E A S R K N) ∧ some (bx_entry_2 p r L) = some (bx_entry_2 p r L) ∧ True) ∧ (0 : Int) ≤ (0 : Int) ∧ (0 : Int) ≤ (↑L.length : Int) ∧ L.any ownP = (List.drop (Int.toNat (0 : Int)) L).any ownP) ∧ ∀ (x : Int × Unit), (0 : Int) ≤ x.1 ∧ x.1 ≤ (↑L.length : Int) ∧ L.any ownP = (List.drop x.1.toNat L).any ownP → (decide (x.1 < (↑L.length : Int)) = true → ((0 : Int) ≤ x.1 ∧ x.1 < (↑L.length : Int)) ∧ ∀ (x_1 : Int × Int × Int × Int), L[x.1.toNat]? = some x_1 → (decide (x_1.2.1 ≤ (3 : Int)) = true → ((28 : Int), ()) = (entryF (↑E.length : Int) (↑A.length : Int) (Acc.thoseF (Acc.leafF A) A.length) B (p, r, L), ())) ∧ (decide (x_1.2.1 ≤ (3 : Int)) = false → ((-9223372036854775808 : Int) ≤ x.1 + (1 : Int) ∧ x.1 + (1 : Int) ≤ (9223372036854775807 : Int)) ∧ (some (bx_entry_1 E A S R K N) = some (bx_entry_1 E A S R K N) ∧ some (bx_entry_2 p r L) = some (bx_entry_2 p r L) ∧ True) ∧ ((0 : Int) ≤ x.1 + (1 : Int) ∧ x.1 + (1 : Int) ≤ (↑L.length : Int) ∧ L.any ownP = (List.drop (x.1 + (1 : Int)).toNat L).any ownP) ∧ ((↑L.length : Int) - (x.1 + (1 : Int))).toNat < ((↑L.length : Int) - x.1).toNat)) ∧ (decide (x.1 < (↑L.length : Int)) = false → ((some (bx_entry_1 E A S R K N) = some (bx_entry_1 E A S R K N) ∧ some (bx_entry_2 p r L) = some (bx_entry_2 p r L) ∧ True) ∧ (0 : Int) ≤ (0 : Int) ∧ (0 : Int) ≤ (↑L.length : Int) ∧ L.any (innP (Acc.thoseF (Acc.leafF A) A.length)) = (List.drop (Int.toNat (0 : Int)) L).any (innP (Acc.thoseF (Acc.leafF A) A.length))) ∧ ∀ (x : Int × Unit), (0 : Int) ≤ x.1 ∧ x.1 ≤ (↑L.length : Int) ∧ L.any (innP (Acc.thoseF (Acc.leafF A) A.length)) = (List.drop x.1.toNat L).any (innP (Acc.thoseF (Acc.leafF A) A.length)) → (decide (x.1 < (↑L.length : Int)) = true → ((0 : Int) ≤ x.1 ∧ x.1 < (↑L.length : Int)) ∧ ∀ (x_1 : Int × Int × Int × Int), L[x.1.toNat]? = some x_1 → A.length ≤ (1000000 : Nat) ∧ ((!Acc.leafF A x_1.2.1) = true → ((27 : Int), ()) = (entryF (↑E.length : Int) (↑A.length : Int) (Acc.thoseF (Acc.leafF A) A.length) B (p, r, L), ())) ∧ ((!Acc.leafF A x_1.2.1) = false → ((-9223372036854775808 : Int) ≤ x.1 + (1 : Int) ∧ x.1 + (1 : Int) ≤ (9223372036854775807 : Int)) ∧ (some (bx_entry_1 E A S R K N) = some (bx_entry_1 E A S R K N) ∧ some (bx_entry_2 p r L) = some (bx_entry_2 p r L) ∧ True) ∧ ((0 : Int) ≤ x.1 + (1 : Int) ∧ x.1 + (1 : Int) ≤ (↑L.length : Int) ∧ L.any (innP (Acc.thoseF (Acc.leafF A) A.length)) = (List.drop (x.1 + (1 : Int)).toNat L).any (innP (Acc.thoseF (Acc.leafF A) A.length))) ∧ ((↑L.length : Int) - (x.1 + (1 : Int))).toNat < ((↑L.length : Int) - x.1).toNat)) ∧ (decide (x.1 < (↑L.length : Int)) = false → (decide (r = (0 : Int)) = true → ((0 : Int), ()) = (entryF (↑E.length : Int) (↑A.length : Int) (Acc.thoseF (Acc.leafF A) A.length) B (p, r, L), ())) ∧ (decide (r = (0 : Int)) = false → (decide (r < (0 : Int)) = false → (decide ((↑B.length : Int) < r) = true → ((34 : Int), ()) = (entryF (↑E.length : Int) (↑A.length : Int) (Acc.thoseF (Acc.leafF A) A.length) B (p, r, L), ())) ∧ (decide ((↑B.length : Int) < r) = false → ((-9223372036854775808 : Int) ≤ r - (1 : Int) ∧ r - (1 : Int) ≤ (9223372036854775807 : Int)) ∧ ((0 : Int) ≤ r - (1 : Int) ∧ r - (1 : Int) < (↑B.length : Int)) ∧ ∀ (x : Int × Int × List (Int × Int × Int × Int)), B[(r - (1 : Int)).toNat]? = some x → ((!decide (x.2.1 = (0 : Int))) = false → B.length ≤ (1000000000 : Nat) ∧ ((!decide (revF B r = (0 : Int))) = true → ((35 : Int), ()) = (entryF (↑E.length : Int) (↑A.length : Int) (Acc.thoseF (Acc.leafF A) A.length) B (p, r, L), ())) ∧ ((!decide (revF B r = (0 : Int))) = false → ((-9223372036854775808 : Int) ≤ r - (1 : Int) ∧ r - (1 : Int) ≤ (9223372036854775807 : Int)) ∧ ((0 : Int) ≤ r - (1 : Int) ∧ r - (1 : Int) < (↑B.length : Int)) ∧ ∀ (x : Int × Int × List (Int × Int × Int × Int)), B[(r - (1 : Int)).toNat]? = some x → (Ent.InL x.2.2 ∧ x.2.2.length ≤ (1000 : Nat)) ∧ ((!decide ((Ent.oppF x.1 x.2.1 x.2.2).2 = (0 : Int))) = false → L.length ≤ (1000000 : Nat) ∧ ((!decide (L = (Ent.oppF x.1 x.2.1 x.2.2).1.2.2)) = true → ((30 : Int), ()) = (entryF (↑E.length : Int) (↑A.length : Int) (Acc.thoseF (Acc.leafF A) A.length) B (p, r, L), ())) ∧ ((!decide (L = (Ent.oppF x.1 x.2.1 x.2.2).1.2.2)) = false → ((0 : Int), ()) = (entryF (↑E.length : Int) (↑A.length : Int) (Acc.thoseF (Acc.leafF A) A.length) B (p, r, L), ()))) ∧ ((!decide ((Ent.oppF x.1 x.2.1 x.2.2).2 = (0 : Int))) = !false → ((30 : Int), ()) = (entryF (↑E.length : Int) (↑A.length : Int) (Acc.thoseF (Acc.leafF A) A.length) B (p, r, L), ())))) ∧ ((!decide (x.2.1 = (0 : Int))) = !false → ((35 : Int), ()) = (entryF (↑E.length : Int) (↑A.length : Int) (Acc.thoseF (Acc.leafF A) A.length) B (p, r, L), ())))) ∧ (decide (r < (0 : Int)) = !false → ((34 : Int), ()) = (entryF (↑E.length : Int) (↑A.length : Int) (Acc.thoseF (Acc.leafF A) A.length) B (p, r, L), ()))))))
theorem g_entry_eq (E : List Int) (A : List Acc.AcD) (S : List Ln) (R : List Rts.Rt) (K : List Lck.Lk) (N : List En) (B : List En) (p r : Int) (L : List Ln) : Cond (env_entry E A S R K N B p r L) Tryz.f92 [.agg [.list .tmp I E, .list .tmp AcT A, .list .tmp LnT S, .list .tmp RTy R, .list .tmp Vl K, .list .tmp EnT N], .list .tmp EnT B, .agg [.int .i64 p, .int .i64 r, .list .tmp LnT L]] [.int .i64] (entryF E.length A.length (Acc.thoseF (Acc.leafF A) A.length) B (p, r, L), ()) = g_entry_vc E A S R K N B p r L := by kernel_rfl
theorem g_entry_ok (E : List Int) (A : List Acc.AcD) (S : List Ln) (R : List Rts.Rt) (K : List Lck.Lk) (N : List En) (B : List En) (p r : Int) (L : List Ln) (h : Sm E A S R K N ∧ B.length ≤ 1000000 ∧ InE B ∧ Ent.InL L ∧ L.length ≤ 1000) : g_entry_vc E A S R K N B p r L := by
  obtain ⟨⟨l1, l2, l3, l4, l5, l6, hi⟩, hb, hib, hil, hl⟩ := h
  unfold g_entry_vc
  simp only [decide_eq_true_eq, decide_eq_false_iff_not, Bool.not_false, Bool.not_true, Bool.not_eq_true', Bool.not_eq_false']
  refine ⟨⟨hil, hl⟩, fun c => by rw [entry_1 c], fun c => ⟨⟨⟨trivial, trivial, trivial⟩, by omega, by omega, rfl⟩, ?_⟩⟩
  rintro ⟨i, ⟨⟩⟩ ⟨h0, h1, ho⟩
  dsimp only at h0 h1 ho ⊢
  refine ⟨fun d => ⟨⟨h0, d⟩, fun x hx => ⟨fun k => ?_, fun k => ⟨by omega, ⟨trivial, trivial, trivial⟩, ⟨by omega, by omega, ?_⟩, by omega⟩⟩⟩, fun d => ⟨⟨⟨trivial, trivial, trivial⟩, by omega, by omega, rfl⟩, ?_⟩⟩
  · have := placed_28 (ls := Acc.thoseF (Acc.leafF A) A.length) (ho.trans (any_hit hx (by unfold ownP; rw [decide_eq_true k])))
    rw [entry_2 c (by rw [this]; decide), this]
  · rw [ho, any_miss h0 hx (by unfold ownP; rw [decide_eq_false k])]
  replace ho := ho.trans (any_end d)
  clear h0 h1 d
  rintro ⟨j, ⟨⟩⟩ ⟨h0, h1, hn⟩
  dsimp only at h0 h1 hn ⊢
  refine ⟨fun d => ⟨⟨h0, d⟩, fun x hx => ⟨l2, fun k => ?_, fun k => ⟨by omega, ⟨trivial, trivial, trivial⟩, ⟨by omega, by omega, ?_⟩, by omega⟩⟩⟩, fun d => ?_⟩
  · have := placed_27 ho (hn.trans (any_hit hx (by rw [inn_leaf, k]; rfl)))
    rw [entry_2 c (by rw [this]; decide), this]
  · rw [hn, any_miss h0 hx (by rw [inn_leaf, k]; rfl)]
  have hp := placed_0 ho (hn.trans (any_end d))
  rw [entry_3 c hp]
  dsimp only
  clear d h0 h1
  refine ⟨fun c => ?_, fun c => ⟨fun d => ⟨fun e => ?_, fun e => ⟨by omega, by omega, fun x hx => ⟨fun f => ⟨by omega, fun g => ?_, fun g => ⟨by omega, by omega, fun y hy => ⟨ine_at hib hy, fun k => ⟨by omega, fun m => ?_, fun m => ?_⟩, fun k => ?_⟩⟩⟩, fun f => ?_⟩⟩⟩, fun d => ?_⟩⟩
  · unfold turnedF; rw [if_pos c]
  · unfold turnedF; rw [if_neg c, if_pos (.inr e)]
  · rw [turned_at c (by omega) hx, turnY, if_pos (.inr g)]
  · rw [hx] at hy; cases hy
    rw [turned_at c (by omega) hx, turnY, if_neg (fun q => q.elim (fun q => q f) (fun q => q g)), if_pos (.inr m)]
  · rw [hx] at hy; cases hy
    rw [turned_at c (by omega) hx, turnY, if_neg (fun q => q.elim (fun q => q f) (fun q => q g)), if_neg (fun q => q.elim (fun q => q k) (fun q => q m))]
  · rw [hx] at hy; cases hy
    rw [turned_at c (by omega) hx, turnY, if_neg (fun q => q.elim (fun q => q f) (fun q => q g)), if_pos (.inl k)]
  · rw [turned_at c (by omega) hx, turnY, if_pos (.inl f)]
  · unfold turnedF; rw [if_neg c, if_pos (.inl d)]
theorem entry_pure (E : List Int) (A : List Acc.AcD) (S : List Ln) (R : List Rts.Rt) (K : List Lck.Lk) (N : List En) (B : List En) (p r : Int) (L : List Ln) (h : Sm E A S R K N ∧ B.length ≤ 1000000 ∧ InE B ∧ Ent.InL L ∧ L.length ≤ 1000) : Pure Tryz.prog 92 [.agg [.list .tmp I E, .list .tmp AcT A, .list .tmp LnT S, .list .tmp RTy R, .list .tmp Vl K, .list .tmp EnT N], .list .tmp EnT B, .agg [.int .i64 p, .int .i64 r, .list .tmp LnT L]] (.int .i64 (entryF E.length A.length (Acc.thoseF (Acc.leafF A) A.length) B (p, r, L))) :=
  by have k := Pure.of_cond (g_entry_eq E A S R K N B p r L) (g_entry_ok E A S R K N B p r L h) (specs_ok rfl [Ent.sp_refCheck, Acc.sp_rleaf, sp_rrev, Ent.sp_refOpp, sp_sameLines] [] rfl rfl) mixed Tryz.func92; exact k
noncomputable def q_entry (E : List Int) (A : List Acc.AcD) (S : List Ln) (R : List Rts.Rt) (K : List Lck.Lk) (N : List En) (B : List En) (p r : Int) (L : List Ln) : Prop × V := (Sm E A S R K N ∧ B.length ≤ 1000000 ∧ InE B ∧ Ent.InL L ∧ L.length ≤ 1000, (.int .i64 (entryF E.length A.length (Acc.thoseF (Acc.leafF A) A.length) B (p, r, L))))
noncomputable def sp_entry : FSpec Tryz.prog where
 f := 92
 run := fun
  | [.agg [v0_0, v0_1, v0_2, v0_3, v0_4, v0_5], v1, .agg [.int .i64 p, .int .i64 r, v2_2]] => (asL I v0_0 : Option (List Int)).bind fun E => (asL AcT v0_1 : Option (List Acc.AcD)).bind fun A => (asL LnT v0_2 : Option (List Ln)).bind fun S => (asL RTy v0_3 : Option (List Rts.Rt)).bind fun R => (asL Vl v0_4 : Option (List Lck.Lk)).bind fun K => (asL EnT v0_5 : Option (List En)).bind fun N => (asL EnT v1 : Option (List En)).bind fun B => (asL LnT v2_2 : Option (List Ln)).bind fun L => some (q_entry E A S R K N B p r L)
  | _ => none
 ok := fun args pre r h hp => by
  split at h
  · rename_i v0_0 v0_1 v0_2 v0_3 v0_4 v0_5 v1 p r v2_2
    obtain ⟨E, h0_0, h⟩ := Option.bind_eq_some_iff.1 h
    obtain ⟨A, h0_1, h⟩ := Option.bind_eq_some_iff.1 h
    obtain ⟨S, h0_2, h⟩ := Option.bind_eq_some_iff.1 h
    obtain ⟨R, h0_3, h⟩ := Option.bind_eq_some_iff.1 h
    obtain ⟨K, h0_4, h⟩ := Option.bind_eq_some_iff.1 h
    obtain ⟨N, h0_5, h⟩ := Option.bind_eq_some_iff.1 h
    obtain ⟨B, h1, h⟩ := Option.bind_eq_some_iff.1 h
    obtain ⟨L, h2_2, h⟩ := Option.bind_eq_some_iff.1 h
    exact of_q h hp fun h => (entry_pure E A S R K N B p r L h).weak (.cons (Weak.agg (.cons (asL_weak h0_0) (.cons (asL_weak h0_1) (.cons (asL_weak h0_2) (.cons (asL_weak h0_3) (.cons (asL_weak h0_4) (.cons (asL_weak h0_5) .nil))))))) (.cons (asL_weak h1) (.cons (Weak.agg (.cons (.refl _) (.cons (.refl _) (.cons (asL_weak h2_2) .nil)))) .nil)))
  · cases h
noncomputable def env_entries (E : List Int) (A : List Acc.AcD) (S : List Ln) (R : List Rts.Rt) (K : List Lck.Lk) (N : List En) : Env where
  P := Tryz.prog
  ty := tys0
  specs := specsOf [sp_entry]
  frz := fun | 27 => true | _ => false
  heads := fun | 4 => some { slots := [(4, .int .i64)], boxes := [], keep := [1], inv := fun _ (x : Int × Unit) => 0 ≤ x.1 ∧ x.1 ≤ N.length ∧ entGo E.length A.length (Acc.thoseF (Acc.leafF A) A.length) N N.length 0 = entGo E.length A.length (Acc.thoseF (Acc.leafF A) A.length) N (N.length - x.1.toNat) x.1, measure := fun _ (x : Int × Unit) => (N.length - x.1).toNat } | _ => none
abbrev bx_entries_1 (E : List Int) (A : List Acc.AcD) (S : List Ln) (R : List Rts.Rt) (K : List Lck.Lk) (N : List En) : _root_.Go.Vm.Obj := Obj.box [V.list LK.tmp I E, V.list LK.tmp AcT A, V.list LK.tmp LnT S, V.list LK.tmp RTy R, V.list LK.tmp Vl K, V.list LK.tmp EnT N]
def g_entries_vc (E : List Int) (A : List Acc.AcD) (S : List Ln) (R : List Rts.Rt) (K : List Lck.Lk) (N : List En) : Prop :=
  (decide ((2000 : Int) < (↑N.length : Int)) = true → ((0 : Int), (3 : Int), ()) = ((entriesF N (↑E.length : Int) (↑A.length : Int) (Acc.thoseF (Acc.leafF A) A.length)).1, (entriesF N (↑E.length : Int) (↑A.length : Int) (Acc.thoseF (Acc.leafF A) A.length)).2, ())) ∧ (decide ((2000 : Int) < (↑N.length : Int)) = false → ((some (bx_entries_1 E A S R K N) = some (bx_entries_1 E A S R K N) ∧ True) ∧ (0 : Int) ≤ (0 : Int) ∧ (0 : Int) ≤ (↑N.length : Int) ∧ entGo (↑E.length : Int) (↑A.length : Int) (Acc.thoseF (Acc.leafF A) A.length) N N.length (0 : Int) = entGo (↑E.length : Int) (↑A.length : Int) (Acc.thoseF (Acc.leafF A) A.length) N (N.length - Int.toNat (0 : Int)) (0 : Int)) ∧ ∀ (x : Int × Unit), (0 : Int) ≤ x.1 ∧ x.1 ≤ (↑N.length : Int) ∧ entGo (↑E.length : Int) (↑A.length : Int) (Acc.thoseF (Acc.leafF A) A.length) N N.length (0 : Int) = entGo (↑E.length : Int) (↑A.length : Int) (Acc.thoseF (Acc.leafF A) A.length) N (N.length - x.1.toNat) x.1 → (decide (x.1 < (↑N.length : Int)) = true → ((0 : Int) ≤ x.1 ∧ x.1 ≤ (↑N.length : Int)) ∧ ((0 : Int) ≤ x.1 ∧ x.1 < (↑N.length : Int)) ∧ ∀ (x_1 : Int × Int × List (Int × Int × Int × Int)), N[x.1.toNat]? = some x_1 → (Sm E A S R K N ∧ (List.take x.1.toNat N).length ≤ (1000000 : Nat) ∧ InE (List.take x.1.toNat N) ∧ Ent.InL x_1.2.2 ∧ x_1.2.2.length ≤ (1000 : Nat)) ∧ ((!decide (entryF (↑E.length : Int) (↑A.length : Int) (Acc.thoseF (Acc.leafF A) A.length) (List.take x.1.toNat N) (x_1.1, x_1.2.1, x_1.2.2) = (0 : Int))) = true → (x.1, entryF (↑E.length : Int) (↑A.length : Int) (Acc.thoseF (Acc.leafF A) A.length) (List.take x.1.toNat N) (x_1.1, x_1.2.1, x_1.2.2), ()) = ((entriesF N (↑E.length : Int) (↑A.length : Int) (Acc.thoseF (Acc.leafF A) A.length)).1, (entriesF N (↑E.length : Int) (↑A.length : Int) (Acc.thoseF (Acc.leafF A) A.length)).2, ())) ∧ ((!decide (entryF (↑E.length : Int) (↑A.length : Int) (Acc.thoseF (Acc.leafF A) A.length) (List.take x.1.toNat N) (x_1.1, x_1.2.1, x_1.2.2) = (0 : Int))) = false → ((-9223372036854775808 : Int) ≤ x.1 + (1 : Int) ∧ x.1 + (1 : Int) ≤ (9223372036854775807 : Int)) ∧ (some (bx_entries_1 E A S R K N) = some (bx_entries_1 E A S R K N) ∧ True) ∧ ((0 : Int) ≤ x.1 + (1 : Int) ∧ x.1 + (1 : Int) ≤ (↑N.length : Int) ∧ entGo (↑E.length : Int) (↑A.length : Int) (Acc.thoseF (Acc.leafF A) A.length) N N.length (0 : Int) = entGo (↑E.length : Int) (↑A.length : Int) (Acc.thoseF (Acc.leafF A) A.length) N (N.length - (x.1 + (1 : Int)).toNat) (x.1 + (1 : Int))) ∧ ((↑N.length : Int) - (x.1 + (1 : Int))).toNat < ((↑N.length : Int) - x.1).toNat)) ∧ (decide (x.1 < (↑N.length : Int)) = false → ((0 : Int), (0 : Int), ()) = ((entriesF N (↑E.length : Int) (↑A.length : Int) (Acc.thoseF (Acc.leafF A) A.length)).1, (entriesF N (↑E.length : Int) (↑A.length : Int) (Acc.thoseF (Acc.leafF A) A.length)).2, ())))
theorem g_entries_eq (E : List Int) (A : List Acc.AcD) (S : List Ln) (R : List Rts.Rt) (K : List Lck.Lk) (N : List En) : Cond (env_entries E A S R K N) Tryz.f41 [.agg [.list .tmp I E, .list .tmp AcT A, .list .tmp LnT S, .list .tmp RTy R, .list .tmp Vl K, .list .tmp EnT N]] [.int .i64, .int .i64] ((entriesF N E.length A.length (Acc.thoseF (Acc.leafF A) A.length)).1, (entriesF N E.length A.length (Acc.thoseF (Acc.leafF A) A.length)).2, ()) = g_entries_vc E A S R K N := by kernel_rfl
theorem g_entries_ok (E : List Int) (A : List Acc.AcD) (S : List Ln) (R : List Rts.Rt) (K : List Lck.Lk) (N : List En) (h : Sm E A S R K N) : g_entries_vc E A S R K N := by
  have hs := h
  obtain ⟨l1, l2, l3, l4, l5, l6, hi⟩ := h
  unfold g_entries_vc entriesF
  simp only [decide_eq_true_eq, decide_eq_false_iff_not, Bool.not_false, Bool.not_true, Bool.not_eq_true', Bool.not_eq_false']
  generalize Acc.thoseF (Acc.leafF A) A.length = ls at *
  refine ⟨fun c => by rw [if_pos c], fun c => ?_⟩
  simp only [if_neg c]
  refine ⟨⟨⟨trivial, trivial⟩, by omega, by omega, by rw [show N.length - Int.toNat 0 = N.length by omega]⟩, ?_⟩
  rintro ⟨i, ⟨⟩⟩ ⟨h0, h1, hb⟩
  dsimp only at h0 h1 hb ⊢
  refine ⟨fun d => ⟨by omega, ⟨h0, d⟩, fun x hx => ?_⟩, fun d => ?_⟩
  · obtain ⟨x1, x2⟩ := ine_at hi hx
    refine ⟨⟨hs, by rw [List.length_take]; omega, ine_take hi, x1, x2⟩, fun k => ?_, fun k => ⟨by omega, ⟨trivial, trivial⟩, ⟨by omega, by omega, ?_⟩, by omega⟩⟩
    · rw [hb, ent_next (by omega) hx, if_neg k]; rfl
    · rw [hb, ent_next (by omega) hx, if_pos k, show N.length - (i + 1).toNat = N.length - i.toNat - 1 by omega]
  · rw [hb, show N.length - i.toNat = 0 by omega]; rfl
theorem entries_pure (E : List Int) (A : List Acc.AcD) (S : List Ln) (R : List Rts.Rt) (K : List Lck.Lk) (N : List En) (h : Sm E A S R K N) : Pure Tryz.prog 41 [.agg [.list .tmp I E, .list .tmp AcT A, .list .tmp LnT S, .list .tmp RTy R, .list .tmp Vl K, .list .tmp EnT N]] (.tuple [.int .i64 (entriesF N E.length A.length (Acc.thoseF (Acc.leafF A) A.length)).1, .int .i64 (entriesF N E.length A.length (Acc.thoseF (Acc.leafF A) A.length)).2]) :=
  by have k := Pure.of_cond (g_entries_eq E A S R K N) (g_entries_ok E A S R K N h) (specs_ok rfl [sp_entry] [] rfl rfl) mixed Tryz.func41; exact k
noncomputable def q_entries (E : List Int) (A : List Acc.AcD) (S : List Ln) (R : List Rts.Rt) (K : List Lck.Lk) (N : List En) : Prop × V := (Sm E A S R K N, (.tuple [.int .i64 (entriesF N E.length A.length (Acc.thoseF (Acc.leafF A) A.length)).1, .int .i64 (entriesF N E.length A.length (Acc.thoseF (Acc.leafF A) A.length)).2]))
noncomputable def sp_entries : FSpec Tryz.prog where
 f := 41
 run := fun
  | [.agg [v0_0, v0_1, v0_2, v0_3, v0_4, v0_5]] => (asL I v0_0 : Option (List Int)).bind fun E => (asL AcT v0_1 : Option (List Acc.AcD)).bind fun A => (asL LnT v0_2 : Option (List Ln)).bind fun S => (asL RTy v0_3 : Option (List Rts.Rt)).bind fun R => (asL Vl v0_4 : Option (List Lck.Lk)).bind fun K => (asL EnT v0_5 : Option (List En)).bind fun N => some (q_entries E A S R K N)
  | _ => none
 ok := fun args pre r h hp => by
  split at h
  · rename_i v0_0 v0_1 v0_2 v0_3 v0_4 v0_5
    obtain ⟨E, h0_0, h⟩ := Option.bind_eq_some_iff.1 h
    obtain ⟨A, h0_1, h⟩ := Option.bind_eq_some_iff.1 h
    obtain ⟨S, h0_2, h⟩ := Option.bind_eq_some_iff.1 h
    obtain ⟨R, h0_3, h⟩ := Option.bind_eq_some_iff.1 h
    obtain ⟨K, h0_4, h⟩ := Option.bind_eq_some_iff.1 h
    obtain ⟨N, h0_5, h⟩ := Option.bind_eq_some_iff.1 h
    exact of_q h hp fun h => (entries_pure E A S R K N h).weak (.cons (Weak.agg (.cons (asL_weak h0_0) (.cons (asL_weak h0_1) (.cons (asL_weak h0_2) (.cons (asL_weak h0_3) (.cons (asL_weak h0_4) (.cons (asL_weak h0_5) .nil))))))) .nil)
  · cases h
end Go.Proofs.YtgjpehgnagfghaaGreat.Bks
