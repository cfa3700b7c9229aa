/-
  ref12.Set and others.
-/
import Derived.Test.YtojflfogjkajaaaGf1
namespace Go.Proofs.Ytojflfogjkajaaa.Gr
open Go.Vm

def RSm (R : GI) (l : List Int) : Prop := l.length ≤ 1000000000 ∧ R.length ≤ 1000000000 ∧ ∀ x ∈ R, x.length ≤ 1000000000
def setG (R : GI) (v : Int) (l : List Int) : GI := if mayG R v l = 0 then R.set v.toNat l else R
def addG (R : GI) (v : Int) (l : List Int) : Int := if mayG R v l = 0 then newsF l (R.getD v.toNat []) else 0
def dropG (R : GI) (v : Int) (l : List Int) : Int := if mayG R v l = 0 then newsF (R.getD v.toNat []) l else 0
theorem mayG_ok {R : GI} {v : Int} {l : List Int} (h : mayG R v l = 0) : (0 ≤ v ∧ v < R.length) ∧ (∀ x ∈ l, 0 ≤ x ∧ x < R.length ∧ x ≠ v) ∧ l.Nodup := by
  have hR : 0 < R.length := by
    by_cases h0 : 0 < R.length
    · exact h0
    · rw [mg_two (.inl (by simp [nodeP]; omega))] at h
      cases h
  rw [← may_eq hR] at h
  exact (may_ok h).2
theorem reads_le {R : GI} {v : Int} (h : ∀ x ∈ R, x.length ≤ 1000000000) : (readsF R v).length ≤ 1000000000 := by
  unfold readsF
  split
  · rename_i hv
    rw [List.getD_eq_getElem?_getD, List.getElem?_eq_getElem (show v.toNat < R.length by omega)]
    exact h _ (List.getElem_mem _)
  · simp
theorem edges_take_le {R : GI} {i : Nat} (h : ∀ x ∈ R, x.length ≤ 1000000000) : 0 ≤ edgesF (R.take i) ∧ edgesF (R.take i) ≤ i * 1000000000 := by
  induction R generalizing i with
  | nil => simp [edgesF]; omega
  | cons a R ih =>
    cases i with
    | zero => simp [edgesF]
    | succ i =>
      have h1 := ih (i := i) fun x hx => h x (List.mem_cons_of_mem _ hx)
      have h2 := h a List.mem_cons_self
      simp only [edgesF, List.take_succ_cons, List.map_cons, List.sum_cons] at h1 ⊢
      omega
noncomputable def env_rset (R : GI) (v : Int) (l : List Int) : Env where
  P := Try.prog
  ty := tys0
  specs := specsOf [sp_rmay, sp_miss]
  frz := fun | 28 => true | _ => false
abbrev ann_rset : Ann := { slots := numP 0 [.list .part LI, .int .i64, .int .i64, .int .i64], boxes := [], inv := fun _ _ => True }
def g_rset_vc (R : GI) (v : Int) (l : List Int) : Prop :=
  (l.length ≤ (1000000000 : Nat) ∧ List.length R ≤ (1000000000 : Nat)) ∧ ((!decide (mayG R v l = (0 : Int))) = true → True ∧ (R, (0 : Int), (0 : Int), mayG R v l, ()) = (setG R v l, addG R v l, dropG R v l, mayG R v l, ())) ∧ ((!decide (mayG R v l = (0 : Int))) = false → (((0 : Nat) + List.length R) * (24 : Nat) ≤ (140737488355328 : Nat) ∧ (0 : Nat) + List.length R ≤ (4611686018427387904 : Nat) ∧ ((0 : Nat) < List.length R ∨ (0 : Nat) = (0 : Nat))) ∧ (((0 : Nat) + l.length) * (8 : Nat) ≤ (140737488355328 : Nat) ∧ (0 : Nat) + l.length ≤ (4611686018427387904 : Nat) ∧ ((0 : Nat) < l.length ∨ (0 : Nat) = (0 : Nat))) ∧ ((0 : Int) ≤ v ∧ v < (↑(List.length R) : Int)) ∧ v.toNat < List.length R ∧ ∀ (y : List Int), R[v.toNat]? = some y → ((0 : Int) ≤ v ∧ v < (↑(List.length R) : Int)) ∧ ∀ (x : List Int), R[v.toNat]? = some x → (l.length ≤ (1000000000 : Nat) ∧ x.length ≤ (1000000000 : Nat)) ∧ ((0 : Int) ≤ v ∧ v < (↑(List.length R) : Int)) ∧ ∀ (x_1 : List Int), R[v.toNat]? = some x_1 → (x_1.length ≤ (1000000000 : Nat) ∧ l.length ≤ (1000000000 : Nat)) ∧ True ∧ (List.set R v.toNat l, newsF l x, newsF x_1 l, (0 : Int), ()) = (setG R v l, addG R v l, dropG R v l, mayG R v l, ()))
theorem g_rset_eq (R : GI) (v : Int) (l : List Int) : CondG (env_rset R v l) Try.f54 [.agg [.list .part LI R], .int .i64 v, .list .tmp I l] [some 1, none, none, none] ann_rset (setG R v l, addG R v l, dropG R v l, mayG R v l, ()) = g_rset_vc R v l := by kernel_rfl
theorem g_rset_ok (R : GI) (v : Int) (l : List Int) (h : RSm R l) : g_rset_vc R v l := by
  unfold g_rset_vc
  simp only [decide_eq_true_eq, decide_eq_false_iff_not, Bool.not_eq_true', Bool.not_eq_false', Bool.not_true, Bool.not_false]
  obtain ⟨h1, h2, h3⟩ := h
  refine ⟨⟨h1, h2⟩, fun hm => ⟨trivial, ?_⟩, fun hm => ?_⟩
  · rw [setG, addG, dropG, if_neg hm, if_neg hm, if_neg hm]
  · obtain ⟨⟨v0, v1⟩, _⟩ := mayG_ok hm
    refine ⟨⟨by omega, by omega, .inr trivial⟩, ⟨by omega, by omega, .inr trivial⟩, ⟨v0, v1⟩, by omega, fun y hy => ⟨⟨v0, v1⟩, fun x hx => ⟨⟨h1, h3 x (List.mem_of_getElem? hx)⟩, ⟨v0, v1⟩, fun z hz => ⟨⟨h3 z (List.mem_of_getElem? hz), h1⟩, trivial, ?_⟩⟩⟩⟩
    rw [setG, addG, dropG, if_pos hm, if_pos hm, if_pos hm, hm, List.getD_eq_getElem?_getD, hx]
    rw [hx] at hz
    cases hz
    rfl
set_option maxRecDepth 20000
theorem rset_pure (R : GI) (v : Int) (l : List Int) (h : RSm R l) : Pure Try.prog 54 [.agg [.list .part LI R], .int .i64 v, .list .tmp I l] (.tuple [.agg [.list .part LI (setG R v l)], .int .i64 (addG R v l), .int .i64 (dropG R v l), .int .i64 (mayG R v l)]) :=
  by have k := Pure.of_condG (r := (.tuple [.agg [.list .part LI (setG R v l)], .int .i64 (addG R v l), .int .i64 (dropG R v l), .int .i64 (mayG R v l)])) (g_rset_eq R v l) (g_rset_ok R v l h) rfl (specs_ok rfl [sp_rmay, sp_miss] [] rfl rfl) mixed Try.func54; exact k
noncomputable def q_rset (R : GI) (v : Int) (l : List Int) : Prop × V := (RSm R l, (.tuple [.agg [.list .part LI (setG R v l)], .int .i64 (addG R v l), .int .i64 (dropG R v l), .int .i64 (mayG R v l)]))
noncomputable def sp_rset : FSpec Try.prog where
 f := 54
 run := fun
  | [.agg [v0_0], .int .i64 v, v2] => (asP LI v0_0 : Option (GI)).bind fun R => (asL I v2 : Option (List Int)).bind fun l => some (q_rset R v l)
  | _ => none
 ok := fun args pre r h hp => by
  split at h
  · rename_i v0_0 v v2
    obtain ⟨R, h0_0, h⟩ := Option.bind_eq_some_iff.1 h
    obtain ⟨l, h2, h⟩ := Option.bind_eq_some_iff.1 h
    exact of_q h hp fun h => (rset_pure R v l h).weak (.cons (Weak.agg (.cons (asP_weak h0_0) .nil)) (.cons (.refl _) (.cons (asL_weak h2) .nil)))
  · cases h
noncomputable def env_rreads (R : GI) (v : Int) : Env where
  P := Try.prog
  ty := tys0
def g_rreads_vc (R : GI) (v : Int) : Prop :=
  (decide (v < (0 : Int)) = false → (decide ((↑(List.length R) : Int) ≤ v) = true → ([], ()) = (readsF R v, ())) ∧ (decide ((↑(List.length R) : Int) ≤ v) = false → ((0 : Int) ≤ v ∧ v < (↑(List.length R) : Int)) ∧ ∀ (x : List Int), R[v.toNat]? = some x → (x, ()) = (readsF R v, ()))) ∧ (decide (v < (0 : Int)) = !false → ([], ()) = (readsF R v, ()))
theorem g_rreads_eq (R : GI) (v : Int) : Cond (env_rreads R v) Try.f23 [.agg [.list .part LI R], .int .i64 v] [.list .part I] (readsF R v, ()) = g_rreads_vc R v := by kernel_rfl
theorem g_rreads_ok (R : GI) (v : Int) : g_rreads_vc R v := by
  unfold g_rreads_vc
  simp only [decide_eq_true_eq, decide_eq_false_iff_not, Bool.not_eq_true', Bool.not_eq_false', Bool.not_true, Bool.not_false]
  refine ⟨fun h1 => ⟨fun h2 => ?_, fun h2 => ⟨by omega, fun x hx => ?_⟩⟩, fun h1 => ?_⟩
  · rw [readsF, if_neg (by omega)]
  · rw [readsF, if_pos (by omega), List.getD_eq_getElem?_getD, hx]
    rfl
  · rw [readsF, if_neg (by omega)]
theorem rreads_pure (R : GI) (v : Int) : Pure Try.prog 23 [.agg [.list .part LI R], .int .i64 v] (.list .part I (readsF R v)) :=
  by have k := Pure.of_cond (g_rreads_eq R v) (g_rreads_ok R v) (specs_ok rfl [] [] rfl rfl) mixed Try.func23; exact k
noncomputable def q_rreads (R : GI) (v : Int) : Prop × V := (True, (.list .part I (readsF R v)))
noncomputable def sp_rreads : FSpec Try.prog where
 f := 23
 run := fun
  | [.agg [v0_0], .int .i64 v] => (asP LI v0_0 : Option (GI)).bind fun R => some (q_rreads R v)
  | _ => none
 ok := fun args pre r h hp => by
  split at h
  · rename_i v0_0 v
    obtain ⟨R, h0_0, h⟩ := Option.bind_eq_some_iff.1 h
    exact of_q h hp fun h => (rreads_pure R v).weak (.cons (Weak.agg (.cons (asP_weak h0_0) .nil)) (.cons (.refl _) .nil))
  · cases h
noncomputable def env_rhas (R : GI) (v x : Int) : Env where
  P := Try.prog
  ty := tys0
  specs := specsOf [sp_rreads, sp_has']
def g_rhas_vc (R : GI) (v : Int) (x : Int) : Prop :=
  True ∧ (readsF R v).length ≤ (1000000000 : Nat) ∧ ((readsF R v).contains x, ()) = ((readsF R v).contains x, ())
theorem g_rhas_eq (R : GI) (v x : Int) : Cond (env_rhas R v x) Try.f20 [.agg [.list .part LI R], .int .i64 v, .int .i64 x] [.bool] (List.contains (readsF R v) x, ()) = g_rhas_vc R v x := by kernel_rfl
theorem g_rhas_ok (R : GI) (v x : Int) (h : ∀ x ∈ R, x.length ≤ 1000000000) : g_rhas_vc R v x := by
  unfold g_rhas_vc
  simp only [decide_eq_true_eq, decide_eq_false_iff_not, Bool.not_eq_true', Bool.not_eq_false', Bool.not_true, Bool.not_false]
  exact ⟨trivial, reads_le h, trivial⟩
theorem rhas_pure (R : GI) (v x : Int) (h : ∀ x ∈ R, x.length ≤ 1000000000) : Pure Try.prog 20 [.agg [.list .part LI R], .int .i64 v, .int .i64 x] (.bool (List.contains (readsF R v) x)) :=
  by have k := Pure.of_cond (g_rhas_eq R v x) (g_rhas_ok R v x h) (specs_ok rfl [sp_rreads, sp_has'] [] rfl rfl) mixed Try.func20; exact k
noncomputable def q_rhas (R : GI) (v x : Int) : Prop × V := (∀ x ∈ R, x.length ≤ 1000000000, (.bool (List.contains (readsF R v) x)))
noncomputable def sp_rhas : FSpec Try.prog where
 f := 20
 run := fun
  | [.agg [v0_0], .int .i64 v, .int .i64 x] => (asP LI v0_0 : Option (GI)).bind fun R => some (q_rhas R v x)
  | _ => none
 ok := fun args pre r h hp => by
  split at h
  · rename_i v0_0 v x
    obtain ⟨R, h0_0, h⟩ := Option.bind_eq_some_iff.1 h
    exact of_q h hp fun h => (rhas_pure R v x h).weak (.cons (Weak.agg (.cons (asP_weak h0_0) .nil)) (.cons (.refl _) (.cons (.refl _) .nil)))
  · cases h
def rdGo (R : GI) (v : Int) (n : Nat) : List Int := ((List.range n).filter fun i => (R.getD i []).contains v).map fun (i : Nat) => (i : Int)
theorem rdGo_le (R : GI) (v : Int) (n : Nat) : (rdGo R v n).length ≤ n := by
  unfold rdGo
  rw [List.length_map]
  exact Nat.le_trans (List.length_filter_le _ _) (by simp)
theorem rdGo_succ (R : GI) (v : Int) (n : Nat) : rdGo R v (n + 1) = rdGo R v n ++ if (R.getD n []).contains v = true then [(n : Int)] else [] := by
  unfold rdGo
  rw [List.range_succ, List.filter_append, List.map_append]
  congr 1
  by_cases h : (R.getD n []).contains v = true
  · simp only [List.filter_cons, h, if_true, List.filter_nil, List.map_cons, List.map_nil]
  · have h : (R.getD n []).contains v = false := by simpa using h
    simp only [List.filter_cons, h, Bool.false_eq_true, if_false, List.filter_nil, List.map_nil]
noncomputable def env_rreaders (R : GI) (v : Int) : Env where
  P := Try.prog
  ty := tys0
  specs := specsOf [sp_rhas]
  heads := fun | 3 => some { slots := [(5, .slc 21 I), (6, .int .i64)], boxes := [], keep := [2], inv := fun _ (x : List Int × Int × Unit) => 0 ≤ x.2.1 ∧ x.2.1 ≤ R.length ∧ x.1 = rdGo R v x.2.1.toNat, measure := fun _ (x : List Int × Int × Unit) => (R.length - x.2.1).toNat } | _ => none
def g_rreaders_vc (R : GI) (v : Int) : Prop :=
  ((some (Obj.box [V.list LK.part LI R]) = some (Obj.box [V.list LK.part LI R]) ∧ True) ∧ (0 : Int) ≤ (0 : Int) ∧ (0 : Int) ≤ (↑(List.length R) : Int) ∧ [] = rdGo R v (Int.toNat (0 : Int))) ∧ ∀ (x : List Int × Int × Unit), (0 : Int) ≤ x.2.1 ∧ x.2.1 ≤ (↑(List.length R) : Int) ∧ x.1 = rdGo R v x.2.1.toNat → (decide (x.2.1 < (↑(List.length R) : Int)) = true → (∀ (x : List Int), x ∈ R → x.length ≤ (1000000000 : Nat)) ∧ ((readsF R x.2.1).contains v = true → ((x.1.length + (1 : Nat)) * (8 : Nat) ≤ (140737488355328 : Nat) ∧ x.1.length + (1 : Nat) ≤ (4611686018427387904 : Nat)) ∧ ((-9223372036854775808 : Int) ≤ x.2.1 + (1 : Int) ∧ x.2.1 + (1 : Int) ≤ (9223372036854775807 : Int)) ∧ (some (Obj.box [V.list LK.part LI R]) = some (Obj.box [V.list LK.part LI R]) ∧ True) ∧ ((0 : Int) ≤ x.2.1 + (1 : Int) ∧ x.2.1 + (1 : Int) ≤ (↑(List.length R) : Int) ∧ x.1 ++ [x.2.1] = rdGo R v (x.2.1 + (1 : Int)).toNat) ∧ ((↑(List.length R) : Int) - (x.2.1 + (1 : Int))).toNat < ((↑(List.length R) : Int) - x.2.1).toNat) ∧ ((readsF R x.2.1).contains v = false → ((-9223372036854775808 : Int) ≤ x.2.1 + (1 : Int) ∧ x.2.1 + (1 : Int) ≤ (9223372036854775807 : Int)) ∧ (some (Obj.box [V.list LK.part LI R]) = some (Obj.box [V.list LK.part LI R]) ∧ True) ∧ ((0 : Int) ≤ x.2.1 + (1 : Int) ∧ x.2.1 + (1 : Int) ≤ (↑(List.length R) : Int) ∧ x.1 = rdGo R v (x.2.1 + (1 : Int)).toNat) ∧ ((↑(List.length R) : Int) - (x.2.1 + (1 : Int))).toNat < ((↑(List.length R) : Int) - x.2.1).toNat)) ∧ (decide (x.2.1 < (↑(List.length R) : Int)) = false → (x.1, ()) = (rdGo R v (List.length R), ()))
theorem g_rreaders_eq (R : GI) (v : Int) : Cond (env_rreaders R v) Try.f25 [.agg [.list .part LI R], .int .i64 v] [.list .part I] (rdGo R v R.length, ()) = g_rreaders_vc R v := by kernel_rfl
theorem g_rreaders_ok (R : GI) (v : Int) (h : R.length ≤ 1000000000 ∧ ∀ x ∈ R, x.length ≤ 1000000000) : g_rreaders_vc R v := by
  unfold g_rreaders_vc
  simp only [decide_eq_true_eq, decide_eq_false_iff_not, Bool.not_eq_true', Bool.not_eq_false', Bool.not_true, Bool.not_false]
  obtain ⟨hR, h⟩ := h
  refine ⟨⟨⟨trivial, trivial⟩, by omega, by omega, rfl⟩, ?_⟩
  rintro ⟨l, i, ⟨⟩⟩ ⟨h0, h1, h2⟩
  dsimp only at h0 h1 h2 ⊢
  have hl := rdGo_le R v i.toNat
  rw [← h2] at hl
  have hr : i < List.length (α := List Int) R → readsF R i = R.getD i.toNat [] := fun hi => if_pos ⟨h0, hi⟩
  refine ⟨fun hi => ⟨h, fun hc => ⟨⟨by omega, by omega⟩, by omega, ⟨trivial, trivial⟩, ⟨by omega, by omega, ?_⟩, by omega⟩, fun hc => ⟨by omega, ⟨trivial, trivial⟩, ⟨by omega, by omega, ?_⟩, by omega⟩⟩, fun hi => ?_⟩
  · rw [show (i + 1).toNat = i.toNat + 1 by omega, rdGo_succ, if_pos (by rw [← hr hi]; exact hc), ← h2, Int.toNat_of_nonneg h0]
  · rw [show (i + 1).toNat = i.toNat + 1 by omega, rdGo_succ, if_neg (by rw [← hr hi, hc]; decide), ← h2, List.append_nil]
  · rw [h2, show i.toNat = List.length R by omega]
theorem rreaders_pure (R : GI) (v : Int) (h : R.length ≤ 1000000000 ∧ ∀ x ∈ R, x.length ≤ 1000000000) : Pure Try.prog 25 [.agg [.list .part LI R], .int .i64 v] (.list .part I (rdGo R v R.length)) :=
  by have k := Pure.of_cond (g_rreaders_eq R v) (g_rreaders_ok R v h) (specs_ok rfl [sp_rhas] [] rfl rfl) mixed Try.func25; exact k
noncomputable def q_rreaders (R : GI) (v : Int) : Prop × V := (R.length ≤ 1000000000 ∧ ∀ x ∈ R, x.length ≤ 1000000000, (.list .part I (rdGo R v R.length)))
noncomputable def sp_rreaders : FSpec Try.prog where
 f := 25
 run := fun
  | [.agg [v0_0], .int .i64 v] => (asP LI v0_0 : Option (GI)).bind fun R => some (q_rreaders R v)
  | _ => none
 ok := fun args pre r h hp => by
  split at h
  · rename_i v0_0 v
    obtain ⟨R, h0_0, h⟩ := Option.bind_eq_some_iff.1 h
    exact of_q h hp fun h => (rreaders_pure R v h).weak (.cons (Weak.agg (.cons (asP_weak h0_0) .nil)) (.cons (.refl _) .nil))
  · cases h
noncomputable def env_redges (R : GI) : Env where
  P := Try.prog
  ty := tys0
  heads := fun | 3 => some { slots := [(3, .int .i64), (4, .int .i64)], boxes := [], keep := [1], inv := fun _ (x : Int × Int × Unit) => 0 ≤ x.2.1 ∧ x.2.1 ≤ R.length ∧ x.1 = edgesF (R.take x.2.1.toNat), measure := fun _ (x : Int × Int × Unit) => (R.length - x.2.1).toNat } | _ => none
def g_redges_vc (R : GI) : Prop :=
  ((some (Obj.box [V.list LK.part LI R]) = some (Obj.box [V.list LK.part LI R]) ∧ True) ∧ (0 : Int) ≤ (0 : Int) ∧ (0 : Int) ≤ (↑(List.length R) : Int) ∧ (0 : Int) = (List.map (fun l => (↑l.length : Int)) (List.take (Int.toNat (0 : Int)) R)).sum) ∧ ∀ (x : Int × Int × Unit), (0 : Int) ≤ x.2.1 ∧ x.2.1 ≤ (↑(List.length R) : Int) ∧ x.1 = (List.map (fun l => (↑l.length : Int)) (List.take x.2.1.toNat R)).sum → (decide (x.2.1 < (↑(List.length R) : Int)) = true → ((0 : Int) ≤ x.2.1 ∧ x.2.1 < (↑(List.length R) : Int)) ∧ ∀ (x_1 : List Int), R[x.2.1.toNat]? = some x_1 → ((-9223372036854775808 : Int) ≤ x.1 + (↑x_1.length : Int) ∧ x.1 + (↑x_1.length : Int) ≤ (9223372036854775807 : Int)) ∧ ((-9223372036854775808 : Int) ≤ x.2.1 + (1 : Int) ∧ x.2.1 + (1 : Int) ≤ (9223372036854775807 : Int)) ∧ (some (Obj.box [V.list LK.part LI R]) = some (Obj.box [V.list LK.part LI R]) ∧ True) ∧ ((0 : Int) ≤ x.2.1 + (1 : Int) ∧ x.2.1 + (1 : Int) ≤ (↑(List.length R) : Int) ∧ x.1 + (↑x_1.length : Int) = (List.map (fun l => (↑l.length : Int)) (List.take (x.2.1 + (1 : Int)).toNat R)).sum) ∧ ((↑(List.length R) : Int) - (x.2.1 + (1 : Int))).toNat < ((↑(List.length R) : Int) - x.2.1).toNat) ∧ (decide (x.2.1 < (↑(List.length R) : Int)) = false → (x.1, ()) = ((List.map (fun l => (↑l.length : Int)) R).sum, ()))
theorem g_redges_eq (R : GI) : Cond (env_redges R) Try.f55 [.agg [.list .part LI R]] [.int .i64] (edgesF R, ()) = g_redges_vc R := by kernel_rfl
theorem g_redges_ok (R : GI) (h : R.length ≤ 20000 ∧ ∀ x ∈ R, x.length ≤ 1000000000) : g_redges_vc R := by
  unfold g_redges_vc
  simp only [decide_eq_true_eq, decide_eq_false_iff_not, Bool.not_eq_true', Bool.not_eq_false', Bool.not_true, Bool.not_false]
  obtain ⟨hR, h⟩ := h
  refine ⟨⟨⟨trivial, trivial⟩, by omega, by omega, rfl⟩, ?_⟩
  rintro ⟨n, i, ⟨⟩⟩ ⟨h0, h1, h2⟩
  dsimp only at h0 h1 h2 ⊢
  have hb := edges_take_le (i := i.toNat) h
  unfold edgesF at hb
  rw [← h2] at hb
  refine ⟨fun hi => ⟨⟨h0, hi⟩, fun x hx => ?_⟩, fun hi => ?_⟩
  · have hx2 := h x (List.mem_of_getElem? hx)
    refine ⟨by omega, by omega, ⟨trivial, trivial⟩, ⟨by omega, by omega, ?_⟩, by omega⟩
    rw [show (i + 1).toNat = i.toNat + 1 by omega, List.take_add_one, hx, List.map_append, List.sum_append, h2]
    simp
  · rw [h2, List.take_of_length_le (by omega)]
theorem redges_pure (R : GI) (h : R.length ≤ 20000 ∧ ∀ x ∈ R, x.length ≤ 1000000000) : Pure Try.prog 55 [.agg [.list .part LI R]] (.int .i64 (edgesF R)) :=
  by have k := Pure.of_cond (g_redges_eq R) (g_redges_ok R h) (specs_ok rfl [] [] rfl rfl) mixed Try.func55; exact k
noncomputable def q_redges (R : GI) : Prop × V := (R.length ≤ 20000 ∧ ∀ x ∈ R, x.length ≤ 1000000000, (.int .i64 (edgesF R)))
noncomputable def sp_redges : FSpec Try.prog where
 f := 55
 run := fun
  | [.agg [v0_0]] => (asP LI v0_0 : Option (GI)).bind fun R => some (q_redges R)
  | _ => none
 ok := fun args pre r h hp => by
  split at h
  · rename_i v0_0
    obtain ⟨R, h0_0, h⟩ := Option.bind_eq_some_iff.1 h
    exact of_q h hp fun h => (redges_pure R h).weak (.cons (Weak.agg (.cons (asP_weak h0_0) .nil)) .nil)
  · cases h
noncomputable def env_rnew (m : Int) : Env where
  P := Try.prog
  ty := tys0
abbrev ann_rnew : Ann := { slots := numP 0 [.list .part LI, .int .i64], boxes := [], inv := fun _ _ => True }
def g_rnew_vc (m : Int) : Prop :=
  (decide (m < (1 : Int)) = false → (decide ((20000 : Int) < m) = true → True ∧ ([], (2 : Int), ()) = (newR m, newE m, ())) ∧ (decide ((20000 : Int) < m) = false → ((0 : Int) ≤ m ∧ m ≤ m ∧ m * (↑(24 : Nat) : Int) ≤ (140737488355328 : Int) ∧ m ≤ (4611686018427387904 : Int)) ∧ True ∧ (List.replicate m.toNat [], (0 : Int), ()) = (newR m, newE m, ()))) ∧ (decide (m < (1 : Int)) = !false → True ∧ ([], (2 : Int), ()) = (newR m, newE m, ()))
theorem g_rnew_eq (m : Int) : CondG (env_rnew m) Try.f53 [.int .i64 m] [some 1, none] ann_rnew (newR m, newE m, ()) = g_rnew_vc m := by kernel_rfl
theorem g_rnew_ok (m : Int) : g_rnew_vc m := by
  unfold g_rnew_vc
  simp only [decide_eq_true_eq, decide_eq_false_iff_not, Bool.not_eq_true', Bool.not_eq_false', Bool.not_true, Bool.not_false]
  refine ⟨fun h1 => ⟨fun h2 => ⟨trivial, ?_⟩, fun h2 => ⟨⟨by omega, by omega, by omega, by omega⟩, trivial, ?_⟩⟩, fun h1 => ⟨trivial, ?_⟩⟩
  · rw [newR, newE, if_neg (by omega), if_neg (by omega)]
  · rw [newR, newE, if_pos (by omega), if_pos (by omega)]
  · rw [newR, newE, if_neg (by omega), if_neg (by omega)]
theorem rnew_pure (m : Int) : Pure Try.prog 53 [.int .i64 m] (.tuple [.agg [.list .part LI (newR m)], .int .i64 (newE m)]) :=
  by have k := Pure.of_condG (r := (.tuple [.agg [.list .part LI (newR m)], .int .i64 (newE m)])) (g_rnew_eq m) (g_rnew_ok m) rfl (specs_ok rfl [] [] rfl rfl) mixed Try.func53; exact k
noncomputable def q_rnew (m : Int) : Prop × V := (True, (.tuple [.agg [.list .part LI (newR m)], .int .i64 (newE m)]))
noncomputable def sp_rnew : FSpec Try.prog where
 f := 53
 run := fun
  | [.int .i64 m] => some (q_rnew m)
  | _ => none
 ok := fun args pre r h hp => by
  split at h
  · rename_i m
    exact of_q h hp fun h => (rnew_pure m).weak (.cons (.refl _) .nil)
  · cases h

end Go.Proofs.Ytojflfogjkajaaa.Gr
