/-
  order.Order.
-/
import Derived.Test.YtojflfogjkajaaaOd6
section
namespace Go.Proofs.Ytojflfogjkajaaa.Od
open Go.Vm Go.Proofs.Ytojflfogjkajaaa.Gr Go.Proofs.Ytojflfogjkajaaa.Rc
def cntP (all l : List Int) : Nat := (l.filter fun w => all.contains w).length
theorem cnt_nil (rd : Int → List Int) (all : List Int) (v : Int) : cntO rd all [] v = cntP all (rd v) := by simp [cntO, cntP]
theorem cntP_snoc (all l : List Int) (x : Int) : cntP all (l ++ [x]) = cntP all l + if all.contains x = true then 1 else 0 := by
  unfold cntP
  rw [List.filter_append, List.length_append, List.filter_cons]
  split <;> simp
theorem cntP_le (all l : List Int) : cntP all l ≤ l.length := List.length_filter_le _ _
abbrev AL (R : GI) (sm : List Int) : List Int := allF (List.length (α := List Int) R) sm
def cB (R : GI) (sm : List Int) (u : Int) : Int := (cntO (readsF R) (AL R sm) [] u : Nat)
def fB (R : GI) (sm done : List Int) (u : Int) : Int := if done.contains u = true then cB R sm u else 0
def fC (R : GI) (sm done : List Int) (v : Int) (l : List Int) (u : Int) : Int := if u = v then (cntP (AL R sm) l : Nat) else fB R sm done u
def rdyB (R : GI) (sm done : List Int) : List Int := done.filter fun u => (AL R sm).contains u && decide (cB R sm u = 0)
theorem all_snoc (n : Nat) (l : List Int) (v : Int) : allF n (l ++ [v]) = if Dom n v then insU (allF n l) v else allF n l := by
  split
  · rename_i h
    refine up_ext (all_up _ _) (insU_up (all_up _ _) _) fun x => ?_
    rw [mem_insU, mem_all, mem_all, List.mem_append, List.mem_singleton]
    exact ⟨fun ⟨h1, h2⟩ => h2.elim (fun h3 => .inr ⟨h1, h3⟩) .inl, fun h1 => h1.elim (fun e => by subst e; exact ⟨h, .inr rfl⟩) fun ⟨h2, h3⟩ => ⟨h2, .inl h3⟩⟩
  · rename_i h
    refine up_ext (all_up _ _) (all_up _ _) fun x => ?_
    rw [mem_all, mem_all, List.mem_append, List.mem_singleton]
    exact ⟨fun ⟨h1, h2⟩ => ⟨h1, h2.elim id fun e => (h (e ▸ h1)).elim⟩, fun ⟨h1, h2⟩ => ⟨h1, .inl h2⟩⟩
theorem al_len (R : GI) (l : List Int) : (AL R l).length ≤ List.length (α := List Int) R := all_le _ _
theorem al_snoc (R : GI) (l : List Int) (v : Int) : AL R (l ++ [v]) = if Dom (List.length (α := List Int) R) v then insU (AL R l) v else AL R l := all_snoc _ _ _
theorem take_snoc {l : List Int} {i : Nat} {v : Int} (h : l[i]? = some v) : l.take (i + 1) = l.take i ++ [v] := by
  rw [List.take_add_one, h]
  rfl
theorem up_notin {l : List Int} (h : Up l) {i : Nat} {v : Int} (hv : l[i]? = some v) : v ∉ l.take i := by
  intro hin
  obtain ⟨j, hj, e⟩ := List.getElem_of_mem hin
  rw [List.length_take] at hj
  rw [List.getElem_take] at e
  have hi : i < l.length := (List.getElem?_eq_some_iff.1 hv).1
  have e2 : l[i] = v := (List.getElem?_eq_some_iff.1 hv).2
  have := (List.pairwise_iff_getElem.1 h) j i (by omega) hi (by omega)
  omega
theorem contains_snoc (l : List Int) (v u : Int) : (l ++ [v]).contains u = (l.contains u || decide (u = v)) := by
  rw [Bool.eq_iff_iff, List.contains_iff_mem, Bool.or_eq_true, List.contains_iff_mem, decide_eq_true_eq, List.mem_append, List.mem_singleton]
theorem rdyB_snoc (R : GI) (sm D : List Int) (u : Int) : rdyB R sm (D ++ [u]) = rdyB R sm D ++ if (AL R sm).contains u && decide (cB R sm u = 0) then [u] else [] := by
  unfold rdyB
  rw [List.filter_append, List.filter_cons]
  rfl
theorem rdyB_len (R : GI) (sm D : List Int) : (rdyB R sm D).length ≤ D.length := List.length_filter_le _ _
theorem begin_skip (R : GI) (sm D : List Int) (u : Int) (h : u ∉ AL R sm) : mkM (AL R sm) (fB R sm D) = mkM (AL R sm) (fB R sm (D ++ [u])) := mkM_congr fun v hv => by
  unfold fB
  rw [contains_snoc, decide_eq_false (show ¬ v = u from fun e => h (by rw [← e]; exact hv)), Bool.or_false]
theorem begin_in (R : GI) (sm D : List Int) (u : Int) (h : u ∉ D) : mkM (AL R sm) (fB R sm D) = mkM (AL R sm) (fC R sm D u []) := mkM_congr fun v _ => by
  unfold fC
  split
  · rename_i e
    subst e
    unfold fB
    rw [if_neg (by rwa [List.contains_iff_mem])]
    rfl
  · rfl
theorem begin_out (R : GI) (sm D : List Int) (u : Int) : mkM (AL R sm) (fC R sm D u (readsF R u)) = mkM (AL R sm) (fB R sm (D ++ [u])) := mkM_congr fun v _ => by
  unfold fC
  split
  · rename_i e
    subst e
    unfold fB
    rw [contains_snoc, decide_eq_true rfl, Bool.or_true, if_pos rfl, cB, cnt_nil]
  · rename_i e
    unfold fB
    rw [contains_snoc, decide_eq_false e, Bool.or_false]
theorem fC_at (R : GI) (sm D : List Int) (u : Int) (l : List Int) (h : u ∈ AL R sm) : mGet (mkM (AL R sm) (fC R sm D u l)) u = (cntP (AL R sm) l : Nat) := by
  rw [mGet_mk, if_pos h, fC, if_pos rfl]
theorem fC_put (R : GI) (sm D : List Int) (u : Int) (l : List Int) (h : u ∈ AL R sm) {w : Int} (hw : (AL R sm).contains w = true) : mPut (mkM (AL R sm) (fC R sm D u l)) u ((cntP (AL R sm) l : Nat) + 1) = mkM (AL R sm) (fC R sm D u (l ++ [w])) := by
  rw [mPut_in (all_up _ _) _ h]
  refine mkM_congr fun v _ => ?_
  unfold fC
  split
  · rw [cntP_snoc, if_pos hw]
    push_cast
    rfl
  · rfl
theorem fC_skip (R : GI) (sm D : List Int) (u : Int) (l : List Int) {w : Int} (hw : (AL R sm).contains w = false) : mkM (AL R sm) (fC R sm D u l) = mkM (AL R sm) (fC R sm D u (l ++ [w])) := by
  refine mkM_congr fun v _ => ?_
  unfold fC
  rw [cntP_snoc, hw]
  simp
theorem reads_at {R : GI} (h : GOk R) (v : Int) : (readsF R v).length ≤ 20000 ∧ ∀ x ∈ readsF R v, Dom R.length x := by
  unfold readsF
  split
  · rename_i hv
    have hi : v.toNat < R.length := by omega
    have hg : R[v.toNat]? = some (R.getD v.toNat []) := by
      rw [List.getD_eq_getElem?_getD, List.getElem?_eq_getElem hi]
      rfl
    obtain ⟨h1, h2⟩ := h.2 _ _ hg
    have hd : ∀ x ∈ R.getD v.toNat [], Dom R.length x := fun x hx => ⟨(h2 x hx).1, (h2 x hx).2.1⟩
    refine ⟨?_, hd⟩
    have : (R.getD v.toNat []).length ≤ (ixs (fun _ => true) R.length).length := sub_len h1 fun x hx => mem_ixs.2 ⟨hd x hx, rfl⟩
    have := ixs_le (fun _ => true) R.length
    have := h.1
    omega
  · exact ⟨by simp, fun x hx => by simp at hx⟩
abbrev deskP : List (Nat × List Pat) := [(21, [.fop .graph, .opq 19 .mii, .int .i64])]
noncomputable def env_begin (R : GI) (sm : List Int) : Env where
  P := Try.prog
  ty := tys0
  specs := specsOf [sp_nodes, sp_reads]
  upd := updsOf [so_values.upd, so_sorted.upd, sp_compact]
  asMap := fun | 19 => .some .mii | _ => .none
  heads := fun
    | 3 => .some { slots := [(24, .int .i64)], boxes := deskP, inv := fun _ (x : Int × GI × List (Int × Int) × Int × Unit) => 0 ≤ x.1 ∧ x.1 ≤ sm.length ∧ x.2.1 = R ∧ x.2.2.1 = mkM (AL R (sm.take x.1.toNat)) (fun _ => 0) ∧ x.2.2.2.1 = 0, measure := fun _ (x : Int × GI × List (Int × Int) × Int × Unit) => (sm.length - x.1).toNat }
    | 11 => .some { slots := [(9, .slc 106 I), (53, .list .part I), (55, .int .i64)], boxes := deskP, drop := [51, 52], inv := fun _ (x : List Int × List Int × Int × GI × List (Int × Int) × Int × Unit) => 0 ≤ x.2.2.1 ∧ x.2.2.1 ≤ (riseF sm).length ∧ x.2.1 = riseF sm ∧ x.1 = rdyB R sm ((riseF sm).take x.2.2.1.toNat) ∧ x.2.2.2.1 = R ∧ x.2.2.2.2.1 = mkM (AL R sm) (fB R sm ((riseF sm).take x.2.2.1.toNat)) ∧ x.2.2.2.2.2.1 = (AL R sm).length, measure := fun _ (x : List Int × List Int × Int × GI × List (Int × Int) × Int × Unit) => ((riseF sm).length - x.2.2.1).toNat }
    | 16 => .some { slots := [(74, .int .i64)], boxes := deskP, keep := [106], inv := fun st (x : Int × GI × List (Int × Int) × Int × Unit) => 0 ≤ x.1 ∧ x.1 ≤ (readsF R (st.int 11)).length ∧ x.2.1 = R ∧ x.2.2.1 = mkM (AL R sm) (fC R sm ((riseF sm).take (st.int 55).toNat) (st.int 11) ((readsF R (st.int 11)).take x.1.toNat)) ∧ x.2.2.2.1 = (AL R sm).length, measure := fun st (x : Int × GI × List (Int × Int) × Int × Unit) => ((readsF R (st.int 11)).length - x.1).toNat }
    | _ => .none
abbrev ann_begin : Ann := { slots := numP 0 [.bp 21, .slc 106 I], boxes := deskP, inv := fun _ _ => True }
def g_begin_vc (R : GI) (sm : List Int) : Prop :=
  (True ∧ (0 : Int) ≤ (0 : Int) ∧ (0 : Int) ≤ (↑sm.length : Int) ∧ R = R ∧ ([] = mkM (AL R (List.take (Int.toNat (0 : Int)) sm)) fun x => (0 : Int)) ∧ (0 : Int) = (0 : Int)) ∧ ∀ (x : Int × List (List Int) × List (Int × Int) × Int × Unit), (0 : Int) ≤ x.1 ∧ x.1 ≤ (↑sm.length : Int) ∧ x.2.1 = R ∧ (x.2.2.1 = mkM (AL R (List.take x.1.toNat sm)) fun x => (0 : Int)) ∧ x.2.2.2.1 = (0 : Int) → (decide (x.1 < (↑sm.length : Int)) = true → ((0 : Int) ≤ x.1 ∧ x.1 < (↑sm.length : Int)) ∧ ∀ (x_1 : Int), sm[x.1.toNat]? = some x_1 → (decide ((0 : Int) ≤ x_1) = true → True ∧ (decide (x_1 < (↑(List.length R) : Int)) = true → (((-9223372036854775808 : Int) ≤ x_1 ∧ x_1 ≤ (9223372036854775807 : Int)) ∧ ((-9223372036854775808 : Int) ≤ (0 : Int) ∧ (0 : Int) ≤ (9223372036854775807 : Int)) ∧ x.2.2.1.length ≤ (1000000000 : Nat)) ∧ ((-9223372036854775808 : Int) ≤ x.1 + (1 : Int) ∧ x.1 + (1 : Int) ≤ (9223372036854775807 : Int)) ∧ True ∧ ((0 : Int) ≤ x.1 + (1 : Int) ∧ x.1 + (1 : Int) ≤ (↑sm.length : Int) ∧ x.2.1 = R ∧ (mPut x.2.2.1 x_1 (0 : Int) = mkM (AL R (List.take (x.1 + (1 : Int)).toNat sm)) fun x => (0 : Int)) ∧ x.2.2.2.1 = (0 : Int)) ∧ ((↑sm.length : Int) - (x.1 + (1 : Int))).toNat < ((↑sm.length : Int) - x.1).toNat) ∧ (decide (x_1 < (↑(List.length R) : Int)) = false → ((-9223372036854775808 : Int) ≤ x.1 + (1 : Int) ∧ x.1 + (1 : Int) ≤ (9223372036854775807 : Int)) ∧ True ∧ ((0 : Int) ≤ x.1 + (1 : Int) ∧ x.1 + (1 : Int) ≤ (↑sm.length : Int) ∧ x.2.1 = R ∧ (x.2.2.1 = mkM (AL R (List.take (x.1 + (1 : Int)).toNat sm)) fun x => (0 : Int)) ∧ x.2.2.2.1 = (0 : Int)) ∧ ((↑sm.length : Int) - (x.1 + (1 : Int))).toNat < ((↑sm.length : Int) - x.1).toNat)) ∧ (decide ((0 : Int) ≤ x_1) = !true → ((-9223372036854775808 : Int) ≤ x.1 + (1 : Int) ∧ x.1 + (1 : Int) ≤ (9223372036854775807 : Int)) ∧ True ∧ ((0 : Int) ≤ x.1 + (1 : Int) ∧ x.1 + (1 : Int) ≤ (↑sm.length : Int) ∧ x.2.1 = R ∧ (x.2.2.1 = mkM (AL R (List.take (x.1 + (1 : Int)).toNat sm)) fun x => (0 : Int)) ∧ x.2.2.2.1 = (0 : Int)) ∧ ((↑sm.length : Int) - (x.1 + (1 : Int))).toNat < ((↑sm.length : Int) - x.1).toNat)) ∧ (decide (x.1 < (↑sm.length : Int)) = false → True ∧ sm.length ≤ (1000000000 : Nat) ∧ (sm.mergeSort fun x y => decide (x ≤ y)).length ≤ (1000000000 : Nat) ∧ (True ∧ (0 : Int) ≤ (0 : Int) ∧ (0 : Int) ≤ (↑(riseF sm).length : Int) ∧ List.take (Lib.compact (sm.mergeSort fun x y => decide (x ≤ y))).length (List.drop (0 : Nat) (Lib.compact (sm.mergeSort fun x y => decide (x ≤ y)) ++ List.replicate ((sm.mergeSort fun x y => decide (x ≤ y)).length - (Lib.compact (sm.mergeSort fun x y => decide (x ≤ y))).length) (0 : Int))) = riseF sm ∧ [] = rdyB R sm (List.take (Int.toNat (0 : Int)) (riseF sm)) ∧ x.2.1 = R ∧ x.2.2.1 = mkM (AL R sm) (fB R sm (List.take (Int.toNat (0 : Int)) (riseF sm))) ∧ (↑x.2.2.1.length : Int) = (↑(AL R sm).length : Int)) ∧ ∀ (x : List Int × List Int × Int × List (List Int) × List (Int × Int) × Int × Unit), (0 : Int) ≤ x.2.2.1 ∧ x.2.2.1 ≤ (↑(riseF sm).length : Int) ∧ x.2.1 = riseF sm ∧ x.1 = rdyB R sm (List.take x.2.2.1.toNat (riseF sm)) ∧ x.2.2.2.1 = R ∧ x.2.2.2.2.1 = mkM (AL R sm) (fB R sm (List.take x.2.2.1.toNat (riseF sm))) ∧ x.2.2.2.2.2.1 = (↑(AL R sm).length : Int) → (decide (x.2.2.1 < (↑(Lib.compact (sm.mergeSort fun x y => decide (x ≤ y))).length : Int)) = true → ((0 : Int) ≤ x.2.2.1 ∧ x.2.2.1 < (↑x.2.1.length : Int)) ∧ ∀ (x_1 : Int), x.2.1[x.2.2.1.toNat]? = some x_1 → ((-9223372036854775808 : Int) ≤ x_1 ∧ x_1 ≤ (9223372036854775807 : Int)) ∧ ((!mHas x.2.2.2.2.1 x_1) = true → ((-9223372036854775808 : Int) ≤ x.2.2.1 + (1 : Int) ∧ x.2.2.1 + (1 : Int) ≤ (9223372036854775807 : Int)) ∧ True ∧ ((0 : Int) ≤ x.2.2.1 + (1 : Int) ∧ x.2.2.1 + (1 : Int) ≤ (↑(riseF sm).length : Int) ∧ x.2.1 = riseF sm ∧ x.1 = rdyB R sm (List.take (x.2.2.1 + (1 : Int)).toNat (riseF sm)) ∧ x.2.2.2.1 = R ∧ x.2.2.2.2.1 = mkM (AL R sm) (fB R sm (List.take (x.2.2.1 + (1 : Int)).toNat (riseF sm))) ∧ x.2.2.2.2.2.1 = (↑(AL R sm).length : Int)) ∧ ((↑(riseF sm).length : Int) - (x.2.2.1 + (1 : Int))).toNat < ((↑(riseF sm).length : Int) - x.2.2.1).toNat) ∧ ((!mHas x.2.2.2.2.1 x_1) = false → True ∧ ((some (Obj.arr (0 : Nat) I x.1) = some (Obj.arr (0 : Nat) I x.1) ∧ True) ∧ (0 : Int) ≤ (0 : Int) ∧ (0 : Int) ≤ (↑(readsF R x_1).length : Int) ∧ x.2.2.2.1 = R ∧ x.2.2.2.2.1 = mkM (AL R sm) (fC R sm (List.take x.2.2.1.toNat (riseF sm)) x_1 (List.take (Int.toNat (0 : Int)) (readsF R x_1))) ∧ x.2.2.2.2.2.1 = (↑(AL R sm).length : Int)) ∧ ∀ (x_2 : Int × List (List Int) × List (Int × Int) × Int × Unit), (0 : Int) ≤ x_2.1 ∧ x_2.1 ≤ (↑(readsF R x_1).length : Int) ∧ x_2.2.1 = R ∧ x_2.2.2.1 = mkM (AL R sm) (fC R sm (List.take x.2.2.1.toNat (riseF sm)) x_1 (List.take x_2.1.toNat (readsF R x_1))) ∧ x_2.2.2.2.1 = (↑(AL R sm).length : Int) → (decide (x_2.1 < (↑(readsF R x_1).length : Int)) = true → ((0 : Int) ≤ x_2.1 ∧ x_2.1 < (↑(readsF R x_1).length : Int)) ∧ ∀ (x_3 : Int), (readsF R x_1)[x_2.1.toNat]? = some x_3 → ((-9223372036854775808 : Int) ≤ x_3 ∧ x_3 ≤ (9223372036854775807 : Int)) ∧ (mHas x_2.2.2.1 x_3 = true → ((-9223372036854775808 : Int) ≤ x_1 ∧ x_1 ≤ (9223372036854775807 : Int)) ∧ ((-9223372036854775808 : Int) ≤ mGet x_2.2.2.1 x_1 + (1 : Int) ∧ mGet x_2.2.2.1 x_1 + (1 : Int) ≤ (9223372036854775807 : Int)) ∧ (((-9223372036854775808 : Int) ≤ x_1 ∧ x_1 ≤ (9223372036854775807 : Int)) ∧ ((-9223372036854775808 : Int) ≤ mGet x_2.2.2.1 x_1 + (1 : Int) ∧ mGet x_2.2.2.1 x_1 + (1 : Int) ≤ (9223372036854775807 : Int)) ∧ x_2.2.2.1.length ≤ (1000000000 : Nat)) ∧ ((-9223372036854775808 : Int) ≤ x_2.1 + (1 : Int) ∧ x_2.1 + (1 : Int) ≤ (9223372036854775807 : Int)) ∧ (some (Obj.arr (0 : Nat) I x.1) = some (Obj.arr (0 : Nat) I x.1) ∧ True) ∧ ((0 : Int) ≤ x_2.1 + (1 : Int) ∧ x_2.1 + (1 : Int) ≤ (↑(readsF R x_1).length : Int) ∧ x_2.2.1 = R ∧ mPut x_2.2.2.1 x_1 (mGet x_2.2.2.1 x_1 + (1 : Int)) = mkM (AL R sm) (fC R sm (List.take x.2.2.1.toNat (riseF sm)) x_1 (List.take (x_2.1 + (1 : Int)).toNat (readsF R x_1))) ∧ x_2.2.2.2.1 = (↑(AL R sm).length : Int)) ∧ ((↑(readsF R x_1).length : Int) - (x_2.1 + (1 : Int))).toNat < ((↑(readsF R x_1).length : Int) - x_2.1).toNat) ∧ (mHas x_2.2.2.1 x_3 = false → ((-9223372036854775808 : Int) ≤ x_2.1 + (1 : Int) ∧ x_2.1 + (1 : Int) ≤ (9223372036854775807 : Int)) ∧ (some (Obj.arr (0 : Nat) I x.1) = some (Obj.arr (0 : Nat) I x.1) ∧ True) ∧ ((0 : Int) ≤ x_2.1 + (1 : Int) ∧ x_2.1 + (1 : Int) ≤ (↑(readsF R x_1).length : Int) ∧ x_2.2.1 = R ∧ x_2.2.2.1 = mkM (AL R sm) (fC R sm (List.take x.2.2.1.toNat (riseF sm)) x_1 (List.take (x_2.1 + (1 : Int)).toNat (readsF R x_1))) ∧ x_2.2.2.2.1 = (↑(AL R sm).length : Int)) ∧ ((↑(readsF R x_1).length : Int) - (x_2.1 + (1 : Int))).toNat < ((↑(readsF R x_1).length : Int) - x_2.1).toNat)) ∧ (decide (x_2.1 < (↑(readsF R x_1).length : Int)) = false → ((-9223372036854775808 : Int) ≤ x_1 ∧ x_1 ≤ (9223372036854775807 : Int)) ∧ (decide (mGet x_2.2.2.1 x_1 = (0 : Int)) = true → ((x.1.length + (1 : Nat)) * (8 : Nat) ≤ (140737488355328 : Nat) ∧ x.1.length + (1 : Nat) ≤ (4611686018427387904 : Nat)) ∧ ((-9223372036854775808 : Int) ≤ x.2.2.1 + (1 : Int) ∧ x.2.2.1 + (1 : Int) ≤ (9223372036854775807 : Int)) ∧ True ∧ ((0 : Int) ≤ x.2.2.1 + (1 : Int) ∧ x.2.2.1 + (1 : Int) ≤ (↑(riseF sm).length : Int) ∧ x.2.1 = riseF sm ∧ x.1 ++ [x_1] = rdyB R sm (List.take (x.2.2.1 + (1 : Int)).toNat (riseF sm)) ∧ x_2.2.1 = R ∧ x_2.2.2.1 = mkM (AL R sm) (fB R sm (List.take (x.2.2.1 + (1 : Int)).toNat (riseF sm))) ∧ x_2.2.2.2.1 = (↑(AL R sm).length : Int)) ∧ ((↑(riseF sm).length : Int) - (x.2.2.1 + (1 : Int))).toNat < ((↑(riseF sm).length : Int) - x.2.2.1).toNat) ∧ (decide (mGet x_2.2.2.1 x_1 = (0 : Int)) = false → ((-9223372036854775808 : Int) ≤ x.2.2.1 + (1 : Int) ∧ x.2.2.1 + (1 : Int) ≤ (9223372036854775807 : Int)) ∧ True ∧ ((0 : Int) ≤ x.2.2.1 + (1 : Int) ∧ x.2.2.1 + (1 : Int) ≤ (↑(riseF sm).length : Int) ∧ x.2.1 = riseF sm ∧ x.1 = rdyB R sm (List.take (x.2.2.1 + (1 : Int)).toNat (riseF sm)) ∧ x_2.2.1 = R ∧ x_2.2.2.1 = mkM (AL R sm) (fB R sm (List.take (x.2.2.1 + (1 : Int)).toNat (riseF sm))) ∧ x_2.2.2.2.1 = (↑(AL R sm).length : Int)) ∧ ((↑(riseF sm).length : Int) - (x.2.2.1 + (1 : Int))).toNat < ((↑(riseF sm).length : Int) - x.2.2.1).toNat)))) ∧ (decide (x.2.2.1 < (↑(Lib.compact (sm.mergeSort fun x y => decide (x ≤ y))).length : Int)) = false → True ∧ ((), x.1, x.2.2.2.1, x.2.2.2.2.1, x.2.2.2.2.2.1, ()) = ((), rdyB R sm (riseF sm), R, mkM (AL R sm) (fB R sm (riseF sm)), (↑(AL R sm).length : Int), ())))
theorem g_begin_eq (R : GI) (sm : List Int) : CondO (env_begin R sm) Try.f70 [.fopq .graph R, .list .tmp (.int .i64) sm] [] [none, none] ann_begin ((), rdyB R sm (riseF sm), R, mkM (AL R sm) (fB R sm (riseF sm)), ((AL R sm).length : Int), ()) = g_begin_vc R sm := by kernel_rfl
theorem g_begin_ok (R : GI) (sm : List Int) (h : GOk R ∧ sm.length ≤ 1000000 ∧ ∀ x ∈ sm, -9223372036854775808 ≤ x ∧ x ≤ 9223372036854775807) : g_begin_vc R sm := by
  unfold g_begin_vc
  simp only [decide_eq_true_eq, decide_eq_false_iff_not, Bool.not_eq_true', Bool.not_eq_false', Bool.not_true, Bool.not_false]
  obtain ⟨hG, hl, hb⟩ := h
  have hR := hG.1
  have hc : Lib.compact (sm.mergeSort fun x y => decide (x ≤ y)) = riseF sm := compact_rise sm
  have hms : (sm.mergeSort fun x y => decide (x ≤ y)).length = sm.length := List.length_mergeSort _
  have hrl := rise_len sm
  have hal := al_len R sm
  rw [hc]
  refine ⟨⟨trivial, by omega, by omega, trivial, ?_, trivial⟩, fun x ⟨a1, a2, a3, a4, a5⟩ => ⟨fun b1 => ⟨⟨a1, b1⟩, fun v hv => ?_⟩, fun b1 => ⟨trivial, by omega, by omega, ⟨trivial, by omega, by omega, by simp, rfl, a3, ?_, ?_⟩, ?_⟩⟩⟩
  · have : AL R (List.take (Int.toNat 0) sm) = [] := by
      rw [show List.take (Int.toNat 0) sm = [] from rfl]
      exact up_ext (all_up _ _) List.Pairwise.nil fun x => by rw [mem_all]; simp
    rw [this]
    rfl
  · have hs : sm.take (x.1 + 1).toNat = sm.take x.1.toNat ++ [v] := by
      rw [show (x.1 + 1).toNat = x.1.toNat + 1 by omega, take_snoc hv]
    have hL : x.2.2.1.length ≤ 20000 := by rw [a4, mkM_len]; have := al_len R (sm.take x.1.toNat); omega
    have skip : ¬ Dom R.length v → x.2.2.1 = mkM (AL R (sm.take (x.1 + 1).toNat)) fun _ => 0 := fun hd => by rw [hs, a4, al_snoc, if_neg hd]
    refine ⟨fun c1 => ⟨trivial, fun c2 => ⟨⟨by omega, by omega, by omega⟩, by omega, trivial, ⟨by omega, by omega, a3, ?_, a5⟩, by omega⟩, fun c2 => ⟨by omega, trivial, ⟨by omega, by omega, a3, skip fun hd => c2 hd.2, a5⟩, by omega⟩⟩, fun c1 => ⟨by omega, trivial, ⟨by omega, by omega, a3, skip fun hd => c1 hd.1, a5⟩, by omega⟩⟩
    rw [hs, a4, mPut_mk (all_up _ _), al_snoc, if_pos ⟨c1, c2⟩]
    exact mkM_congr fun u _ => by split <;> rfl
  · have e : sm.take x.1.toNat = sm := List.take_of_length_le (by omega)
    rw [a4, e]
    exact mkM_congr fun u _ => rfl
  · have e : sm.take x.1.toNat = sm := List.take_of_length_le (by omega)
    rw [a4, e, mkM_len]
  · rintro x ⟨b1, b2, b3, b4, b5, b6, b7⟩
    rw [b3]
    refine ⟨fun c1 => ⟨⟨b1, c1⟩, fun v hv => ?_⟩, fun c1 => ?_⟩
    · have hs : (riseF sm).take (x.2.2.1 + 1).toNat = (riseF sm).take x.2.2.1.toNat ++ [v] := by
        rw [show (x.2.2.1 + 1).toNat = x.2.2.1.toNat + 1 by omega, take_snoc hv]
      have hn := up_notin (rise_up sm) hv
      have hvb := hb v (mem_rise.1 (List.mem_of_getElem? hv))
      rw [b6, mHas_mk]
      refine ⟨hvb, fun d1 => ⟨by omega, trivial, ⟨by omega, by omega, rfl, ?_, b5, ?_, b7⟩, by omega⟩, fun d1 => ⟨trivial, ⟨⟨trivial, trivial⟩, by omega, by omega, b5, begin_in _ _ _ _ hn, b7⟩, ?_⟩⟩
      · rw [hs, rdyB_snoc, d1, b4]
        simp
      · rw [hs]
        exact begin_skip _ _ _ _ (fun h => by rw [List.contains_iff_mem.2 h] at d1; cases d1)
      · rintro y ⟨e1, e2, e3, e4, e5⟩
        have hva : v ∈ AL R sm := List.contains_iff_mem.1 d1
        obtain ⟨r1, r2⟩ := reads_at hG v
        have hyl : y.2.2.1.length ≤ 20000 := by rw [e4, mkM_len]; omega
        have hg : mGet y.2.2.1 v = (cntP (AL R sm) ((readsF R v).take y.1.toNat) : Nat) := by rw [e4, fC_at _ _ _ _ _ hva]
        have hgl : cntP (AL R sm) ((readsF R v).take y.1.toNat) ≤ 20000 := Nat.le_trans (cntP_le _ _) (by rw [List.length_take]; omega)
        rw [hg]
        refine ⟨fun f1 => ⟨⟨e1, f1⟩, fun w hw => ?_⟩, fun f1 => ⟨hvb, ?_⟩⟩
        · have hs2 : (readsF R v).take (y.1 + 1).toNat = (readsF R v).take y.1.toNat ++ [w] := by
            rw [show (y.1 + 1).toNat = y.1.toNat + 1 by omega, take_snoc hw]
          have hwd := r2 w (List.mem_of_getElem? hw)
          have w1 := hwd.1
          have w2 := hwd.2
          have hhas : mHas y.2.2.1 w = (AL R sm).contains w := by rw [e4, mHas_mk]
          rw [hhas]
          refine ⟨by omega, fun g1 => ⟨hvb, by omega, ⟨hvb, by omega, by omega⟩, by omega, ⟨trivial, trivial⟩, ⟨by omega, by omega, e3, ?_, e5⟩, by omega⟩, fun g1 => ⟨by omega, ⟨trivial, trivial⟩, ⟨by omega, by omega, e3, ?_, e5⟩, by omega⟩⟩
          · rw [hs2, e4, fC_put _ _ _ _ _ hva g1]
          · rw [hs2, e4]
            exact fC_skip _ _ _ _ _ g1
        · have e : (readsF R v).take y.1.toNat = readsF R v := List.take_of_length_le (by omega)
          rw [e] at e4 ⊢
          have hcb : (cntP (AL R sm) (readsF R v) : Int) = cB R sm v := by rw [cB, cnt_nil]
          have hxl : x.1.length ≤ 1000000 := by
            rw [b4]
            exact Nat.le_trans (rdyB_len _ _ _) (by rw [List.length_take]; omega)
          rw [hcb]
          refine ⟨fun g1 => ⟨by omega, by omega, trivial, ⟨by omega, by omega, rfl, ?_, e3, ?_, e5⟩, by omega⟩, fun g1 => ⟨by omega, trivial, ⟨by omega, by omega, rfl, ?_, e3, ?_, e5⟩, by omega⟩⟩
          · rw [hs, rdyB_snoc, d1, decide_eq_true g1, b4]
            rfl
          · rw [hs, e4, begin_out]
          · rw [hs, rdyB_snoc, decide_eq_false g1, Bool.and_false, b4]
            simp
          · rw [hs, e4, begin_out]
    · have e : (riseF sm).take x.2.2.1.toNat = riseF sm := List.take_of_length_le (by omega)
      rw [e] at b4 b6
      exact ⟨trivial, by rw [b4, b5, b6, b7]⟩
set_option maxRecDepth 20000
theorem begin_upd (R : GI) (sm : List Int) (h : GOk R ∧ sm.length ≤ 1000000 ∧ ∀ x ∈ sm, -9223372036854775808 ≤ x ∧ x ≤ 9223372036854775807) : UpdC Try.prog 70 [.fopq .graph R, .list .tmp (.int .i64) sm] [] (.tuple [.ptr 21 0, .slc 106 0 none]) [(106, .arr 0 (.int .i64) (rdyB R sm (riseF sm))), (19, .opq .mii (mkM (AL R sm) (fB R sm (riseF sm)))), (21, .box [.fopq .graph R, .oref 19, .int .i64 ((AL R sm).length : Int)])] :=
  by have k := UpdC.of_cond (g_begin_eq R sm) (g_begin_ok R sm h) (specs_ok rfl [sp_nodes, sp_reads] [so_values.upd, so_sorted.upd, sp_compact] rfl rfl) mixed Try.func70; exact k
noncomputable def q_begin (R : GI) (sm : List Int) : Prop × V × Store := (GOk R ∧ sm.length ≤ 1000000 ∧ ∀ x ∈ sm, -9223372036854775808 ≤ x ∧ x ≤ 9223372036854775807, .tuple [.ptr 21 0, .slc 106 0 none], [(106, .arr 0 (.int .i64) (rdyB R sm (riseF sm))), (19, .opq .mii (mkM (AL R sm) (fB R sm (riseF sm)))), (21, .box [.fopq .graph R, .oref 19, .int .i64 ((AL R sm).length : Int)])])
noncomputable def so_begin : OSpec Try.prog where
 f := 70
 run := fun args σ => match args, σ with
  | [.fopq .graph R, v1], [] => (asL (.int .i64) v1 : Option (List Int)).bind fun sm => some (q_begin R sm)
  | _, _ => none
 ok := fun args σ pre r σ' h hp => by
  try dsimp only at h
  split at h
  · rename_i R v1
    obtain ⟨sm, h1, h⟩ := Option.bind_eq_some_iff.1 h
    exact of_qo h hp fun h => (begin_upd R sm h).weak (.cons (.refl _) (.cons (asL_weak h1) .nil))
  · cases h
theorem fB_end (R : GI) (sm : List Int) : mkM (AL R sm) (fB R sm (riseF sm)) = mkM (AL R sm) fun u => (cntO (readsF R) (AL R sm) [] u : Nat) := mkM_congr fun v hv => by
  rw [fB, if_pos (List.contains_iff_mem.2 (mem_rise.2 (mem_all.1 hv).2)), cB]
theorem rdyB_end (R : GI) (sm : List Int) : rdyB R sm (riseF sm) = (AL R sm).filter fun v => decide (cntO (readsF R) (AL R sm) [] v = 0) := by
  refine up_ext (List.Pairwise.filter _ (rise_up sm)) (List.Pairwise.filter _ (all_up _ _)) fun x => ?_
  unfold rdyB
  rw [List.mem_filter, List.mem_filter, Bool.and_eq_true, List.contains_iff_mem, decide_eq_true_eq, decide_eq_true_eq, mem_rise, cB]
  exact ⟨fun ⟨_, h2, h3⟩ => ⟨h2, by omega⟩, fun ⟨h2, h3⟩ => ⟨(mem_all.1 h2).2, h2, by omega⟩⟩
end Go.Proofs.Ytojflfogjkajaaa.Od
end
section
namespace Go.Proofs.Ytojflfogjkajaaa.Od
open Go.Vm Go.Proofs.Ytojflfogjkajaaa.Gr Go.Proofs.Ytojflfogjkajaaa.Rc
abbrev CN (R : GI) (sm out : List Int) (u : Int) : Int := (cntO (readsF R) (AL R sm) out u : Nat)
def ordS (R : GI) (sm : List Int) : Option (List Int) := ordR (readsF R) (AL R sm) []
def ordA (R : GI) (sm : List Int) : List Int := match ordS R sm with | some o => o | none => []
def ordE (R : GI) (sm : List Int) : Int := match ordS R sm with | some _ => 0 | none => 26
abbrev fsts (row : List Th) : List Int := row.map fun x => x.1
def OInv (R : GI) (sm ready out : List Int) (R' : GI) (W : List (Int × Int)) (left : Int) (row : List Th) (w : Int) : Prop :=
  R' = R ∧ Os (readsF R) (AL R sm) out ∧ W = mkM (AL R sm) (CN R sm out) ∧ left = (AL R sm).length - out.length ∧ Hp row ∧ Pend (readsF R) (AL R sm) out (ready ++ fsts row) ∧ w = out.length + row.length ∧ ordR (readsF R) (AL R sm) out = ordS R sm
theorem gd_of {R : GI} (h : GOk R) : Gd (readsF R) (rdsF R) where
  nd v := by
    unfold readsF
    split
    · rename_i hv
      have hi : v.toNat < R.length := by omega
      have hg : R[v.toNat]? = some (R.getD v.toNat []) := by
        rw [List.getD_eq_getElem?_getD, List.getElem?_eq_getElem hi]
        rfl
      exact (h.2 _ _ hg).1
    · exact List.nodup_nil
  ne v := by
    unfold readsF
    split
    · rename_i hv
      have hi : v.toNat < R.length := by omega
      have hg : R[v.toNat]? = some (R.getD v.toNat []) := by
        rw [List.getD_eq_getElem?_getD, List.getElem?_eq_getElem hi]
        rfl
      intro hm
      exact ((h.2 _ _ hg).2 v hm).2.2 (by omega)
    · simp
  rn v := (rds_up h v).nodup
  iff u v := ⟨fun hm => rds_reads h v u hm, fun hm => reads_rds h u v hm⟩
theorem take_new (R : GI) (sm out : List Int) (v : Int) : takeR (rdsF R v) (mkM (AL R sm) (CN R sm out)) = newR (readsF R) (rdsF R) (AL R sm) out v := by
  unfold takeR newR
  refine List.filter_congr fun u _ => ?_
  rw [mHas_mk, mGet_mk]
  by_cases hu : u ∈ AL R sm
  · rw [List.contains_iff_mem.2 hu, decide_eq_true hu, if_pos hu]
    congr 1
    exact decide_eq_decide.2 ⟨fun h => by simpa [CN] using Int.ofNat_inj.1 h, fun h => by rw [CN, h]; rfl⟩
  · rw [decide_eq_false hu, show (AL R sm).contains u = false by rw [Bool.eq_false_iff]; exact fun h => hu (List.contains_iff_mem.1 h)]
    rfl
theorem take_cnt {R : GI} (hG : GOk R) {sm out : List Int} {v : Int} (hv : v ∈ AL R sm) (ho : v ∉ out) : takeW (rdsF R v) (mkM (AL R sm) (CN R sm out)) = mkM (AL R sm) (CN R sm (out ++ [v])) := by
  rw [takeW_mk]
  refine mkM_congr fun u _ => ?_
  have h1 := cnt_snoc (gd_of hG) hv ho u
  have h2 := (gd_of hG).iff u v
  unfold CN
  rw [h1]
  by_cases h3 : v ∈ readsF R u
  · rw [if_pos h3, if_pos (List.contains_iff_mem.2 (h2.2 h3))]
    push_cast
    omega
  · rw [if_neg h3, if_neg (fun h => h3 (h2.1 (List.contains_iff_mem.1 h)))]
    push_cast
    omega
theorem cn_ok {R : GI} (hG : GOk R) (sm out : List Int) : MOk (mkM (AL R sm) (CN R sm out)) := by
  refine ⟨mkM_srt (all_up _ _) _, ?_, fun u => ?_⟩
  · rw [mkM_len]
    have := al_len R sm
    have := hG.1
    omega
  · rw [mGet_mk]
    split
    · have h1 := (reads_at hG u).1
      have h2 : cntO (readsF R) (AL R sm) out u ≤ (readsF R u).length := List.length_filter_le _ _
      unfold CN
      exact ⟨by omega, by omega⟩
    · exact ⟨by omega, by omega⟩
theorem count_fst (row : List Th) (u : Int) : (fsts row).count u = cx u row := (cx_count row u).symm
theorem top_least {row : List Th} (h : Hp row) {u : Int} (hu : u ∈ fsts row) : (at0 row 0).1 ≤ u := by
  obtain ⟨th, h1, rfl⟩ := List.mem_map.1 hu
  obtain ⟨i, hi, e⟩ := List.getElem_of_mem h1
  have h2 := h.least i hi
  have e2 : at0 row i = th := by
    unfold at0
    rw [List.getD_eq_getElem?_getD, List.getElem?_eq_getElem hi, e]
    rfl
  rw [e2] at h2
  show (at0 row 0).1 ≤ th.1
  exact Int.not_lt.1 fun h3 => h2 (.inl h3)
theorem OInv.start {R : GI} (sm : List Int) : OInv R sm (rdyB R sm (riseF sm)) [] R (mkM (AL R sm) (fB R sm (riseF sm))) (AL R sm).length [] 0 := by
  refine ⟨rfl, Os.nil, fB_end R sm, by simp, fun i _ h => by simp at h, ?_, rfl, rfl⟩
  rw [rdyB_end]
  show Pend _ _ _ (_ ++ [])
  rw [List.append_nil]
  exact Pend.begin (all_up _ _).nodup
theorem OInv.len {R : GI} {sm ready out : List Int} {R' : GI} {W : List (Int × Int)} {left : Int} {row : List Th} {w : Int} (h : OInv R sm ready out R' W left row w) : ready.length + row.length + out.length ≤ (AL R sm).length := by
  have := h.2.2.2.2.2.1.le h.2.1
  rw [List.length_append, List.length_map] at this
  exact this
theorem OInv.stop {R : GI} {sm ready out : List Int} {R' : GI} {W : List (Int × Int)} {left : Int} {row row' : List Th} {w : Int} (h : OInv R sm ready out R' W left row w) (hc : ∀ u, cx u row' = cx u row + ready.count u) (h0 : row' = []) :
    (0 < left → ordS R sm = none) ∧ (¬ 0 < left → ordS R sm = some out) := by
  obtain ⟨h1, h2, h3, h4, h5, h6, h7, h8⟩ := h
  have hP : Pend (readsF R) (AL R sm) out [] := h6.perm fun u => by
    have := hc u
    rw [h0] at this
    have e : cx u [] = 0 := rfl
    rw [List.count_append, count_fst]
    show 0 = _
    omega
  have hs := hP.stuck rfl
  rw [h8] at hs
  exact ⟨fun h => by rw [hs, if_neg (by omega)], fun h => by rw [hs, if_pos (by omega)]⟩
theorem OInv.next {R : GI} (hG : GOk R) {sm ready out : List Int} {R' : GI} {W : List (Int × Int)} {left : Int} {row row' : List Th} {w w' : Int} (h : OInv R sm ready out R' W left row w) (hp : Hp row') (hc : ∀ u, cx u row' = cx u row + ready.count u) (h0 : 0 < row'.length) (hw : w' = out.length + row'.length) :
    OInv R sm (takeR (rdsF R' (at0 row' 0).1) W) (out ++ [(at0 row' 0).1]) R' (takeW (rdsF R' (at0 row' 0).1) W) (left - 1) (popF row') w' := by
  obtain ⟨h1, h2, h3, h4, h5, h6, h7, h8⟩ := h
  subst h1
  obtain ⟨p1, p2, p3⟩ := pop_ok hp h0
  generalize hv : (at0 row' 0).1 = v at p3 ⊢
  have hcP : ∀ u, (v :: fsts (popF row')).count u = (ready ++ fsts row).count u := fun u => by
    rw [count_cons', List.count_append, count_fst, count_fst]
    have := p3 u
    have := hc u
    omega
  have hP := h6.perm hcP
  have hmin : ∀ u ∈ v :: fsts (popF row'), v ≤ u := fun u hu => by
    have : u ∈ fsts row' := by
      rw [← List.count_pos_iff, count_fst, hc u]
      have := List.count_pos_iff.2 hu
      rw [hcP u, List.count_append, count_fst] at this
      omega
    have := top_least hp this
    rwa [hv] at this
  obtain ⟨hC, hS⟩ := hP.step (gd_of hG) h2
  have hn := hP.next (all_up _ _) h2 (List.mem_cons_self ..) hmin
  refine ⟨rfl, h2.snoc hC, ?_, ?_, p1, ?_, ?_, ?_⟩
  · rw [h3, take_cnt hG hC.1 hC.2.1]
  · rw [List.length_append, List.length_singleton, h4]
    push_cast
    omega
  · rw [h3, take_new]
    exact hS.perm fun u => by rw [List.count_append, List.count_append, Nat.add_comm]
  · rw [hw, p2, List.length_append, List.length_singleton]
    push_cast
    omega
  · rw [← hn, h8]
noncomputable def env_order (R : GI) (sm : List Int) : Env where
  P := Try.prog
  ty := tys2
  upd := updsOf [so_begin.upd, so_pnew.upd, so_push.upd, so_pop.upd, so_take.upd]
  heads := fun
    | 5 => .some { slots := [(7, .list .part I), (11, .slc 47 I)], boxes := [(100002, [.fop .graph, .opq 100001 .mii, .int .i64]), (100301, [.slc 100300 ThT, .clo 72 [], .int .i64])], drop := [16, 19, 21], inv := fun _ (x : List Int × List Int × GI × List (Int × Int) × Int × List Th × Unit × Int × Unit) => OInv R sm x.1 x.2.1 x.2.2.1 x.2.2.2.1 x.2.2.2.2.1 x.2.2.2.2.2.1 x.2.2.2.2.2.2.2.1, measure := fun _ (x : List Int × List Int × GI × List (Int × Int) × Int × List Th × Unit × Int × Unit) => (AL R sm).length - x.2.1.length }
    | 6 => .some { slots := [(29, .int .i64)], boxes := [(100301, [.slc 100300 ThT, .clo 72 [], .int .i64])], keep := [100002, 100001, 47], inv := fun st (x : Int × List Th × Unit × Int × Unit) => 0 ≤ x.1 ∧ x.1 ≤ (st.lst 7).length ∧ Hp x.2.1 ∧ (∀ v, cx v x.2.1 = cx v (st.ths 100300) + ((st.lst 7).take x.1.toNat).count v) ∧ x.2.1.length = (st.ths 100300).length + x.1.toNat ∧ x.2.2.2.1 = (st.ints 47).length + x.2.1.length, measure := fun st (x : Int × List Th × Unit × Int × Unit) => ((st.lst 7).length - x.1).toNat }
    | _ => .none
def g_order_vc (R : GI) (sm : List Int) : Prop :=
  ((List.length R ≤ (20000 : Nat) ∧ ∀ (v : Nat) (l : List Int), R[v]? = some l → l.Nodup ∧ ∀ (x : Int), x ∈ l → (0 : Int) ≤ x ∧ x < (↑(List.length R) : Int) ∧ x ≠ (↑v : Int)) ∧ sm.length ≤ (1000000 : Nat) ∧ ∀ (x : Int), x ∈ sm → (-9223372036854775808 : Int) ≤ x ∧ x ≤ (9223372036854775807 : Int)) ∧ True ∧ (True ∧ OInv R sm (rdyB R sm (riseF sm)) [] R (mkM (AL R sm) (fB R sm (riseF sm))) (↑(AL R sm).length : Int) [] (0 : Int)) ∧ ∀ (x : List Int × List Int × List (List Int) × List (Int × Int) × Int × List (Int × Int) × Unit × Int × Unit), OInv R sm x.1 x.2.1 x.2.2.1 x.2.2.2.1 x.2.2.2.2.1 x.2.2.2.2.2.1 x.2.2.2.2.2.2.2.1 → ((some (Obj.box [V.fopq OK.graph x.2.2.1, V.oref (100001 : Nat), V.int IntKind.i64 x.2.2.2.2.1]) = some (Obj.box [V.fopq OK.graph x.2.2.1, V.oref (100001 : Nat), V.int IntKind.i64 x.2.2.2.2.1]) ∧ some (Obj.opq OK.mii x.2.2.2.1) = some (Obj.opq OK.mii x.2.2.2.1) ∧ some (Obj.arr (0 : Nat) I x.2.1) = some (Obj.arr (0 : Nat) I x.2.1) ∧ True) ∧ (0 : Int) ≤ (0 : Int) ∧ (0 : Int) ≤ (↑x.1.length : Int) ∧ Hp x.2.2.2.2.2.1 ∧ (∀ (v : Int), cx v x.2.2.2.2.2.1 = cx v x.2.2.2.2.2.1 + List.count v (List.take (Int.toNat (0 : Int)) x.1)) ∧ x.2.2.2.2.2.1.length = x.2.2.2.2.2.1.length + Int.toNat (0 : Int) ∧ x.2.2.2.2.2.2.2.1 = (↑x.2.1.length : Int) + (↑x.2.2.2.2.2.1.length : Int)) ∧ ∀ (x_1 : Int × List (Int × Int) × Unit × Int × Unit), (0 : Int) ≤ x_1.1 ∧ x_1.1 ≤ (↑x.1.length : Int) ∧ Hp x_1.2.1 ∧ (∀ (v : Int), cx v x_1.2.1 = cx v x.2.2.2.2.2.1 + List.count v (List.take x_1.1.toNat x.1)) ∧ x_1.2.1.length = x.2.2.2.2.2.1.length + x_1.1.toNat ∧ x_1.2.2.2.1 = (↑x.2.1.length : Int) + (↑x_1.2.1.length : Int) → (decide (x_1.1 < (↑x.1.length : Int)) = true → ((0 : Int) ≤ x_1.1 ∧ x_1.1 < (↑x.1.length : Int)) ∧ ∀ (x_2 : Int), x.1[x_1.1.toNat]? = some x_2 → (x_1.2.1.length < (20000 : Nat) ∧ (0 : Int) ≤ x_1.2.2.2.1 ∧ x_1.2.2.2.1 ≤ (1000000 : Int)) ∧ ((-9223372036854775808 : Int) ≤ x_1.1 + (1 : Int) ∧ x_1.1 + (1 : Int) ≤ (9223372036854775807 : Int)) ∧ (some (Obj.box [V.fopq OK.graph x.2.2.1, V.oref (100001 : Nat), V.int IntKind.i64 x.2.2.2.2.1]) = some (Obj.box [V.fopq OK.graph x.2.2.1, V.oref (100001 : Nat), V.int IntKind.i64 x.2.2.2.2.1]) ∧ some (Obj.opq OK.mii x.2.2.2.1) = some (Obj.opq OK.mii x.2.2.2.1) ∧ some (Obj.arr (0 : Nat) I x.2.1) = some (Obj.arr (0 : Nat) I x.2.1) ∧ True) ∧ ((0 : Int) ≤ x_1.1 + (1 : Int) ∧ x_1.1 + (1 : Int) ≤ (↑x.1.length : Int) ∧ Hp (pushF x_1.2.1 x_2 x_1.2.2.2.1) ∧ (∀ (v : Int), cx v (pushF x_1.2.1 x_2 x_1.2.2.2.1) = cx v x.2.2.2.2.2.1 + List.count v (List.take (x_1.1 + (1 : Int)).toNat x.1)) ∧ (pushF x_1.2.1 x_2 x_1.2.2.2.1).length = x.2.2.2.2.2.1.length + (x_1.1 + (1 : Int)).toNat ∧ x_1.2.2.2.1 + (1 : Int) = (↑x.2.1.length : Int) + (↑(pushF x_1.2.1 x_2 x_1.2.2.2.1).length : Int)) ∧ ((↑x.1.length : Int) - (x_1.1 + (1 : Int))).toNat < ((↑x.1.length : Int) - x_1.1).toNat) ∧ (decide (x_1.1 < (↑x.1.length : Int)) = false → (x_1.2.1.length < (20001 : Nat) ∧ (0 : Int) ≤ x_1.2.2.2.1 ∧ x_1.2.2.2.1 ≤ (1000000 : Int)) ∧ ((!decide ((0 : Nat) < x_1.2.1.length)) = true → (decide ((0 : Int) < x.2.2.2.2.1) = true → ([], (26 : Int), ()) = (ordA R sm, ordE R sm, ())) ∧ (decide ((0 : Int) < x.2.2.2.2.1) = false → (x.2.1, (0 : Int), ()) = (ordA R sm, ordE R sm, ()))) ∧ ((!decide ((0 : Nat) < x_1.2.1.length)) = false → ((x.2.1.length + (1 : Nat)) * (8 : Nat) ≤ (140737488355328 : Nat) ∧ x.2.1.length + (1 : Nat) ≤ (4611686018427387904 : Nat)) ∧ ((x.2.2.1.length ≤ (20000 : Nat) ∧ ∀ (v : Nat) (l : List Int), x.2.2.1[v]? = some l → l.Nodup ∧ ∀ (x_2 : Int), x_2 ∈ l → (0 : Int) ≤ x_2 ∧ x_2 < (↑x.2.2.1.length : Int) ∧ x_2 ≠ (↑v : Int)) ∧ MOk x.2.2.2.1 ∧ (-1000000 : Int) ≤ x.2.2.2.2.1 ∧ x.2.2.2.2.1 ≤ (1000000 : Int)) ∧ True ∧ OInv R sm (takeR (rdsF x.2.2.1 (at0 x_1.2.1 (0 : Nat)).1) x.2.2.2.1) (x.2.1 ++ [(at0 x_1.2.1 (0 : Nat)).1]) x.2.2.1 (takeW (rdsF x.2.2.1 (at0 x_1.2.1 (0 : Nat)).1) x.2.2.2.1) (x.2.2.2.2.1 - (1 : Int)) (popF x_1.2.1) x_1.2.2.2.1 ∧ (AL R sm).length - (x.2.1 ++ [(at0 x_1.2.1 (0 : Nat)).1]).length < (AL R sm).length - x.2.1.length))
theorem g_order_eq (R : GI) (sm : List Int) : Cond (env_order R sm) Try.f38 [.fopq .graph R, .list .tmp (.int .i64) sm] [.list .part I, .int .i64] (ordA R sm, ordE R sm, ()) = g_order_vc R sm := by kernel_rfl
theorem g_order_ok (R : GI) (sm : List Int) (h : GOk R ∧ sm.length ≤ 1000000 ∧ ∀ x ∈ sm, -9223372036854775808 ≤ x ∧ x ≤ 9223372036854775807) : g_order_vc R sm := by
  unfold g_order_vc
  simp only [decide_eq_true_eq, decide_eq_false_iff_not, Bool.not_eq_true', Bool.not_eq_false', Bool.not_true, Bool.not_false]
  obtain ⟨hG, hl, hb⟩ := h
  have hR := hG.1
  have hal := al_len R sm
  refine ⟨⟨hG, hl, hb⟩, trivial, ⟨trivial, OInv.start sm⟩, fun x hx => ⟨⟨⟨trivial, trivial, trivial, trivial⟩, by omega, by omega, hx.2.2.2.2.1, fun v => by simp, rfl, hx.2.2.2.2.2.2.1⟩, fun y ⟨b1, b2, b3, b4, b5, b6⟩ => ?_⟩⟩
  have hlen := hx.len
  refine ⟨fun c1 => ⟨⟨b1, c1⟩, fun v hv => ?_⟩, fun c1 => ?_⟩
  · obtain ⟨q1, q2⟩ := push_ok b3 v y.2.2.2.1
    have ql := push_len y.2.1 v y.2.2.2.1
    have hs : x.1.take (y.1 + 1).toNat = x.1.take y.1.toNat ++ [v] := by
      rw [show (y.1 + 1).toNat = y.1.toNat + 1 by omega, take_snoc hv]
    refine ⟨⟨by omega, by omega, by omega⟩, by omega, ⟨trivial, trivial, trivial, trivial⟩, ⟨by omega, by omega, q1, fun u => ?_, by omega, by omega⟩, by omega⟩
    have := b4 u
    have := q2 u
    have e : [v].count u = ind v u := by
      rw [count_cons']
      simp
    rw [hs, List.count_append, e]
    omega
  · have e : x.1.take y.1.toNat = x.1 := List.take_of_length_le (by omega)
    rw [e] at b4
    refine ⟨⟨by omega, by omega, by omega⟩, fun d1 => ?_, fun d1 => ?_⟩
    · have h0 : y.2.1 = [] := List.eq_nil_of_length_eq_zero (by omega)
      obtain ⟨s1, s2⟩ := hx.stop b4 h0
      exact ⟨fun e1 => by rw [ordA, ordE, s1 e1], fun e1 => by rw [ordA, ordE, s2 e1]⟩
    · have hn := hx.next hG b3 b4 d1 b6
      have ho := hn.2.1.le
      rw [List.length_append, List.length_singleton] at ho
      have hm : MOk x.2.2.2.1 := by
        rw [hx.2.2.1]
        exact cn_ok hG _ _
      have hl4 := hx.2.2.2.1
      refine ⟨by omega, ⟨?_, hm, by omega, by omega⟩, trivial, hn, ?_⟩
      · rw [hx.1]
        exact hG
      · rw [List.length_append, List.length_singleton]
        omega
set_option maxRecDepth 20000
theorem order_pure (R : GI) (sm : List Int) (h : GOk R ∧ sm.length ≤ 1000000 ∧ ∀ x ∈ sm, -9223372036854775808 ≤ x ∧ x ≤ 9223372036854775807) : Pure Try.prog 38 [.fopq .graph R, .list .tmp (.int .i64) sm] (.tuple [.list .part I (ordA R sm), .int .i64 (ordE R sm)]) :=
  by have k := Pure.of_cond (g_order_eq R sm) (g_order_ok R sm h) (specs_ok rfl [] [so_begin.upd, so_pnew.upd, so_push.upd, so_pop.upd, so_take.upd] rfl rfl) mixed Try.func38; exact k
noncomputable def q_order (R : GI) (sm : List Int) : Prop × V := (GOk R ∧ sm.length ≤ 1000000 ∧ ∀ x ∈ sm, -9223372036854775808 ≤ x ∧ x ≤ 9223372036854775807, (.tuple [.list .part I (ordA R sm), .int .i64 (ordE R sm)]))
noncomputable def sp_order : FSpec Try.prog where
 f := 38
 run := fun
  | [.fopq .graph R, v1] => (asL (.int .i64) v1 : Option (List Int)).bind fun sm => some (q_order R sm)
  | _ => none
 ok := fun args pre r h hp => by
  split at h
  · rename_i R v1
    obtain ⟨sm, h1, h⟩ := Option.bind_eq_some_iff.1 h
    exact of_q h hp fun h => (order_pure R sm h).weak (.cons (.refl _) (.cons (asL_weak h1) .nil))
  · cases h
end Go.Proofs.Ytojflfogjkajaaa.Od
end
