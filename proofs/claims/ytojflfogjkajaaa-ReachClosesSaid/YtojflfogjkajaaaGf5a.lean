/-
  graphs: as many edges from both sides; setting what is there.
-/
import Derived.Test.YtojflfogjkajaaaGf4
namespace Go.Proofs.Ytojflfogjkajaaa.Gr
open Go.Vm

theorem gok_setR {R : GI} {v : Int} {l : List Int} (h : GOk R) : GOk (setR R v l) := by
  unfold setR
  split
  · rename_i hm
    exact gok_set h hm
  · exact h
theorem setR_setG {R : GI} (h : 0 < R.length) (v : Int) (l : List Int) : setR R v l = setG R v l := by rw [setR, setG, may_eq h]
theorem setR_len (R : GI) (v : Int) (l : List Int) : (setR R v l).length = R.length := by
  unfold setR
  split
  · rw [List.length_set]
  · rfl
theorem gok_acts : ∀ (l : List Ac) (R : GI), GOk R → GOk (actsR R l)
  | [], _, h => h
  | x :: r, R, h => by
    by_cases h0 : 0 < R.length
    · rw [actsR, ← setR_setG h0]
      exact gok_acts r _ (gok_setR h)
    · rw [List.eq_nil_of_length_eq_zero (show R.length = 0 by omega), acts_nil]
      exact ⟨by simp, fun v l hl => by simp at hl⟩
theorem gok_new (m : Int) : GOk (newR m) := by
  unfold newR
  split
  · exact gok_none _ (by omega)
  · exact ⟨by simp, fun v l hl => by simp at hl⟩
def InA (m : Int) (R : GI) : Prop := GOk R ∧ 1 ≤ m ∧ R.length = m
theorem ina_new {m : Int} (h : newE m = 0) : InA m (newR m) := by
  unfold newE at h
  split at h
  · rename_i hm
    exact ⟨gok_new m, hm.1, by rw [newR_len, if_pos hm]; omega⟩
  · cases h
theorem ina_set {m : Int} {R : GI} (h : InA m R) (v : Int) (l : List Int) : InA m (setR R v l) := ⟨gok_setR h.1, h.2.1, by rw [setR_len]; exact h.2.2⟩
theorem reads_at {R : GI} {v : Int} (hv : 0 ≤ v ∧ v < R.length) : R[v.toNat]? = some (readsF R v) := by
  rw [readsF, if_pos hv, List.getD_eq_getElem?_getD, List.getElem?_eq_getElem (show v.toNat < R.length by omega)]
  rfl
theorem self_may {R : GI} {v : Int} (h : GOk R) (hv : 0 ≤ v ∧ v < R.length) : mayF R v (readsF R v) = 0 := by
  obtain ⟨h1, h2⟩ := h.2 v.toNat _ (reads_at hv)
  rw [may_eq (by omega)]
  unfold mayG
  have e1 : nodeP R.length v = true := by simp [nodeP, hv]
  have e2 : (readsF R v).all (nodeP R.length) = true := by
    rw [List.all_eq_true]
    intro x hx
    have := h2 x hx
    simp [nodeP]
    omega
  rw [e1, e2, if_neg (by decide), if_neg, if_neg (fun hn => hn h1)]
  intro hc
  have := h2 v (List.contains_iff_mem.1 hc)
  omega
theorem news_self (l : List Int) : newsF l l = 0 := by
  unfold newsF
  rw [List.filter_eq_nil_iff.2]
  · rfl
  · intro x hx
    simp [hx]
theorem self_set {R : GI} {v : Int} (h : GOk R) (hv : 0 ≤ v ∧ v < R.length) : setR R v (readsF R v) = R ∧ addedF R v (readsF R v) = 0 ∧ droppedF R v (readsF R v) = 0 := by
  have hm := self_may h hv
  have e : R.getD v.toNat [] = readsF R v := by rw [readsF, if_pos hv]
  refine ⟨?_, ?_, ?_⟩
  · rw [setR, if_pos hm]
    obtain ⟨hk, e⟩ := List.getElem?_eq_some_iff.1 (reads_at hv)
    rw [← e, List.set_getElem_self]
  · rw [addedF, if_pos hm, e, news_self]
  · rw [droppedF, if_pos hm, e, news_self]
theorem has_both {R : GI} {v w : Int} (hv : 0 ≤ v ∧ v < R.length) (hw : 0 ≤ w ∧ w < R.length) : (readsF R v).contains w = (rdsF R w).contains v := by
  rw [rdsF, if_pos hw, Bool.eq_iff_iff, List.contains_iff_mem, List.contains_iff_mem, mem_readers, Int.toNat_of_nonneg hw.1, readsF, if_pos hv]
  constructor
  · intro h
    exact ⟨v.toNat, by omega, by omega, h⟩
  · rintro ⟨u, h1, h2, h3⟩
    rw [show v.toNat = u by omega]
    exact h3
theorem has_self {R : GI} {v : Int} (h : GOk R) (hv : 0 ≤ v ∧ v < R.length) : (readsF R v).contains v = false := by
  rw [← Bool.not_eq_true]
  intro hc
  have := (h.2 v.toNat _ (reads_at hv)).2 v (List.contains_iff_mem.1 hc)
  omega

def thG (R : GI) (n : Nat) : Int := ((List.range n).map fun v => ((R.getD v []).length : Int)).sum
def bkG (R : GI) (n : Nat) : Int := ((List.range n).map fun v => ((readersF R v).length : Int)).sum
theorem thG_succ (R : GI) (n : Nat) : thG R (n + 1) = thG R n + (R.getD n []).length := by
  unfold thG
  rw [List.range_succ, List.map_append, List.sum_append]
  simp
theorem bkG_succ (R : GI) (n : Nat) : bkG R (n + 1) = bkG R n + (readersF R n).length := by
  unfold bkG
  rw [List.range_succ, List.map_append, List.sum_append]
  simp
theorem thG_take (R : GI) : ∀ n, n ≤ R.length → thG R n = edgesF (R.take n)
  | 0, _ => by simp [thG, edgesF]
  | n + 1, h => by
    rw [thG_succ, thG_take R n (by omega), List.take_add_one, List.getElem?_eq_getElem (show n < R.length by omega), List.getD_eq_getElem?_getD, List.getElem?_eq_getElem (show n < R.length by omega)]
    simp only [edgesF, List.map_append, List.sum_append, Option.getD_some, Option.toList_some, List.map_cons, List.map_nil, List.sum_cons, List.sum_nil]
    omega
theorem th_all (R : GI) : thG R R.length = edgesF R := by rw [thG_take R _ (Nat.le_refl _), List.take_length]
theorem th_le {R : GI} (h : ∀ x ∈ R, x.length ≤ 1000000000) (n : Nat) (hn : n ≤ R.length) : 0 ≤ thG R n ∧ thG R n ≤ n * 1000000000 := by
  rw [thG_take R n hn]
  exact edges_take_le h
theorem bk_le (R : GI) : ∀ n, 0 ≤ bkG R n ∧ bkG R n ≤ n * R.length
  | 0 => by simp [bkG]
  | n + 1 => by
    obtain ⟨h1, h2⟩ := bk_le R n
    have : (readersF R n).length ≤ R.length := by
      unfold readersF
      rw [List.length_map]
      exact Nat.le_trans (List.length_filter_le _ _) (by simp)
    rw [bkG_succ]
    refine ⟨by omega, ?_⟩
    have : ((n + 1 : Nat) : Int) * R.length = n * R.length + R.length := by rw [Int.natCast_add, Int.add_mul]; simp
    omega
def cntG (R : GI) (k n : Nat) : Int := ((List.range n).map fun (w : Nat) => (((List.range k).filter fun v => (R.getD v []).contains (w : Int)).length : Int)).sum
theorem cnt_one (l : List Int) : ∀ n : Nat, ((List.range n).map fun (w : Nat) => if l.contains (w : Int) = true then (1 : Int) else 0).sum = ((List.range n).filter fun (w : Nat) => l.contains (w : Int)).length
  | 0 => rfl
  | n + 1 => by
    rw [List.range_succ, List.map_append, List.sum_append, cnt_one l n, List.filter_append, List.length_append]
    by_cases h : l.contains (n : Int) = true
    · rw [List.filter_cons, if_pos h]
      simp only [List.map_cons, List.map_nil, List.sum_cons, List.sum_nil, h, if_true, List.filter_nil, List.length_cons, List.length_nil]
      omega
    · rw [List.filter_cons, if_neg h]
      simp only [List.map_cons, List.map_nil, List.sum_cons, List.sum_nil, h, if_false, List.filter_nil, List.length_nil]
      simp
theorem cnt_len {l : List Int} {n : Nat} (h1 : l.Nodup) (h2 : ∀ x ∈ l, 0 ≤ x ∧ x < n) : ((List.range n).filter fun (w : Nat) => l.contains (w : Int)).length = l.length := by
  have : ((((List.range n).filter fun (w : Nat) => l.contains (w : Int))).map fun (w : Nat) => (w : Int)).Perm l := by
    rw [List.perm_ext_iff_of_nodup _ h1]
    · intro x
      simp only [List.mem_map, List.mem_filter, List.mem_range, List.contains_iff_mem]
      constructor
      · rintro ⟨w, ⟨_, h⟩, rfl⟩
        exact h
      · intro hx
        have := h2 x hx
        exact ⟨x.toNat, ⟨by omega, by rw [Int.toNat_of_nonneg this.1]; exact hx⟩, by omega⟩
    · rw [List.nodup_iff_pairwise_ne, List.pairwise_map]
      refine List.Pairwise.imp (fun {a b} hne e => hne (by omega)) (List.nodup_iff_pairwise_ne.1 (List.nodup_range.filter _))
  have h := this.length_eq
  rwa [List.length_map] at h
theorem cnt_sum (f g : Nat → Int) : ∀ n : Nat, ((List.range n).map fun w => f w + g w).sum = ((List.range n).map f).sum + ((List.range n).map g).sum
  | 0 => rfl
  | n + 1 => by
    rw [List.range_succ, List.map_append, List.map_append, List.map_append, List.sum_append, List.sum_append, List.sum_append, cnt_sum f g n]
    simp
    omega
theorem cnt_succ (R : GI) (k n : Nat) : cntG R (k + 1) n = cntG R k n + ((List.range n).map fun (w : Nat) => if (R.getD k []).contains (w : Int) = true then (1 : Int) else 0).sum := by
  unfold cntG
  rw [← cnt_sum]
  congr 1
  apply List.map_congr_left
  intro w _
  rw [List.range_succ, List.filter_append, List.length_append]
  by_cases h : (R.getD k []).contains (w : Int) = true
  · rw [List.filter_cons, if_pos h, if_pos h]
    simp
  · rw [List.filter_cons, if_neg h, if_neg h]
    simp
theorem cnt_all {R : GI} {n : Nat} (h : ∀ (v : Nat) l, R[v]? = some l → l.Nodup ∧ ∀ x ∈ l, 0 ≤ x ∧ x < n) : ∀ k, k ≤ R.length → cntG R k n = thG R k
  | 0, _ => by
    have : ∀ m : Nat, ((List.range m).map fun _ => (0 : Int)).sum = 0 := fun m => by
      induction m with
      | zero => rfl
      | succ m ih => rw [List.range_succ, List.map_append, List.sum_append, ih]; rfl
    simp [cntG, thG, this]
  | k + 1, hk => by
    have hg : R[k]? = some (R.getD k []) := by
      rw [List.getD_eq_getElem?_getD, List.getElem?_eq_getElem (show k < R.length by omega)]
      rfl
    obtain ⟨h1, h2⟩ := h k _ hg
    rw [cnt_succ, cnt_all h k (by omega), thG_succ, cnt_one, cnt_len h1 h2]
theorem bk_all {R : GI} (h : GOk R) : bkG R R.length = edgesF R := by
  have : bkG R R.length = cntG R R.length R.length := by
    unfold bkG cntG readersF
    congr 1
    apply List.map_congr_left
    intro w _
    rw [List.length_map]
  rw [this, cnt_all (fun v l hl => ⟨(h.2 v l hl).1, fun x hx => by have := (h.2 v l hl).2 x hx; omega⟩) _ (Nat.le_refl _), th_all]

end Go.Proofs.Ytojflfogjkajaaa.Gr
