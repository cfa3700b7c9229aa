/-
  graph: what Set does to who reads whom: plain laws.
-/
import Derived.Test.YtojflfogjkajaaaGr11
namespace Go.Proofs.Ytojflfogjkajaaa.Gr
open Go Go.RowKit Go.Shelf Go.Proofs
open Go.Vm (GI GraphAt readersF edgesF GOk)
theorem mem_readers {R : GI} {i : Nat} {x : Int} : x ∈ readersF R i ↔ ∃ v : Nat, v < R.length ∧ x = v ∧ (i : Int) ∈ R.getD v [] := by
  unfold readersF
  simp only [List.mem_map, List.mem_filter, List.mem_range, List.contains_iff_mem]
  constructor
  · rintro ⟨v, ⟨h1, h2⟩, rfl⟩
    exact ⟨v, h1, rfl, h2⟩
  · rintro ⟨v, h1, rfl, h2⟩
    exact ⟨v, ⟨h1, h2⟩, rfl⟩
theorem getD_set {R : GI} {v : Nat} {l : List Int} (hv : v < R.length) (x : Nat) : (R.set v l).getD x [] = if x = v then l else R.getD x [] := by
  simp only [List.getD_eq_getElem?_getD, List.getElem?_set]
  by_cases h : x = v
  · subst h
    simp [hv]
  · simp [h, Ne.symm h]
def dropL (R : GI) (v : Nat) (l : List Int) (k i : Nat) : List Int := if (i : Int) ∈ (R.getD v []).take k ∧ (i : Int) ∉ l then (readersF R i).filter (fun x => decide (x ≠ (v : Int))) else readersF R i
def addL (R : GI) (v : Nat) (l : List Int) (k i : Nat) : List Int := if (i : Int) ∈ l.take k ∧ (i : Int) ∉ R.getD v [] then ins v (dropL R v l (R.getD v []).length i) else dropL R v l (R.getD v []).length i
theorem drop_zero (R : GI) (v : Nat) (l : List Int) (i : Nat) : dropL R v l 0 i = readersF R i := by simp [dropL]
theorem add_zero' (R : GI) (v : Nat) (l : List Int) (i : Nat) : addL R v l 0 i = dropL R v l (R.getD v []).length i := by simp [addL]
theorem not_reader {R : GI} {v i : Nat} (h : (i : Int) ∉ R.getD v []) : (v : Int) ∉ readersF R i := fun hm => by
  obtain ⟨x, h1, h2, h3⟩ := mem_readers.1 hm
  obtain rfl : v = x := by omega
  exact h h3
theorem add_all {R : GI} {v : Nat} (l : List Int) (hv : v < R.length) (i : Nat) : addL R v l l.length i = readersF (R.set v l) i := by
  have hs := readers_sorted R i
  have hf : ((readersF R i).filter (fun x => decide (x ≠ (v : Int)))).Pairwise (· < ·) := hs.filter _
  have hd : (dropL R v l (R.getD v []).length i).Pairwise (· < ·) := by
    unfold dropL
    split
    · exact hf
    · exact hs
  unfold addL
  rw [List.take_length]
  split
  · rename_i h
    have e : dropL R v l (R.getD v []).length i = readersF R i := by
      unfold dropL
      rw [List.take_length, if_neg (fun k => h.2 k.1)]
    rw [e]
    refine sorted_ext (sorted_ins hs (not_reader h.2)) (readers_sorted _ i) fun x => ?_
    rw [mem_ins, mem_readers, mem_readers]
    constructor
    · rintro (rfl | ⟨y, h1, rfl, h2⟩)
      · exact ⟨v, by simpa using hv, rfl, by rw [getD_set hv, if_pos rfl]; exact h.1⟩
      · refine ⟨y, by simpa using h1, rfl, ?_⟩
        rw [getD_set hv]
        split
        · rename_i e; subst e; exact h.1
        · exact h2
    · rintro ⟨y, h1, rfl, h2⟩
      rw [getD_set hv] at h2
      split at h2
      · rename_i e; subst e; exact .inl rfl
      · exact .inr ⟨y, by simpa using h1, rfl, h2⟩
  · rename_i h
    refine sorted_ext hd (readers_sorted _ i) fun x => ?_
    unfold dropL
    rw [List.take_length]
    split
    · rename_i k
      rw [List.mem_filter, mem_readers, mem_readers]
      constructor
      · rintro ⟨⟨y, h1, rfl, h2⟩, h3⟩
        refine ⟨y, by simpa using h1, rfl, ?_⟩
        rw [getD_set hv, if_neg (fun e => by subst e; simp at h3)]
        exact h2
      · rintro ⟨y, h1, rfl, h2⟩
        rw [getD_set hv] at h2
        split at h2
        · exact absurd h2 k.2
        · rename_i hne
          exact ⟨⟨y, by simpa using h1, rfl, h2⟩, by simp; omega⟩
    · rename_i k
      rw [mem_readers, mem_readers]
      have hiff : (i : Int) ∈ l ↔ (i : Int) ∈ R.getD v [] := by
        constructor
        · intro h1
          exact Classical.byContradiction fun h2 => h ⟨h1, h2⟩
        · intro h1
          exact Classical.byContradiction fun h2 => k ⟨h1, h2⟩
      constructor
      · rintro ⟨y, h1, rfl, h2⟩
        refine ⟨y, by simpa using h1, rfl, ?_⟩
        rw [getD_set hv]
        split
        · rename_i e; subst e; exact hiff.2 h2
        · exact h2
      · rintro ⟨y, h1, rfl, h2⟩
        rw [getD_set hv] at h2
        refine ⟨y, by simpa using h1, rfl, ?_⟩
        split at h2
        · rename_i e; subst e; exact hiff.1 h2
        · exact h2
def newsF (l m : List Int) : Int := (l.filter fun x => !m.contains x).length
theorem news_split (l m : List Int) : (l.length : Int) = newsF l m + (l.filter fun x => m.contains x).length := by
  induction l with
  | nil => rfl
  | cons x r ih =>
    unfold newsF at ih ⊢
    by_cases h : m.contains x = true
    · simp only [List.filter_cons, h, Bool.not_true, if_true, List.length_cons, Bool.false_eq_true, if_false] at ih ⊢
      omega
    · have h : m.contains x = false := by simpa using h
      simp only [List.filter_cons, h, Bool.not_false, if_true, List.length_cons, Bool.false_eq_true, if_false] at ih ⊢
      omega
theorem both_len {l m : List Int} (hl : l.Nodup) (hm : m.Nodup) : (l.filter fun x => m.contains x).length = (m.filter fun x => l.contains x).length := by
  refine List.Perm.length_eq ?_
  rw [List.perm_ext_iff_of_nodup (hl.filter _) (hm.filter _)]
  intro x
  simp only [List.mem_filter, List.contains_iff_mem]
  exact And.comm
theorem edges_set : ∀ (R : GI) (v : Nat) (l : List Int), v < R.length → edgesF (R.set v l) + (R.getD v []).length = edgesF R + l.length
  | a :: R, 0, l, _ => by
    simp only [edgesF, List.set_cons_zero, List.map_cons, List.sum_cons, List.getD_cons_zero]
    omega
  | a :: R, v + 1, l, h => by
    have := edges_set R v l (by simpa using h)
    simp only [edgesF, List.set_cons_succ, List.map_cons, List.sum_cons, List.getD_cons_succ] at this ⊢
    omega
theorem edges_to {R : GI} {v : Nat} {l : List Int} (hv : v < R.length) (hl : l.Nodup) (hw : (R.getD v []).Nodup) : edgesF (R.set v l) = edgesF R + (newsF l (R.getD v []) - newsF (R.getD v []) l) := by
  have h1 := edges_set R v l hv
  have h2 := news_split l (R.getD v [])
  have h3 := news_split (R.getD v []) l
  have h4 := both_len hl hw
  omega
theorem news_take {l m : List Int} {k : Nat} {y : Int} (hy : l[k]? = some y) : newsF (l.take (k + 1)) m = newsF (l.take k) m + if m.contains y = true then 0 else 1 := by
  unfold newsF
  rw [List.take_add_one, hy, List.filter_append, List.length_append]
  by_cases h : m.contains y = true
  · simp only [Option.toList_some, List.filter_cons, h, Bool.not_true, Bool.false_eq_true, if_false, List.filter_nil, List.length_nil, if_true]
    omega
  · have h : m.contains y = false := by simpa using h
    simp only [Option.toList_some, List.filter_cons, h, Bool.not_false, if_true, List.filter_nil, List.length_cons, List.length_nil, Bool.false_eq_true, if_false]
    omega
theorem news_le (l m : List Int) : newsF l m ≤ l.length ∧ 0 ≤ newsF l m := by
  have := news_split l m
  constructor <;> (unfold newsF at *; omega)
theorem with_len : ∀ (l : List Int) (x : Int), l.Pairwise (· < ·) → ((Vm.withF l x).length = l.length + if x ∈ l then 0 else 1) ∧ (Vm.withF l x).Pairwise (· < ·) ∧ ∀ z, z ∈ Vm.withF l x ↔ z = x ∨ z ∈ l
  | [], x, _ => by simp [Vm.withF]
  | y :: r, x, h => by
    obtain ⟨h1, h2⟩ := List.pairwise_cons.1 h
    obtain ⟨i1, i2, i3⟩ := with_len r x h2
    unfold Vm.withF
    split
    · rename_i hlt
      refine ⟨?_, List.pairwise_cons.2 ⟨fun z hz => ?_, i2⟩, fun z => ?_⟩
      · rw [List.length_cons, i1, List.length_cons]
        have : x ≠ y := by omega
        simp only [List.mem_cons, this, false_or]
        omega
      · rcases (i3 z).1 hz with rfl | hz
        · exact hlt
        · exact h1 z hz
      · simp only [List.mem_cons, i3]
        constructor
        · rintro (h | h | h)
          · exact .inr (.inl h)
          · exact .inl h
          · exact .inr (.inr h)
        · rintro (h | h | h)
          · exact .inr (.inl h)
          · exact .inl h
          · exact .inr (.inr h)
    · split
      · rename_i e
        subst e
        refine ⟨by simp, h, fun z => ?_⟩
        simp only [List.mem_cons]
        constructor
        · exact .inr
        · rintro (h | h)
          · exact .inl h
          · exact h
      · rename_i hlt hne
        have hx : x ∉ y :: r := fun hm => by
          rcases List.mem_cons.1 hm with e | hm
          · omega
          · have := h1 x hm
            omega
        refine ⟨by rw [if_neg hx]; simp, List.pairwise_cons.2 ⟨fun z hz => ?_, h⟩, fun z => by simp only [List.mem_cons]⟩
        rcases List.mem_cons.1 hz with rfl | hz
        · omega
        · have := h1 z hz
          omega
theorem folds_len : ∀ (l m : List Int), m.Pairwise (· < ·) → ((l.foldl Vm.withF m).length ≤ l.length + m.length) ∧ ((l.foldl Vm.withF m).length = l.length + m.length ↔ l.Nodup ∧ ∀ x ∈ l, x ∉ m)
  | [], m, _ => by simp
  | y :: r, m, h => by
    obtain ⟨i1, i2, i3⟩ := with_len m y h
    obtain ⟨k1, k2⟩ := folds_len r (Vm.withF m y) i2
    rw [List.foldl_cons, List.length_cons]
    by_cases hy : y ∈ m
    · rw [if_pos hy] at i1
      refine ⟨by omega, fun e => by omega, fun e => absurd hy (e.2 y List.mem_cons_self)⟩
    · rw [if_neg hy] at i1
      refine ⟨by omega, ?_⟩
      rw [show r.length + 1 + m.length = r.length + (Vm.withF m y).length by omega, k2, List.nodup_cons]
      constructor
      · rintro ⟨h1, h2⟩
        refine ⟨⟨fun hm => h2 y hm ((i3 y).2 (.inl rfl)), h1⟩, fun x hx => ?_⟩
        rcases List.mem_cons.1 hx with rfl | hx
        · exact hy
        · exact fun hm => h2 x hx ((i3 x).2 (.inr hm))
      · rintro ⟨⟨h1, h2⟩, h3⟩
        refine ⟨h2, fun x hx hm => ?_⟩
        rcases (i3 x).1 hm with rfl | hm
        · exact h1 hx
        · exact h3 x (List.mem_cons_of_mem _ hx) hm
theorem twice_iff (l : List Int) : (Lib.compact (l.mergeSort fun x y => decide (x ≤ y))).length < l.length ↔ ¬ l.Nodup := by
  have h := Vm.compact_sort l
  rw [Vm.sortF] at h
  rw [h]
  obtain ⟨k1, k2⟩ := folds_len l [] List.Pairwise.nil
  simp only [List.length_nil, Nat.add_zero] at k1 k2
  constructor
  · intro hlt hn
    have := k2.2 ⟨hn, fun _ _ h => by cases h⟩
    omega
  · intro hn
    have : ¬ (l.foldl Vm.withF []).length = l.length := fun e => hn (k2.1 e).1
    omega
theorem may_ok {R : GI} {v : Int} {l : List Int} (h : mayF R v l = 0) : 0 < R.length ∧ (0 ≤ v ∧ v < R.length) ∧ (∀ x ∈ l, 0 ≤ x ∧ x < R.length ∧ x ≠ v) ∧ l.Nodup := by
  unfold mayF at h
  by_cases h1 : R.length = 0
  · rw [if_pos h1] at h; cases h
  by_cases h2 : (isNode R v && l.all (isNode R)) = false
  · rw [if_neg h1, if_pos h2] at h; cases h
  by_cases h3 : l.contains v = true
  · rw [if_neg h1, if_neg h2, if_pos h3] at h; cases h
  by_cases h4 : (Lib.compact (l.mergeSort fun x y => decide (x ≤ y))).length < l.length
  · rw [if_neg h1, if_neg h2, if_neg h3, if_pos h4] at h; cases h
  rw [Bool.not_eq_false, Bool.and_eq_true, List.all_eq_true] at h2
  refine ⟨by omega, by simpa [isNode] using h2.1, fun x hx => ?_, ?_⟩
  · have := h2.2 x hx
    simp only [isNode, decide_eq_true_eq] at this
    refine ⟨this.1, this.2, fun e => h3 ?_⟩
    rw [List.contains_iff_mem, ← e]
    exact hx
  · rw [twice_iff] at h4
    exact Classical.byContradiction h4
theorem gok_set {R : GI} {v : Int} {l : List Int} (hR : GOk R) (h : mayF R v l = 0) : GOk (R.set v.toNat l) := by
  obtain ⟨h1, h2, h3, h4⟩ := may_ok h
  obtain ⟨k1, k2⟩ := hR
  refine ⟨by rw [List.length_set]; exact k1, fun x m hm => ?_⟩
  rw [List.getElem?_set] at hm
  split at hm
  · rename_i e
    subst e
    split at hm
    · cases hm
      exact ⟨h4, fun x hx => by rw [List.length_set]; have := h3 x hx; omega⟩
    · cases hm
  · obtain ⟨q1, q2⟩ := k2 x m hm
    exact ⟨q1, fun z hz => by rw [List.length_set]; exact q2 z hz⟩
def setR (R : GI) (v : Int) (l : List Int) : GI := if mayF R v l = 0 then R.set v.toNat l else R
def addedF (R : GI) (v : Int) (l : List Int) : Int := if mayF R v l = 0 then newsF l (R.getD v.toNat []) else 0
def droppedF (R : GI) (v : Int) (l : List Int) : Int := if mayF R v l = 0 then newsF (R.getD v.toNat []) l else 0
end Go.Proofs.Ytojflfogjkajaaa.Gr
