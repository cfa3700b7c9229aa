/-
  Plain laws of lists: rising lists, what Sort and Compact leave.
-/
import Derived.Test.YtdplodofdfkndaaDoorVm22
namespace Go.Vm

/-- A number is put in its place. -/
def withF : List Int → Int → List Int
  | [], n => [n]
  | x :: r, n => if x < n then x :: withF r n else if x = n then x :: r else n :: x :: r

abbrev Rises (l : List Int) : Prop := l.Pairwise (· < ·)

theorem mem_withF : ∀ {l : List Int} {n x : Int}, x ∈ withF l n ↔ x ∈ l ∨ x = n
  | [], n, x => by simp [withF]
  | y :: r, n, x => by
    unfold withF
    split
    · simp only [List.mem_cons, mem_withF, or_assoc]
    · split
      · rename_i e
        subst e
        simp only [List.mem_cons]
        constructor
        · exact .inl
        · rintro (h | h)
          · exact h
          · exact .inl h
      · simp only [List.mem_cons]
        constructor
        · rintro (h | h | h)
          · exact .inr h
          · exact .inl (.inl h)
          · exact .inl (.inr h)
        · rintro ((h | h) | h)
          · exact .inr (.inl h)
          · exact .inr (.inr h)
          · exact .inl h

theorem rises_withF : ∀ {l : List Int} {n : Int}, Rises l → Rises (withF l n)
  | [], n, _ => by simp [withF, Rises]
  | y :: r, n, h => by
    obtain ⟨h1, h2⟩ := List.pairwise_cons.1 h
    unfold withF
    split
    · rename_i hlt
      refine List.pairwise_cons.2 ⟨fun x hx => ?_, rises_withF h2⟩
      rcases mem_withF.1 hx with h3 | h3
      · exact h1 x h3
      · omega
    · split
      · exact h
      · refine List.pairwise_cons.2 ⟨fun x hx => ?_, h⟩
        rcases List.mem_cons.1 hx with h3 | h3
        · omega
        · have := h1 x h3; omega

theorem len_withF : ∀ {l : List Int} {n : Int}, (withF l n).length ≤ l.length + 1
  | [], n => by simp [withF]
  | y :: r, n => by
    unfold withF
    have := len_withF (l := r) (n := n)
    split
    · simp only [List.length_cons]; omega
    · split <;> simp

/-- Rising lists of the same numbers are the same. -/
theorem rises_ext : ∀ {a b : List Int}, Rises a → Rises b → (∀ x, x ∈ a ↔ x ∈ b) → a = b
  | [], [], _, _, _ => rfl
  | [], y :: b, _, _, h => by have := (h y).2 (by simp); simp at this
  | x :: a, [], _, _, h => by have := (h x).1 (by simp); simp at this
  | x :: a, y :: b, ha, hb, h => by
    obtain ⟨a1, a2⟩ := List.pairwise_cons.1 ha
    obtain ⟨b1, b2⟩ := List.pairwise_cons.1 hb
    have e : x = y := by
      have h1 := (h x).1 (by simp)
      have h2 := (h y).2 (by simp)
      rcases List.mem_cons.1 h1 with h3 | h3
      · exact h3
      · rcases List.mem_cons.1 h2 with h4 | h4
        · exact h4.symm
        · have := b1 x h3; have := a1 y h4; omega
    subst e
    congr 1
    refine rises_ext a2 b2 (fun z => ?_)
    have hz := h z
    simp only [List.mem_cons] at hz
    constructor
    · intro hm
      rcases hz.1 (.inr hm) with h3 | h3
      · have := a1 z hm; omega
      · exact h3
    · intro hm
      rcases hz.2 (.inr hm) with h3 | h3
      · have := b1 z hm; omega
      · exact h3

theorem rises_fold : ∀ {m l : List Int}, Rises l → Rises (m.foldl withF l)
  | [], _, h => h
  | x :: r, l, h => rises_fold (m := r) (rises_withF h)
theorem mem_fold : ∀ {m l : List Int} {x : Int}, x ∈ m.foldl withF l ↔ x ∈ l ∨ x ∈ m
  | [], l, x => by simp
  | y :: r, l, x => by
    rw [List.foldl_cons, mem_fold, mem_withF, List.mem_cons, or_assoc]
theorem len_fold : ∀ {m l : List Int}, (m.foldl withF l).length ≤ l.length + m.length
  | [], l => by simp
  | y :: r, l => by
    have h1 := len_fold (m := r) (l := withF l y)
    have h2 := len_withF (l := l) (n := y)
    simp only [List.foldl_cons, List.length_cons]
    omega

theorem compact_upto {zs : List Int} (hs : ∀ i, i + 1 < zs.length → zs.toArray[i]! ≤ zs.toArray[i + 1]!) : ∀ m, m ≤ zs.length → Rises (Lib.compactUpTo zs.toArray m) ∧ (∀ x ∈ Lib.compactUpTo zs.toArray m, 0 < m ∧ x ≤ zs.toArray[m - 1]!) ∧
    ∀ x, x ∈ Lib.compactUpTo zs.toArray m ↔ ∃ j, j < m ∧ zs.toArray[j]! = x
  | 0, _ => by simp [Lib.compactUpTo, Rises]
  | m + 1, hm => by
    obtain ⟨h1, h2, h3⟩ := compact_upto hs m (by omega)
    rw [Lib.compactUpTo_succ]
    have hle : ∀ x ∈ Lib.compactUpTo zs.toArray m, x ≤ zs.toArray[m]! := by
      intro x hx
      obtain ⟨h4, h5⟩ := h2 x hx
      have := hs (m - 1) (by omega)
      rw [show m - 1 + 1 = m by omega] at this
      omega
    by_cases hk : Lib.keeps zs.toArray m = true
    · rw [if_pos hk]
      have hlt : ∀ x ∈ Lib.compactUpTo zs.toArray m, x < zs.toArray[m]! := by
        intro x hx
        obtain ⟨h4, h5⟩ := h2 x hx
        have h6 := hs (m - 1) (by omega)
        rw [show m - 1 + 1 = m by omega] at h6
        simp only [Lib.keeps, decide_eq_true_eq] at hk
        have : zs.toArray[m]! ≠ zs.toArray[m - 1]! := by
          rcases hk with hk | hk
          · omega
          · exact hk
        omega
      refine ⟨List.pairwise_append.2 ⟨h1, by simp, fun x hx y hy => ?_⟩, fun x hx => ⟨by omega, ?_⟩, fun x => ?_⟩
      · simp only [List.mem_singleton] at hy; subst hy; exact hlt x hx
      · rcases List.mem_append.1 hx with hx | hx
        · exact hle x hx
        · simp only [List.mem_singleton] at hx; subst hx; simp
      · rw [List.mem_append, h3, List.mem_singleton]
        constructor
        · rintro (⟨j, hj, e⟩ | rfl)
          · exact ⟨j, by omega, e⟩
          · exact ⟨m, by omega, rfl⟩
        · rintro ⟨j, hj, e⟩
          by_cases hjm : j = m
          · subst hjm; exact .inr e.symm
          · exact .inl ⟨j, by omega, e⟩
    · rw [if_neg hk, List.append_nil]
      have hm0 : 0 < m ∧ zs.toArray[m]! = zs.toArray[m - 1]! := by
        simp only [Lib.keeps, decide_eq_true_eq, not_or, ne_eq, Classical.not_not] at hk
        exact ⟨by omega, hk.2⟩
      refine ⟨h1, fun x hx => ⟨by omega, hle x hx⟩, fun x => ?_⟩
      rw [h3]
      constructor
      · rintro ⟨j, hj, e⟩; exact ⟨j, by omega, e⟩
      · rintro ⟨j, hj, e⟩
        by_cases hjm : j = m
        · subst hjm; exact ⟨j - 1, by omega, by rw [← hm0.2]; exact e⟩
        · exact ⟨j, by omega, e⟩

/-- **Sorted and compacted: the numbers put in their places, one by one.** -/
theorem compact_sort (l : List Int) : Lib.compact (sortF l) = l.foldl withF [] := by
  have hs : (sortF l).Pairwise (fun x y => decide (x ≤ y) = true) := List.pairwise_mergeSort (fun a b c h1 h2 => by simp at *; omega) (fun a b => by simp; omega) l
  have hs2 : ∀ i, i + 1 < (sortF l).length → (sortF l).toArray[i]! ≤ (sortF l).toArray[i + 1]! := by
    intro i hi
    have := List.pairwise_iff_getElem.1 hs i (i + 1) (by omega) hi (by omega)
    simp only [decide_eq_true_eq] at this
    have h1 : i < (sortF l).length := by omega
    simp [h1, hi, this]
  obtain ⟨h1, _, h3⟩ := compact_upto hs2 (sortF l).length (Nat.le_refl _)
  refine rises_ext h1 (rises_fold List.Pairwise.nil) (fun x => ?_)
  rw [mem_fold]
  show x ∈ Lib.compactUpTo (sortF l).toArray (sortF l).length ↔ _
  rw [h3]
  have hp : ∀ x, x ∈ sortF l ↔ x ∈ l := fun x => (List.mergeSort_perm l _).mem_iff
  constructor
  · rintro ⟨j, hj, e⟩
    right
    rw [← hp, ← e]
    simp [hj]
  · rintro (h | h)
    · simp at h
    · rw [← hp] at h
      obtain ⟨j, hj, e⟩ := List.mem_iff_getElem.1 h
      exact ⟨j, hj, by simp [hj, e]⟩

end Go.Vm
