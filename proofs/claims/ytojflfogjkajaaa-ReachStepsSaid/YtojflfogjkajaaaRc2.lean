/-
  Reach: the document's rounds.
-/
import Derived.Test.YtojflfogjkajaaaRc1
namespace Go.Proofs.Ytojflfogjkajaaa.Rc

theorem least {p : Nat → Prop} : ∀ k, p k → ∃ m, p m ∧ ∀ j, p j → m ≤ j := by
  intro k
  induction k using Nat.strongRecOn with
  | ind k ih =>
    intro hk
    by_cases h : ∃ j, j < k ∧ p j
    · obtain ⟨j, h1, h2⟩ := h
      exact ih j h1 h2
    · exact ⟨k, hk, fun j hj => Nat.le_of_not_lt fun hlt => h ⟨j, hlt, hj⟩⟩
open Classical in
noncomputable def distF (nx : Int → List Int) (F : Int → Prop) (v : Int) : Int := if h : ∃ m, Pth nx F m v ∧ ∀ j, Pth nx F j v → m ≤ j then ((Classical.choose h : Nat) : Int) else -1
noncomputable def stepsF (n : Nat) (nx : Int → List Int) (F : Int → Prop) : List Int := (List.range n).map fun (v : Nat) => distF nx F v
theorem dist_of {nx : Int → List Int} {F : Int → Prop} {v : Int} {k : Nat} (h : Pth nx F k v) : ∃ m : Nat, distF nx F v = m ∧ Pth nx F m v ∧ m ≤ k := by
  have h1 := least (p := fun k => Pth nx F k v) k h
  unfold distF
  rw [dif_pos h1]
  obtain ⟨a, b⟩ := Classical.choose_spec h1
  exact ⟨_, rfl, a, b k h⟩
theorem dist_inv {nx : Int → List Int} {F : Int → Prop} {v : Int} : distF nx F v = -1 ∨ ∃ m : Nat, distF nx F v = m ∧ Pth nx F m v := by
  by_cases h : ∃ m, Pth nx F m v ∧ ∀ j, Pth nx F j v → m ≤ j
  · refine .inr ?_
    obtain ⟨m, h1, _⟩ := h
    obtain ⟨m', a, b, _⟩ := dist_of h1
    exact ⟨m', a, b⟩
  · unfold distF
    rw [dif_neg h]
    exact .inl rfl
theorem at_steps {n : Nat} {nx : Int → List Int} {F : Int → Prop} {v : Int} (h : Dom n v) : atI (stepsF n nx F) v = distF nx F v := by
  unfold atI stepsF
  unfold Dom at h
  rw [if_pos h.1, List.getD_eq_getElem?_getD, List.getElem?_map, List.getElem?_range (show v.toNat < n by omega)]
  simp only [Option.map_some, Option.getD_some]
  rw [Int.toNat_of_nonneg h.1]
theorem steps_table {n : Nat} {nx : Int → List Int} {F : Int → Prop} (hF : ∀ v, F v → Dom n v) (hn : ∀ v w, Dom n v → w ∈ nx v → Dom n w) : Table n nx F (stepsF n nx F) := by
  have hlen : (stepsF n nx F).length = n := by simp [stepsF]
  have hp : ∀ (k : Nat) (v : Int), Pth nx F k v → Dom n v := by
    intro k v h
    induction h with
    | zero h => exact hF _ h
    | succ _ he ih => exact hn _ _ ih he
  refine ⟨hlen, fun v => ?_, fun v hv => ?_, fun v k hk => ?_, fun v w hv he => ?_⟩
  · by_cases hd : Dom n v
    · rw [at_steps hd]
      rcases dist_inv (nx := nx) (F := F) (v := v) with h | ⟨m, h, _⟩ <;> omega
    · rw [atI_out hlen hd]
      omega
  · rw [at_steps (hF v hv)]
    obtain ⟨m, h1, _, h2⟩ := dist_of (Pth.zero (nx := nx) hv)
    omega
  · have hd := dom_of hlen (v := v) (by omega)
    rw [at_steps hd] at hk
    rcases dist_inv (nx := nx) (F := F) (v := v) with h | ⟨m, h, h2⟩
    · omega
    · rw [show k = m by omega]
      exact h2
  · have hd := dom_of hlen hv
    rw [at_steps hd] at hv ⊢
    rw [at_steps (hn v w hd he)]
    rcases dist_inv (nx := nx) (F := F) (v := v) with h | ⟨m, h, h2⟩
    · omega
    · obtain ⟨m', a, _, b⟩ := dist_of (Pth.succ h2 he)
      omega
theorem Table.eq {n : Nat} {nx : Int → List Int} {F : Int → Prop} {o : List Int} (h : Table n nx F o) (hF : ∀ v, F v → Dom n v) (hn : ∀ v w, Dom n v → w ∈ nx v → Dom n w) : o = stepsF n nx F := h.uniq (steps_table hF hn)

/-! The numbers of what is so. -/
def ixs (p : Nat → Bool) (n : Nat) : List Int := ((List.range n).filter p).map fun (v : Nat) => (v : Int)
theorem ixs_succ (p : Nat → Bool) (n : Nat) : ixs p (n + 1) = ixs p n ++ if p n = true then [(n : Int)] else [] := by
  unfold ixs
  rw [List.range_succ, List.filter_append, List.map_append]
  congr 1
  by_cases h : p n = true
  · simp only [List.filter_cons, h, if_true, List.filter_nil, List.map_cons, List.map_nil]
  · have h : p n = false := by simpa using h
    simp only [List.filter_cons, h, Bool.false_eq_true, if_false, List.filter_nil, List.map_nil]
theorem ixs_le (p : Nat → Bool) (n : Nat) : (ixs p n).length ≤ n := by
  unfold ixs
  rw [List.length_map]
  exact Nat.le_trans (List.length_filter_le _ _) (by simp)
theorem mem_ixs {p : Nat → Bool} {n : Nat} {v : Int} : v ∈ ixs p n ↔ Dom n v ∧ p v.toNat = true := by
  unfold ixs Dom
  simp only [List.mem_map, List.mem_filter, List.mem_range]
  constructor
  · rintro ⟨u, ⟨h1, h2⟩, rfl⟩
    exact ⟨by omega, by simpa using h2⟩
  · rintro ⟨h1, h2⟩
    exact ⟨v.toNat, ⟨by omega, h2⟩, by omega⟩
theorem ixs_congr {p q : Nat → Bool} {n : Nat} (h : ∀ i, i < n → p i = q i) : ixs p n = ixs q n := by
  unfold ixs
  congr 1
  apply List.filter_congr
  intro i hi
  exact h i (List.mem_range.1 hi)
def metF (o : List Int) : List Int := ixs (fun i => decide (0 ≤ atI o i)) o.length
theorem mem_met {o : List Int} {v : Int} : v ∈ metF o ↔ 0 ≤ atI o v := by
  unfold metF
  rw [mem_ixs]
  constructor
  · rintro ⟨h1, h2⟩
    rw [Int.toNat_of_nonneg h1.1] at h2
    simpa using h2
  · intro h
    have h1 := dom_of rfl h
    refine ⟨h1, ?_⟩
    rw [Int.toNat_of_nonneg h1.1]
    simpa using h
def atB (b : List Bool) (v : Int) : Bool := if 0 ≤ v then b.getD v.toNat false else false
def listF (b : List Bool) : List Int := ixs (fun i => atB b i) b.length
def begF (n : Nat) (l : List Int) : List Bool := (List.range n).map fun (v : Nat) => l.contains (v : Int)
theorem begF_succ (n : Nat) (l : List Int) : begF (n + 1) l = begF n l ++ [l.contains (n : Int)] := by simp [begF, List.range_succ]
theorem atB_get {b : List Bool} {v : Int} (hv : Dom b.length v) : b[v.toNat]? = some (atB b v) := by
  unfold atB
  unfold Dom at hv
  rw [if_pos hv.1, List.getD_eq_getElem?_getD, List.getElem?_eq_getElem (show v.toNat < b.length by omega)]
  rfl
theorem atB_set {b : List Bool} {v : Int} (hv : Dom b.length v) (x : Bool) (u : Int) : atB (b.set v.toNat x) u = if u = v then x else atB b u := by
  unfold atB
  unfold Dom at hv
  by_cases hu : 0 ≤ u
  · rw [if_pos hu, if_pos hu, List.getD_eq_getElem?_getD, List.getD_eq_getElem?_getD, List.getElem?_set]
    by_cases e : u = v
    · subst e
      rw [if_pos rfl, if_pos rfl, if_pos (by omega)]
      rfl
    · rw [if_neg (by omega), if_neg e]
  · rw [if_neg hu, if_neg hu, if_neg (by omega)]
theorem atB_dom {n : Nat} {b : List Bool} (h : b.length = n) {v : Int} (hv : atB b v = true) : Dom n v := by
  unfold atB at hv
  split at hv
  · refine ⟨by assumption, ?_⟩
    apply Classical.byContradiction
    intro hn
    rw [List.getD_eq_getElem?_getD, List.getElem?_eq_none (by omega)] at hv
    cases hv
  · cases hv
theorem at_beg {n : Nat} {l : List Int} {v : Int} : atB (begF n l) v = true ↔ Fr n l v := by
  constructor
  · intro h
    have hd := atB_dom (n := n) (by simp [begF]) h
    have := atB_get (b := begF n l) (v := v) (by simpa [begF] using hd)
    unfold begF at this
    rw [List.getElem?_map, List.getElem?_range (by unfold Dom at hd; omega)] at this
    simp only [Option.map_some, Option.some.injEq] at this
    rw [Int.toNat_of_nonneg hd.1] at this
    unfold begF at h
    rw [← this] at h
    exact ⟨hd, List.contains_iff_mem.1 h⟩
  · rintro ⟨hd, hm⟩
    have := atB_get (b := begF n l) (v := v) (by simpa [begF] using hd)
    unfold begF at this
    rw [List.getElem?_map, List.getElem?_range (by unfold Dom at hd; omega)] at this
    simp only [Option.map_some, Option.some.injEq] at this
    rw [Int.toNat_of_nonneg hd.1] at this
    unfold begF
    rw [← this]
    exact List.contains_iff_mem.2 hm

section
variable {n : Nat} {nx rd : Int → List Int} {F : Int → Prop} {T : List Int}
/-! Rounds of truths, read from those that are read. -/
/-- 'k' rounds are done; in the next one all below 'j'; of 'j' itself so many are looked at. -/
structure Ra (n : Nat) (rd : Int → List Int) (T : List Int) (k : Nat) (j : Int) (i : Nat) (b : List Bool) : Prop where
  len : b.length = n
  sound : ∀ v, atB b v = true → 0 ≤ atI T v
  old : ∀ v, 0 ≤ atI T v → atI T v ≤ k → atB b v = true
  new : ∀ v, v < j → 0 ≤ atI T v → atI T v ≤ (k : Int) + 1 → atB b v = true
  cur : ∀ u ∈ (rd j).take i, 0 ≤ atI T u → atI T u ≤ k → atB b j = true
theorem Ra.step (hT : Table n nx F T) (hr : ∀ u v, Dom n v → (v ∈ nx u ↔ u ∈ rd v)) {k i : Nat} {j : Int} {b : List Bool} (h : Ra n rd T k j i b) (hj : Dom n j) {u : Int} (hu : (rd j)[i]? = some u) :
    Ra n rd T k j (i + 1) (b.set j.toNat (atB b j || atB b u)) := by
  have hs := atB_set (b := b) (v := j) (by rw [h.len]; exact hj) (atB b j || atB b u)
  have hm : ∀ v, atB b v = true → atB (b.set j.toNat (atB b j || atB b u)) v = true := fun v hv => by
    rw [hs]
    split
    · rename_i e
      subst e
      rw [hv, Bool.true_or]
    · exact hv
  refine ⟨by rw [List.length_set]; exact h.len, fun v hv => ?_, fun v h1 h2 => hm _ (h.old v h1 h2), fun v hj h1 h2 => hm _ (h.new v hj h1 h2), fun w hw h1 h2 => ?_⟩
  · rw [hs] at hv
    split at hv
    · rename_i e
      subst e
      rw [Bool.or_eq_true] at hv
      rcases hv with hv | hv
      · exact h.sound v hv
      · exact (hT.closed u v (h.sound u hv) ((hr u v hj).2 (List.mem_of_getElem? hu))).1
    · exact h.sound v hv
  · rw [List.take_add_one, hu, List.mem_append] at hw
    rcases hw with hw | hw
    · exact hm _ (h.cur w hw h1 h2)
    · simp only [Option.toList_some, List.mem_singleton] at hw
      subst hw
      rw [hs, if_pos rfl, h.old w h1 h2, Bool.or_true]
theorem Ra.next (hT : Table n nx F T) (hr : ∀ u v, Dom n v → (v ∈ nx u ↔ u ∈ rd v)) {k i : Nat} {j : Int} {b : List Bool} (h : Ra n rd T k j i b) (hi : (rd j).length ≤ i) : Ra n rd T k (j + 1) 0 b := by
  refine ⟨h.len, h.sound, h.old, fun v hv h1 h2 => ?_, fun u hu => by simp at hu⟩
  by_cases e : v = j
  · subst e
    by_cases hk : atI T v ≤ k
    · exact h.old v h1 hk
    · obtain ⟨u, h3, h4⟩ := hT.pred (v := v) (k := k) (by omega)
      exact h.cur u (by rw [List.take_of_length_le hi]; exact (hr u v (dom_of hT.len h1)).1 h3) (by omega) (by omega)
  · exact h.new v (by omega) h1 h2
theorem Ra.round {k : Nat} {j : Int} {b : List Bool} (hT : Table n nx F T) (h : Ra n rd T k j 0 b) (hj : (n : Int) ≤ j) : Ra n rd T (k + 1) 0 0 b :=
  ⟨h.len, h.sound, fun v h1 h2 => h.new v (by have := dom_of hT.len h1; unfold Dom at this; omega) h1 (by omega), fun v hv h1 => by have := dom_of hT.len h1; unfold Dom at this; omega, fun u hu => by simp at hu⟩
theorem Ra.begin {l : List Int} (hT : Table n nx (Fr n l) T) : Ra n rd T 0 0 0 (begF n l) := by
  refine ⟨by simp [begF], fun v hv => ?_, fun v h1 h2 => ?_, fun v hv h1 => by have := dom_of hT.len h1; unfold Dom at this; omega, fun u hu => by simp at hu⟩
  · rw [hT.zero v (at_beg.1 hv)]
    omega
  · have h3 := hT.sound v 0 (by omega)
    cases h3 with
    | zero h3 => exact at_beg.2 h3
theorem Ra.fin (hT : Table n nx F T) {k : Nat} {b : List Bool} (h : Ra n rd T k 0 0 b) (hk : n ≤ k) : listF b = metF T := by
  unfold listF metF
  rw [h.len, hT.len]
  apply ixs_congr
  intro i hi
  rw [Bool.eq_iff_iff, decide_eq_true_eq]
  refine ⟨h.sound i, fun h1 => h.old i h1 ?_⟩
  have := hT.lt (v := (i : Int)) (k := (atI T i).toNat) (by omega)
  omega

/-! Rounds of truths, handed on to those that are read. -/
structure Rn (n : Nat) (nx : Int → List Int) (T : List Int) (k : Nat) (j : Int) (i : Nat) (b : List Bool) : Prop where
  len : b.length = n
  sound : ∀ v, atB b v = true → 0 ≤ atI T v
  old : ∀ v, 0 ≤ atI T v → atI T v ≤ k → atB b v = true
  new : ∀ v w, v < j → 0 ≤ atI T v → atI T v ≤ k → w ∈ nx v → atB b w = true
  cur : ∀ w ∈ (nx j).take i, 0 ≤ atI T j → atI T j ≤ k → atB b w = true
theorem Rn.step (hT : Table n nx F T) {k i : Nat} {j : Int} {b : List Bool} (h : Rn n nx T k j i b) (hb : atB b j = true) {w : Int} (hw : (nx j)[i]? = some w) : Dom n w ∧ Rn n nx T k j (i + 1) (b.set w.toNat true) := by
  have hc := hT.closed j w (h.sound j hb) (List.mem_of_getElem? hw)
  have hd := dom_of hT.len hc.1
  have hs := atB_set (b := b) (v := w) (by rw [h.len]; exact hd) true
  have hm : ∀ v, atB b v = true → atB (b.set w.toNat true) v = true := fun v hv => by
    rw [hs]
    split
    · rfl
    · exact hv
  refine ⟨hd, by rw [List.length_set]; exact h.len, fun v hv => ?_, fun v h1 h2 => hm _ (h.old v h1 h2), fun v x h0 h1 h2 h3 => hm _ (h.new v x h0 h1 h2 h3), fun x hx h1 h2 => ?_⟩
  · rw [hs] at hv
    split at hv
    · rename_i e
      rw [e]
      exact hc.1
    · exact h.sound v hv
  · rw [List.take_add_one, hw, List.mem_append] at hx
    rcases hx with hx | hx
    · exact hm _ (h.cur x hx h1 h2)
    · simp only [Option.toList_some, List.mem_singleton] at hx
      rw [hs, if_pos hx]
theorem Rn.next {k i : Nat} {j : Int} {b : List Bool} (h : Rn n nx T k j i b) (hi : (nx j).length ≤ i ∨ atB b j = false) : Rn n nx T k (j + 1) 0 b := by
  refine ⟨h.len, h.sound, h.old, fun v w h0 h1 h2 h3 => ?_, fun u hu => by simp at hu⟩
  by_cases e : v = j
  · subst e
    rcases hi with hi | hi
    · exact h.cur w (by rw [List.take_of_length_le hi]; exact h3) h1 h2
    · rw [h.old v h1 h2] at hi
      cases hi
  · exact h.new v w (by omega) h1 h2 h3
theorem Rn.round (hT : Table n nx F T) {k : Nat} {j : Int} {b : List Bool} (h : Rn n nx T k j 0 b) (hj : (n : Int) ≤ j) : Rn n nx T (k + 1) 0 0 b := by
  refine ⟨h.len, h.sound, fun v h1 h2 => ?_, fun v w h0 h1 => by have := dom_of hT.len h1; unfold Dom at this; omega, fun u hu => by simp at hu⟩
  by_cases hk : atI T v ≤ k
  · exact h.old v h1 hk
  · obtain ⟨u, h3, h4⟩ := hT.pred (v := v) (k := k) (by omega)
    exact h.new u v (by have := dom_of hT.len (v := u) (by omega); unfold Dom at this; omega) (by omega) (by omega) h3
theorem Rn.begin {l : List Int} (hT : Table n nx (Fr n l) T) : Rn n nx T 0 0 0 (begF n l) := by
  have h := Ra.begin (rd := nx) hT
  exact ⟨h.len, h.sound, h.old, fun v w h0 h1 => by have := dom_of hT.len h1; unfold Dom at this; omega, fun u hu => by simp at hu⟩
theorem Rn.fin (hT : Table n nx F T) {k : Nat} {b : List Bool} (h : Rn n nx T k 0 0 b) (hk : n ≤ k) : listF b = metF T := by
  refine Ra.fin (rd := fun _ => []) hT (k := k) ⟨h.len, h.sound, h.old, fun v h0 h1 => by have := dom_of hT.len h1; unfold Dom at this; omega, fun u hu => by simp at hu⟩ hk

/-! Rounds of steps. -/
structure Rs (n : Nat) (rd : Int → List Int) (T : List Int) (k : Nat) (j : Int) (i : Nat) (o : List Int) : Prop where
  len : o.length = n
  low : ∀ v, -1 ≤ atI o v
  sound : ∀ v, 0 ≤ atI o v → 0 ≤ atI T v ∧ atI T v ≤ atI o v
  old : ∀ v, 0 ≤ atI T v → atI T v ≤ k → atI o v = atI T v
  new : ∀ v, v < j → 0 ≤ atI T v → atI T v ≤ (k : Int) + 1 → atI o v = atI T v
  cur : ∀ u ∈ (rd j).take i, 0 ≤ atI T u → atI T u ≤ k → 0 ≤ atI o j ∧ atI o j ≤ atI T u + 1
  top : ∀ v, atI o v + negs o ≤ n
theorem Rs.skip {k i : Nat} {j : Int} {o : List Int} (h : Rs n rd T k j i o) {u : Int} (hu : (rd j)[i]? = some u) (hs : atI o u < 0 ∨ (0 ≤ atI o j ∧ atI o j ≤ atI o u + 1)) : Rs n rd T k j (i + 1) o := by
  refine ⟨h.len, h.low, h.sound, h.old, h.new, fun w hw h1 h2 => ?_, h.top⟩
  rw [List.take_add_one, hu, List.mem_append] at hw
  rcases hw with hw | hw
  · exact h.cur w hw h1 h2
  · simp only [Option.toList_some, List.mem_singleton] at hw
    subst hw
    have := h.old w h1 h2
    omega
theorem Rs.step (hT : Table n nx F T) (hr : ∀ u v, Dom n v → (v ∈ nx u ↔ u ∈ rd v)) {k i : Nat} {j : Int} {o : List Int} (h : Rs n rd T k j i o) (hj : Dom n j) {u : Int} (hu : (rd j)[i]? = some u) (h0 : 0 ≤ atI o u) (hs : atI o j < 0 ∨ atI o u + 1 < atI o j) :
    Rs n rd T k j (i + 1) (o.set j.toNat (atI o u + 1)) := by
  have hset := atI_set (o := o) (v := j) (by rw [h.len]; exact hj) (atI o u + 1)
  have hsu := h.sound u h0
  have hc := hT.closed u j hsu.1 ((hr u j hj).2 (List.mem_of_getElem? hu))
  have hj' : ¬ (atI o j = atI T j) := fun e => by omega
  refine ⟨by rw [List.length_set]; exact h.len, fun v => ?_, fun v hv => ?_, fun v h1 h2 => ?_, fun v hvj h1 h2 => ?_, fun w hw h1 h2 => ?_, fun v => ?_⟩
  · rw [hset]
    split
    · omega
    · exact h.low v
  · rw [hset] at hv ⊢
    split
    · rename_i e
      subst e
      omega
    · rename_i e
      rw [if_neg e] at hv
      exact h.sound v hv
  · rw [hset, if_neg]
    · exact h.old v h1 h2
    · intro e
      subst e
      exact hj' (h.old v h1 h2)
  · rw [hset, if_neg (by omega)]
    exact h.new v hvj h1 h2
  · rw [hset, if_pos rfl]
    rw [List.take_add_one, hu, List.mem_append] at hw
    rcases hw with hw | hw
    · have := h.cur w hw h1 h2
      omega
    · simp only [Option.toList_some, List.mem_singleton] at hw
      subst hw
      have := h.old w h1 h2
      omega
  · have hg := atI_get (o := o) (v := j) (by rw [h.len]; exact hj)
    have ht := h.top u
    have htv := h.top v
    rw [hset]
    by_cases hn : atI o j < 0
    · have := negs_set (x := atI o u + 1) hg hn (by omega)
      split <;> omega
    · have := negs_same (x := atI o u + 1) hg (by omega) (by omega)
      have htj := h.top j
      split <;> omega
theorem Rs.next (hT : Table n nx F T) (hr : ∀ u v, Dom n v → (v ∈ nx u ↔ u ∈ rd v)) {k i : Nat} {j : Int} {o : List Int} (h : Rs n rd T k j i o) (hi : (rd j).length ≤ i) : Rs n rd T k (j + 1) 0 o := by
  refine ⟨h.len, h.low, h.sound, h.old, fun v hv h1 h2 => ?_, fun u hu => by simp at hu, h.top⟩
  by_cases e : v = j
  · subst e
    by_cases hk : atI T v ≤ k
    · exact h.old v h1 hk
    · obtain ⟨u, h3, h4⟩ := hT.pred (v := v) (k := k) (by omega)
      have h5 := h.cur u (by rw [List.take_of_length_le hi]; exact (hr u v (dom_of hT.len h1)).1 h3) (by omega) (by omega)
      have h6 := h.sound v h5.1
      omega
  · exact h.new v (by omega) h1 h2
theorem Rs.round (hT : Table n nx F T) {k : Nat} {j : Int} {o : List Int} (h : Rs n rd T k j 0 o) (hj : (n : Int) ≤ j) : Rs n rd T (k + 1) 0 0 o :=
  ⟨h.len, h.low, h.sound, fun v h1 h2 => h.new v (by have := dom_of hT.len h1; unfold Dom at this; omega) h1 (by omega), fun v hv h1 => by have := dom_of hT.len h1; unfold Dom at this; omega, fun u hu => by simp at hu, h.top⟩
theorem Rs.fin (hT : Table n nx F T) {k : Nat} {o : List Int} (h : Rs n rd T k 0 0 o) (hk : n ≤ k) : o = T := by
  refine ext_at (h.len.trans hT.len.symm) fun v _ => ?_
  by_cases h1 : 0 ≤ atI T v
  · have := hT.lt (v := v) (k := (atI T v).toNat) (by omega)
    exact h.old v h1 (by omega)
  · have h2 := h.low v
    have h3 := hT.low v
    by_cases h4 : 0 ≤ atI o v
    · have := h.sound v h4
      omega
    · omega
end
def beg0 (n : Nat) (l : List Int) : List Int := (List.range n).map fun (v : Nat) => if l.contains (v : Int) = true then 0 else -1
theorem beg0_succ (n : Nat) (l : List Int) : beg0 (n + 1) l = beg0 n l ++ [if l.contains (n : Int) = true then 0 else -1] := by simp [beg0, List.range_succ]
theorem at_beg0 {n : Nat} {l : List Int} {v : Int} (hd : Dom n v) : atI (beg0 n l) v = if l.contains v = true then 0 else -1 := by
  have := atI_get (o := beg0 n l) (v := v) (by simpa [beg0] using hd)
  unfold beg0 at this ⊢
  rw [List.getElem?_map, List.getElem?_range (by unfold Dom at hd; omega)] at this
  simp only [Option.map_some, Option.some.injEq] at this
  rw [Int.toNat_of_nonneg hd.1] at this
  exact this.symm
theorem Rs.begin {n : Nat} {nx rd : Int → List Int} {T : List Int} {l : List Int} (hT : Table n nx (Fr n l) T) : Rs n rd T 0 0 0 (beg0 n l) := by
  have hlen : (beg0 n l).length = n := by simp [beg0]
  have hz : ∀ v, 0 ≤ atI (beg0 n l) v → atI (beg0 n l) v = 0 ∧ Fr n l v := fun v hv => by
    have hd := dom_of hlen hv
    rw [at_beg0 hd] at hv ⊢
    split
    · rename_i h
      exact ⟨rfl, hd, List.contains_iff_mem.1 h⟩
    · rename_i h
      rw [if_neg h] at hv
      omega
  refine ⟨hlen, fun v => ?_, fun v hv => ?_, fun v h1 h2 => ?_, fun v hv h1 => by have := dom_of hT.len h1; unfold Dom at this; omega, fun u hu => by simp at hu, fun v => ?_⟩
  · by_cases hd : Dom n v
    · rw [at_beg0 hd]
      split <;> omega
    · rw [atI_out hlen hd]
      omega
  · obtain ⟨a, b⟩ := hz v hv
    rw [hT.zero v b]
    omega
  · have h3 := hT.sound v 0 (by omega)
    cases h3 with
    | zero h3 =>
      rw [at_beg0 h3.1, if_pos (List.contains_iff_mem.2 h3.2)]
      omega
  · have hn : negs (beg0 n l) ≤ n := by
      have := List.length_filter_le (fun x => decide (x < 0)) (beg0 n l)
      rw [hlen] at this
      exact this
    by_cases h1 : 0 ≤ atI (beg0 n l) v
    · rw [(hz v h1).1]
      omega
    · omega
end Go.Proofs.Ytojflfogjkajaaa.Rc
