/-
  Reach: tables of steps, in plain lists.
-/
import Derived.Test.YtojflfogjkajaaaGf6
namespace Go.Proofs.Ytojflfogjkajaaa.Rc

def atI (o : List Int) (v : Int) : Int := if 0 ≤ v then o.getD v.toNat (-1) else -1
def Dom (n : Nat) (v : Int) : Prop := 0 ≤ v ∧ v < n
/-- A way of so many steps. -/
inductive Pth (nx : Int → List Int) (F : Int → Prop) : Nat → Int → Prop
  | zero {v : Int} : F v → Pth nx F 0 v
  | succ {k : Nat} {v w : Int} : Pth nx F k v → w ∈ nx v → Pth nx F (k + 1) w
/-- How many steps off each is. -/
structure Table (n : Nat) (nx : Int → List Int) (F : Int → Prop) (o : List Int) : Prop where
  len : o.length = n
  low : ∀ v, -1 ≤ atI o v
  zero : ∀ v, F v → atI o v = 0
  sound : ∀ v (k : Nat), atI o v = k → Pth nx F k v
  closed : ∀ v w, 0 ≤ atI o v → w ∈ nx v → 0 ≤ atI o w ∧ atI o w ≤ atI o v + 1

theorem atI_out {n : Nat} {o : List Int} (h : o.length = n) {v : Int} (hv : ¬ Dom n v) : atI o v = -1 := by
  unfold atI
  split
  · rw [List.getD_eq_getElem?_getD, List.getElem?_eq_none (by unfold Dom at hv; omega)]
    rfl
  · rfl
theorem dom_of {n : Nat} {o : List Int} (h : o.length = n) {v : Int} (hv : 0 ≤ atI o v) : Dom n v := by
  apply Classical.byContradiction
  intro hn
  rw [atI_out h hn] at hv
  omega
theorem atI_get {o : List Int} {v : Int} (hv : Dom o.length v) : o[v.toNat]? = some (atI o v) := by
  unfold atI
  unfold Dom at hv
  rw [if_pos hv.1, List.getD_eq_getElem?_getD, List.getElem?_eq_getElem (show v.toNat < o.length by omega)]
  rfl
theorem atI_set {o : List Int} {v : Int} (hv : Dom o.length v) (x u : Int) : atI (o.set v.toNat x) u = if u = v then x else atI o u := by
  unfold atI
  unfold Dom at hv
  by_cases hu : 0 ≤ u
  · rw [if_pos hu, if_pos hu, List.getD_eq_getElem?_getD, List.getD_eq_getElem?_getD, List.getElem?_set]
    by_cases e : u = v
    · subst e
      rw [if_pos rfl, if_pos rfl, if_pos (by omega)]
      rfl
    · rw [if_neg (by omega), if_neg e]
  · rw [if_neg hu, if_neg hu, if_neg (by omega)]
section
variable {n : Nat} {nx : Int → List Int} {F : Int → Prop} {o o' : List Int}
theorem Table.exact (h : Table n nx F o) : ∀ {k : Nat} {v : Int}, Pth nx F k v → 0 ≤ atI o v ∧ atI o v ≤ k
  | _, _, .zero hf => by rw [h.zero _ hf]; omega
  | _, _, .succ hp he => by
    have h1 := h.exact hp
    have h2 := h.closed _ _ h1.1 he
    omega
theorem Table.le (h : Table n nx F o) (h' : Table n nx F o') {v : Int} (hv : 0 ≤ atI o v) : 0 ≤ atI o' v ∧ atI o' v ≤ atI o v := by
  have := h'.exact (h.sound v (atI o v).toNat (by omega))
  omega
theorem Table.same (h : Table n nx F o) (h' : Table n nx F o') (v : Int) : atI o v = atI o' v := by
  have h1 := h.low v
  have h2 := h'.low v
  by_cases hv : 0 ≤ atI o v
  · have a := h.le h' hv
    have b := h'.le h a.1
    omega
  · by_cases hw : 0 ≤ atI o' v
    · have b := h'.le h hw
      omega
    · omega
theorem ext_at {o o' : List Int} (hl : o.length = o'.length) (h : ∀ v, Dom o.length v → atI o v = atI o' v) : o = o' := by
  apply List.ext_getElem hl
  intro i h1 h2
  have := h i ⟨by omega, by omega⟩
  unfold atI at this
  rw [if_pos (by omega), if_pos (by omega), List.getD_eq_getElem?_getD, List.getD_eq_getElem?_getD, List.getElem?_eq_getElem (by simpa using h1), List.getElem?_eq_getElem (by simpa using h2)] at this
  simpa using this
theorem Table.uniq (h : Table n nx F o) (h' : Table n nx F o') : o = o' := ext_at (h.len.trans h'.len.symm) fun v _ => h.same h' v
theorem Table.pred (h : Table n nx F o) {v : Int} {k : Nat} (hv : atI o v = (k : Int) + 1) : ∃ u, v ∈ nx u ∧ atI o u = k := by
  have := h.sound v (k + 1) (by omega)
  cases this with
  | succ hp he =>
    rename_i u
    have h1 := h.exact hp
    have h2 := h.closed _ _ h1.1 he
    exact ⟨u, he, by omega⟩
theorem sub_len : ∀ {l m : List Int}, l.Nodup → (∀ x ∈ l, x ∈ m) → l.length ≤ m.length
  | [], _, _, _ => by simp
  | x :: l, m, h, hs => by
    obtain ⟨h1, h2⟩ := List.nodup_cons.1 h
    have hx := hs x List.mem_cons_self
    have := sub_len (m := m.erase x) h2 fun y hy => (List.mem_erase_of_ne (fun e => by subst e; exact h1 hy)).2 (hs y (List.mem_cons_of_mem _ hy))
    rw [List.length_erase_of_mem hx] at this
    have : 0 < m.length := List.length_pos_of_mem hx
    simp only [List.length_cons]
    omega
theorem Table.has (h : Table n nx F o) : ∀ {k : Nat} {v : Int}, atI o v = k → ∀ j : Nat, j ≤ k → (j : Int) ∈ o
  | 0, v, hv, j, hj => by
    have := atI_get (o := o) (v := v) (by rw [h.len]; exact dom_of h.len (by omega))
    rw [hv] at this
    rw [show j = 0 by omega]
    exact List.mem_of_getElem? this
  | k + 1, v, hv, j, hj => by
    by_cases e : j = k + 1
    · have := atI_get (o := o) (v := v) (by rw [h.len]; exact dom_of h.len (by omega))
      rw [hv] at this
      rw [e]
      exact List.mem_of_getElem? this
    · obtain ⟨u, _, hu⟩ := h.pred (v := v) (k := k) (by omega)
      exact h.has hu j (by omega)
theorem nodup_range (k : Nat) : ((List.range k).map fun (j : Nat) => (j : Int)).Nodup := by
  rw [List.nodup_iff_pairwise_ne, List.pairwise_map]
  exact List.Pairwise.imp (fun {a b} hne e => hne (by omega)) (List.nodup_iff_pairwise_ne.1 List.nodup_range)
theorem Table.lt (h : Table n nx F o) {k : Nat} {v : Int} (hv : atI o v = k) : k < n := by
  have := sub_len (l := (List.range (k + 1)).map fun (j : Nat) => (j : Int)) (m := o) (nodup_range _) (by
    intro x hx
    obtain ⟨j, hj, rfl⟩ := List.mem_map.1 hx
    exact h.has hv j (by have := List.mem_range.1 hj; omega))
  rw [List.length_map, List.length_range, h.len] at this
  omega

/-! The row of those that wait. -/
structure Bf (n : Nat) (nx : Int → List Int) (F : Int → Prop) (o row : List Int) : Prop where
  len : o.length = n
  low : ∀ v, -1 ≤ atI o v
  zero : ∀ v, F v → atI o v = 0
  sound : ∀ v (k : Nat), atI o v = k → Pth nx F k v
  inrow : ∀ v ∈ row, 0 ≤ atI o v
  sorted : row.Pairwise fun a b => atI o a ≤ atI o b
  top : ∀ v w, v ∈ row → 0 ≤ atI o w → atI o w ≤ atI o v + 1
  closed : ∀ v w, 0 ≤ atI o v → v ∉ row → w ∈ nx v → 0 ≤ atI o w ∧ atI o w ≤ atI o v + 1
theorem Bf.table (h : Bf n nx F o []) : Table n nx F o := ⟨h.len, h.low, h.zero, h.sound, fun v w hv he => h.closed v w hv (by simp) he⟩
/-- One of them is taken; so many of those behind it are put. -/
structure Bi (n : Nat) (nx : Int → List Int) (F : Int → Prop) (v : Int) (i : Nat) (o row : List Int) : Prop where
  len : o.length = n
  low : ∀ v, -1 ≤ atI o v
  zero : ∀ v, F v → atI o v = 0
  sound : ∀ v (k : Nat), atI o v = k → Pth nx F k v
  cur : 0 ≤ atI o v
  rowle : ∀ u ∈ row, atI o v ≤ atI o u
  sorted : row.Pairwise fun a b => atI o a ≤ atI o b
  top : ∀ w, 0 ≤ atI o w → atI o w ≤ atI o v + 1
  done : ∀ w ∈ (nx v).take i, 0 ≤ atI o w
  closed : ∀ u w, 0 ≤ atI o u → u ∉ row → u ≠ v → w ∈ nx u → 0 ≤ atI o w ∧ atI o w ≤ atI o u + 1
theorem Bf.pop {v : Int} {row : List Int} (h : Bf n nx F o (v :: row)) : Bi n nx F v 0 o row := by
  obtain ⟨h1, h2⟩ := List.pairwise_cons.1 h.sorted
  refine ⟨h.len, h.low, h.zero, h.sound, h.inrow v List.mem_cons_self, h1, h2, fun w hw => h.top v w List.mem_cons_self hw, fun w hw => by simp at hw, fun u w hu hr hne he => h.closed u w hu (fun hm => ?_) he⟩
  rcases List.mem_cons.1 hm with e | e
  · exact hne e
  · exact hr e
theorem Bi.next {v : Int} {row : List Int} {i : Nat} (h : Bi n nx F v i o row) (hi : (nx v).length ≤ i) : Bf n nx F o row := by
  refine ⟨h.len, h.low, h.zero, h.sound, fun u hu => ?_, h.sorted, fun u w hu hw => ?_, fun u w hu hr he => ?_⟩
  · have := h.rowle u hu
    have := h.cur
    omega
  · have := h.rowle u hu
    have := h.top w hw
    omega
  · by_cases e : u = v
    · subst e
      have h1 := h.done w (by rw [List.take_of_length_le hi]; exact he)
      exact ⟨h1, h.top w h1⟩
    · exact h.closed u w hu hr e he
/-- What is put is there, or is no node. -/
theorem Bi.skip {v x : Int} {row : List Int} {i : Nat} (h : Bi n nx F v i o row) (hx : (nx v)[i]? = some x) (hx0 : 0 ≤ atI o x) : Bi n nx F v (i + 1) o row := by
  refine ⟨h.len, h.low, h.zero, h.sound, h.cur, h.rowle, h.sorted, h.top, fun w hw => ?_, h.closed⟩
  rw [List.take_add_one, hx, List.mem_append] at hw
  rcases hw with hw | hw
  · exact h.done w hw
  · simp only [Option.toList_some, List.mem_singleton] at hw
    rw [hw]; exact hx0
theorem Bi.put {v x : Int} {row : List Int} {i : Nat} (h : Bi n nx F v i o row) (hx : (nx v)[i]? = some x) (hd : Dom n x) (hx0 : atI o x < 0) : Bi n nx F v (i + 1) (o.set x.toNat (atI o v + 1)) (row ++ [x]) := by
  have hs : ∀ u, atI (o.set x.toNat (atI o v + 1)) u = if u = x then atI o v + 1 else atI o u := fun u => atI_set (by rw [h.len]; exact hd) _ u
  have hc := h.cur
  have hvx : v ≠ x := fun e => by rw [e] at hc; omega
  have hev : atI (o.set x.toNat (atI o v + 1)) v = atI o v := by rw [hs, if_neg hvx]
  have hxm := List.mem_of_getElem? hx
  have hne : ∀ u ∈ row, u ≠ x := fun u hu e => by have := h.rowle u hu; rw [e] at this; omega
  refine ⟨by rw [List.length_set]; exact h.len, fun u => ?_, fun u hu => ?_, fun u k hk => ?_, by rw [hev]; exact hc, fun u hu => ?_, ?_, fun w hw => ?_, fun w hw => ?_, fun u w hu hr hn he => ?_⟩
  · rw [hs]
    split
    · omega
    · exact h.low u
  · have := h.zero u hu
    rw [hs, if_neg (fun e => by rw [e] at this; omega)]
    exact this
  · rw [hs] at hk
    split at hk
    · rename_i e
      have := Pth.succ (h.sound v (atI o v).toNat (by omega)) hxm
      rw [e, show k = (atI o v).toNat + 1 by omega]
      exact this
    · exact h.sound u k hk
  · rw [hev, hs]
    split
    · omega
    · rename_i e
      rcases List.mem_append.1 hu with hu | hu
      · exact h.rowle u hu
      · exact absurd (List.mem_singleton.1 hu) e
  · rw [List.pairwise_append]
    refine ⟨?_, by simp, fun a ha b hb => ?_⟩
    · refine List.Pairwise.imp_of_mem (fun {a b} ha hb hab => ?_) h.sorted
      rw [hs, hs, if_neg (hne a ha), if_neg (hne b hb)]
      exact hab
    · rw [List.mem_singleton] at hb
      rw [hs, hs, if_neg (hne a ha), if_pos hb]
      have := h.rowle a ha
      exact h.top a (by omega)
  · rw [hev]
    rw [hs] at hw ⊢
    split
    · omega
    · rename_i e
      rw [if_neg e] at hw
      exact h.top w hw
  · rw [List.take_add_one, hx, List.mem_append] at hw
    rw [hs]
    split
    · omega
    · rename_i e
      rcases hw with hw | hw
      · exact h.done w hw
      · simp only [Option.toList_some, List.mem_singleton] at hw
        exact absurd hw e
  · rw [List.mem_append, not_or] at hr
    have hux : u ≠ x := fun e => hr.2 (by simp [e])
    rw [hs, if_neg hux] at hu
    have h1 := h.closed u w hu hr.1 hn he
    rw [hs, hs, if_neg hux, if_neg (fun e => by rw [e] at h1; omega)]
    exact h1
end

/-! The first ones. -/
def Fr (n : Nat) (l : List Int) (v : Int) : Prop := Dom n v ∧ v ∈ l
structure Bs (n : Nat) (l : List Int) (i : Nat) (o row : List Int) : Prop where
  len : o.length = n
  two : ∀ v, atI o v = -1 ∨ atI o v = 0
  row : ∀ v, v ∈ row ↔ atI o v = 0
  done : ∀ v, atI o v = 0 ↔ Fr n (l.take i) v
theorem Bs.begin (n : Nat) (l : List Int) : Bs n l 0 (List.replicate n (-1)) [] := by
  have h1 : ∀ v, atI (List.replicate n (-1)) v = -1 := fun v => by
    unfold atI
    split
    · rw [List.getD_eq_getElem?_getD, List.getElem?_replicate]
      split <;> rfl
    · rfl
  exact ⟨by simp, fun v => .inl (h1 v), fun v => by rw [h1]; simp, fun v => by rw [h1]; simp [Fr]⟩
theorem Bs.skip {n : Nat} {l : List Int} {i : Nat} {o row : List Int} {x : Int} (h : Bs n l i o row) (hx : l[i]? = some x) (hs : ¬ (Dom n x ∧ atI o x < 0)) : Bs n l (i + 1) o row := by
  refine ⟨h.len, h.two, h.row, fun v => ?_⟩
  rw [h.done v, List.take_add_one, hx]
  unfold Fr
  simp only [Option.toList_some, List.mem_append, List.mem_singleton]
  refine ⟨fun ⟨a, b⟩ => ⟨a, .inl b⟩, fun ⟨a, b⟩ => ⟨a, ?_⟩⟩
  rcases b with b | b
  · exact b
  · subst b
    have h0 : atI o v = 0 := by
      rcases h.two v with h1 | h1
      · exact absurd ⟨a, by omega⟩ hs
      · exact h1
    exact ((h.done v).1 h0).2
theorem Bs.put {n : Nat} {l : List Int} {i : Nat} {o row : List Int} {x : Int} (h : Bs n l i o row) (hx : l[i]? = some x) (hd : Dom n x) (hx0 : atI o x < 0) : Bs n l (i + 1) (o.set x.toNat 0) (row ++ [x]) := by
  have hs : ∀ u, atI (o.set x.toNat 0) u = if u = x then 0 else atI o u := fun u => atI_set (by rw [h.len]; exact hd) _ u
  refine ⟨by rw [List.length_set]; exact h.len, fun v => ?_, fun v => ?_, fun v => ?_⟩
  · rw [hs]
    split
    · exact .inr rfl
    · exact h.two v
  · rw [hs, List.mem_append, List.mem_singleton, h.row]
    split
    · rename_i e
      simp [e]
    · rename_i e
      simp [e]
  · rw [hs, List.take_add_one, hx]
    unfold Fr
    simp only [Option.toList_some, List.mem_append, List.mem_singleton]
    split
    · rename_i e
      subst e
      simp [hd]
    · rename_i e
      rw [h.done]
      unfold Fr
      simp [e]
theorem Bs.fin {n : Nat} {l : List Int} {i : Nat} {o row : List Int} (h : Bs n l i o row) (hi : l.length ≤ i) (nx : Int → List Int) : Bf n nx (Fr n l) o row := by
  have hd : ∀ v, atI o v = 0 ↔ Fr n l v := fun v => by rw [h.done, List.take_of_length_le hi]
  have hz : ∀ v, 0 ≤ atI o v → atI o v = 0 := fun v hv => by rcases h.two v with e | e <;> omega
  refine ⟨h.len, fun v => by rcases h.two v with e | e <;> omega, fun v hv => (hd v).2 hv, fun v k hk => ?_, fun v hv => by rw [(h.row v).1 hv]; omega, ?_, fun v w hv hw => ?_, fun v w hv hr => ?_⟩
  · have := hz v (by omega)
    rw [show k = 0 by omega]
    exact .zero ((hd v).1 this)
  · rw [List.pairwise_iff_getElem]
    intro i j hi hj _
    rw [(h.row _).1 (List.getElem_mem hi), (h.row _).1 (List.getElem_mem hj)]
    omega
  · rw [hz w hw, (h.row v).1 hv]
    omega
  · exact absurd ((h.row v).2 (hz v hv)) hr

/-! How much is left. -/
def negs (o : List Int) : Nat := (o.filter fun x => decide (x < 0)).length
theorem negs_set {o : List Int} {k : Nat} {y x : Int} (hk : o[k]? = some y) (hy : y < 0) (hx : 0 ≤ x) : negs (o.set k x) + 1 = negs o := by
  induction o generalizing k with
  | nil => simp at hk
  | cons a o ih =>
    cases k with
    | zero =>
      simp only [List.getElem?_cons_zero, Option.some.injEq] at hk
      subst hk
      simp only [List.set_cons_zero, negs, List.filter_cons]
      rw [if_neg (by simp; omega), if_pos (by simpa using hy)]
      rfl
    | succ k =>
      have := ih (k := k) (by simpa using hk)
      simp only [List.set_cons_succ, negs, List.filter_cons] at this ⊢
      split
      · simp only [List.length_cons]
        omega
      · exact this
theorem negs_same {o : List Int} {k : Nat} {y x : Int} (hk : o[k]? = some y) (hy : 0 ≤ y) (hx : 0 ≤ x) : negs (o.set k x) = negs o := by
  induction o generalizing k with
  | nil => simp at hk
  | cons a o ih =>
    cases k with
    | zero =>
      simp only [List.getElem?_cons_zero, Option.some.injEq] at hk
      subst hk
      simp only [List.set_cons_zero, negs, List.filter_cons]
      rw [if_neg (by simp; omega), if_neg (by simp; omega)]
    | succ k =>
      have := ih (k := k) (by simpa using hk)
      simp only [List.set_cons_succ, negs, List.filter_cons] at this ⊢
      split
      · simp only [List.length_cons]
        omega
      · exact this
end Go.Proofs.Ytojflfogjkajaaa.Rc
