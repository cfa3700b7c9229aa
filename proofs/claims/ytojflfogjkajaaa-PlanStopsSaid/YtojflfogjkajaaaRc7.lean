/-
  law13: ReachSteps, ReachCloses.
-/
import Derived.Test.YtojflfogjkajaaaGf6
section
namespace Go.Proofs.Ytojflfogjkajaaa.Rc
def atI (o : List Int) (v : Int) : Int := if 0 ≤ v then o.getD v.toNat (-1) else -1
def Dom (n : Nat) (v : Int) : Prop := 0 ≤ v ∧ v < n
inductive Pth (nx : Int → List Int) (F : Int → Prop) : Nat → Int → Prop
  | zero {v : Int} : F v → Pth nx F 0 v
  | succ {k : Nat} {v w : Int} : Pth nx F k v → w ∈ nx v → Pth nx F (k + 1) w
structure Table (n : Nat) (nx : Int → List Int) (F : Int → Prop) (o : List Int) : Prop where
  len : o.length = n
  low : ∀ v, -1 ≤ atI o v
  zero : ∀ v, F v → atI o v = 0
  sound : ∀ v (k : Nat), atI o v = k → Pth nx F k v
  closed : ∀ v w, 0 ≤ atI o v → w ∈ nx v → 0 ≤ atI o w ∧ atI o w ≤ atI o v + 1
theorem atI_out {n : Nat} {o : List Int} (h : o.length = n) {v : Int} (hv : ¬ Dom n v) : atI o v = -1 := by
  unfold atI
  split
  · rw [List.getD_eq_getElem?_getD, List.getElem?_eq_none (by unfold Dom at hv; omega)]
    rfl
  · rfl
theorem dom_of {n : Nat} {o : List Int} (h : o.length = n) {v : Int} (hv : 0 ≤ atI o v) : Dom n v := by
  apply Classical.byContradiction
  intro hn
  rw [atI_out h hn] at hv
  omega
theorem atI_get {o : List Int} {v : Int} (hv : Dom o.length v) : o[v.toNat]? = some (atI o v) := by
  unfold atI
  unfold Dom at hv
  rw [if_pos hv.1, List.getD_eq_getElem?_getD, List.getElem?_eq_getElem (show v.toNat < o.length by omega)]
  rfl
theorem atI_set {o : List Int} {v : Int} (hv : Dom o.length v) (x u : Int) : atI (o.set v.toNat x) u = if u = v then x else atI o u := by
  unfold atI
  unfold Dom at hv
  by_cases hu : 0 ≤ u
  · rw [if_pos hu, if_pos hu, List.getD_eq_getElem?_getD, List.getD_eq_getElem?_getD, List.getElem?_set]
    by_cases e : u = v
    · subst e
      rw [if_pos rfl, if_pos rfl, if_pos (by omega)]
      rfl
    · rw [if_neg (by omega), if_neg e]
  · rw [if_neg hu, if_neg hu, if_neg (by omega)]
section
variable {n : Nat} {nx : Int → List Int} {F : Int → Prop} {o o' : List Int}
theorem Table.exact (h : Table n nx F o) : ∀ {k : Nat} {v : Int}, Pth nx F k v → 0 ≤ atI o v ∧ atI o v ≤ k
  | _, _, .zero hf => by rw [h.zero _ hf]; omega
  | _, _, .succ hp he => by
    have h1 := h.exact hp
    have h2 := h.closed _ _ h1.1 he
    omega
theorem Table.le (h : Table n nx F o) (h' : Table n nx F o') {v : Int} (hv : 0 ≤ atI o v) : 0 ≤ atI o' v ∧ atI o' v ≤ atI o v := by
  have := h'.exact (h.sound v (atI o v).toNat (by omega))
  omega
theorem Table.same (h : Table n nx F o) (h' : Table n nx F o') (v : Int) : atI o v = atI o' v := by
  have h1 := h.low v
  have h2 := h'.low v
  by_cases hv : 0 ≤ atI o v
  · have a := h.le h' hv
    have b := h'.le h a.1
    omega
  · by_cases hw : 0 ≤ atI o' v
    · have b := h'.le h hw
      omega
    · omega
theorem ext_at {o o' : List Int} (hl : o.length = o'.length) (h : ∀ v, Dom o.length v → atI o v = atI o' v) : o = o' := by
  apply List.ext_getElem hl
  intro i h1 h2
  have := h i ⟨by omega, by omega⟩
  unfold atI at this
  rw [if_pos (by omega), if_pos (by omega), List.getD_eq_getElem?_getD, List.getD_eq_getElem?_getD, List.getElem?_eq_getElem (by simpa using h1), List.getElem?_eq_getElem (by simpa using h2)] at this
  simpa using this
theorem Table.uniq (h : Table n nx F o) (h' : Table n nx F o') : o = o' := ext_at (h.len.trans h'.len.symm) fun v _ => h.same h' v
theorem Table.pred (h : Table n nx F o) {v : Int} {k : Nat} (hv : atI o v = (k : Int) + 1) : ∃ u, v ∈ nx u ∧ atI o u = k := by
  have := h.sound v (k + 1) (by omega)
  cases this with
  | succ hp he =>
    rename_i u
    have h1 := h.exact hp
    have h2 := h.closed _ _ h1.1 he
    exact ⟨u, he, by omega⟩
theorem sub_len : ∀ {l m : List Int}, l.Nodup → (∀ x ∈ l, x ∈ m) → l.length ≤ m.length
  | [], _, _, _ => by simp
  | x :: l, m, h, hs => by
    obtain ⟨h1, h2⟩ := List.nodup_cons.1 h
    have hx := hs x List.mem_cons_self
    have := sub_len (m := m.erase x) h2 fun y hy => (List.mem_erase_of_ne (fun e => by subst e; exact h1 hy)).2 (hs y (List.mem_cons_of_mem _ hy))
    rw [List.length_erase_of_mem hx] at this
    have : 0 < m.length := List.length_pos_of_mem hx
    simp only [List.length_cons]
    omega
theorem Table.has (h : Table n nx F o) : ∀ {k : Nat} {v : Int}, atI o v = k → ∀ j : Nat, j ≤ k → (j : Int) ∈ o
  | 0, v, hv, j, hj => by
    have := atI_get (o := o) (v := v) (by rw [h.len]; exact dom_of h.len (by omega))
    rw [hv] at this
    rw [show j = 0 by omega]
    exact List.mem_of_getElem? this
  | k + 1, v, hv, j, hj => by
    by_cases e : j = k + 1
    · have := atI_get (o := o) (v := v) (by rw [h.len]; exact dom_of h.len (by omega))
      rw [hv] at this
      rw [e]
      exact List.mem_of_getElem? this
    · obtain ⟨u, _, hu⟩ := h.pred (v := v) (k := k) (by omega)
      exact h.has hu j (by omega)
theorem nodup_range (k : Nat) : ((List.range k).map fun (j : Nat) => (j : Int)).Nodup := by
  rw [List.nodup_iff_pairwise_ne, List.pairwise_map]
  exact List.Pairwise.imp (fun {a b} hne e => hne (by omega)) (List.nodup_iff_pairwise_ne.1 List.nodup_range)
theorem Table.lt (h : Table n nx F o) {k : Nat} {v : Int} (hv : atI o v = k) : k < n := by
  have := sub_len (l := (List.range (k + 1)).map fun (j : Nat) => (j : Int)) (m := o) (nodup_range _) (by
    intro x hx
    obtain ⟨j, hj, rfl⟩ := List.mem_map.1 hx
    exact h.has hv j (by have := List.mem_range.1 hj; omega))
  rw [List.length_map, List.length_range, h.len] at this
  omega
structure Bf (n : Nat) (nx : Int → List Int) (F : Int → Prop) (o row : List Int) : Prop where
  len : o.length = n
  low : ∀ v, -1 ≤ atI o v
  zero : ∀ v, F v → atI o v = 0
  sound : ∀ v (k : Nat), atI o v = k → Pth nx F k v
  inrow : ∀ v ∈ row, 0 ≤ atI o v
  sorted : row.Pairwise fun a b => atI o a ≤ atI o b
  top : ∀ v w, v ∈ row → 0 ≤ atI o w → atI o w ≤ atI o v + 1
  closed : ∀ v w, 0 ≤ atI o v → v ∉ row → w ∈ nx v → 0 ≤ atI o w ∧ atI o w ≤ atI o v + 1
theorem Bf.table (h : Bf n nx F o []) : Table n nx F o := ⟨h.len, h.low, h.zero, h.sound, fun v w hv he => h.closed v w hv (by simp) he⟩
structure Bi (n : Nat) (nx : Int → List Int) (F : Int → Prop) (v : Int) (i : Nat) (o row : List Int) : Prop where
  len : o.length = n
  low : ∀ v, -1 ≤ atI o v
  zero : ∀ v, F v → atI o v = 0
  sound : ∀ v (k : Nat), atI o v = k → Pth nx F k v
  cur : 0 ≤ atI o v
  rowle : ∀ u ∈ row, atI o v ≤ atI o u
  sorted : row.Pairwise fun a b => atI o a ≤ atI o b
  top : ∀ w, 0 ≤ atI o w → atI o w ≤ atI o v + 1
  done : ∀ w ∈ (nx v).take i, 0 ≤ atI o w
  closed : ∀ u w, 0 ≤ atI o u → u ∉ row → u ≠ v → w ∈ nx u → 0 ≤ atI o w ∧ atI o w ≤ atI o u + 1
theorem Bf.pop {v : Int} {row : List Int} (h : Bf n nx F o (v :: row)) : Bi n nx F v 0 o row := by
  obtain ⟨h1, h2⟩ := List.pairwise_cons.1 h.sorted
  refine ⟨h.len, h.low, h.zero, h.sound, h.inrow v List.mem_cons_self, h1, h2, fun w hw => h.top v w List.mem_cons_self hw, fun w hw => by simp at hw, fun u w hu hr hne he => h.closed u w hu (fun hm => ?_) he⟩
  rcases List.mem_cons.1 hm with e | e
  · exact hne e
  · exact hr e
theorem Bi.next {v : Int} {row : List Int} {i : Nat} (h : Bi n nx F v i o row) (hi : (nx v).length ≤ i) : Bf n nx F o row := by
  refine ⟨h.len, h.low, h.zero, h.sound, fun u hu => ?_, h.sorted, fun u w hu hw => ?_, fun u w hu hr he => ?_⟩
  · have := h.rowle u hu
    have := h.cur
    omega
  · have := h.rowle u hu
    have := h.top w hw
    omega
  · by_cases e : u = v
    · subst e
      have h1 := h.done w (by rw [List.take_of_length_le hi]; exact he)
      exact ⟨h1, h.top w h1⟩
    · exact h.closed u w hu hr e he
theorem Bi.skip {v x : Int} {row : List Int} {i : Nat} (h : Bi n nx F v i o row) (hx : (nx v)[i]? = some x) (hx0 : 0 ≤ atI o x) : Bi n nx F v (i + 1) o row := by
  refine ⟨h.len, h.low, h.zero, h.sound, h.cur, h.rowle, h.sorted, h.top, fun w hw => ?_, h.closed⟩
  rw [List.take_add_one, hx, List.mem_append] at hw
  rcases hw with hw | hw
  · exact h.done w hw
  · simp only [Option.toList_some, List.mem_singleton] at hw
    rw [hw]; exact hx0
theorem Bi.put {v x : Int} {row : List Int} {i : Nat} (h : Bi n nx F v i o row) (hx : (nx v)[i]? = some x) (hd : Dom n x) (hx0 : atI o x < 0) : Bi n nx F v (i + 1) (o.set x.toNat (atI o v + 1)) (row ++ [x]) := by
  have hs : ∀ u, atI (o.set x.toNat (atI o v + 1)) u = if u = x then atI o v + 1 else atI o u := fun u => atI_set (by rw [h.len]; exact hd) _ u
  have hc := h.cur
  have hvx : v ≠ x := fun e => by rw [e] at hc; omega
  have hev : atI (o.set x.toNat (atI o v + 1)) v = atI o v := by rw [hs, if_neg hvx]
  have hxm := List.mem_of_getElem? hx
  have hne : ∀ u ∈ row, u ≠ x := fun u hu e => by have := h.rowle u hu; rw [e] at this; omega
  refine ⟨by rw [List.length_set]; exact h.len, fun u => ?_, fun u hu => ?_, fun u k hk => ?_, by rw [hev]; exact hc, fun u hu => ?_, ?_, fun w hw => ?_, fun w hw => ?_, fun u w hu hr hn he => ?_⟩
  · rw [hs]
    split
    · omega
    · exact h.low u
  · have := h.zero u hu
    rw [hs, if_neg (fun e => by rw [e] at this; omega)]
    exact this
  · rw [hs] at hk
    split at hk
    · rename_i e
      have := Pth.succ (h.sound v (atI o v).toNat (by omega)) hxm
      rw [e, show k = (atI o v).toNat + 1 by omega]
      exact this
    · exact h.sound u k hk
  · rw [hev, hs]
    split
    · omega
    · rename_i e
      rcases List.mem_append.1 hu with hu | hu
      · exact h.rowle u hu
      · exact absurd (List.mem_singleton.1 hu) e
  · rw [List.pairwise_append]
    refine ⟨?_, by simp, fun a ha b hb => ?_⟩
    · refine List.Pairwise.imp_of_mem (fun {a b} ha hb hab => ?_) h.sorted
      rw [hs, hs, if_neg (hne a ha), if_neg (hne b hb)]
      exact hab
    · rw [List.mem_singleton] at hb
      rw [hs, hs, if_neg (hne a ha), if_pos hb]
      have := h.rowle a ha
      exact h.top a (by omega)
  · rw [hev]
    rw [hs] at hw ⊢
    split
    · omega
    · rename_i e
      rw [if_neg e] at hw
      exact h.top w hw
  · rw [List.take_add_one, hx, List.mem_append] at hw
    rw [hs]
    split
    · omega
    · rename_i e
      rcases hw with hw | hw
      · exact h.done w hw
      · simp only [Option.toList_some, List.mem_singleton] at hw
        exact absurd hw e
  · rw [List.mem_append, not_or] at hr
    have hux : u ≠ x := fun e => hr.2 (by simp [e])
    rw [hs, if_neg hux] at hu
    have h1 := h.closed u w hu hr.1 hn he
    rw [hs, hs, if_neg hux, if_neg (fun e => by rw [e] at h1; omega)]
    exact h1
end
def Fr (n : Nat) (l : List Int) (v : Int) : Prop := Dom n v ∧ v ∈ l
structure Bs (n : Nat) (l : List Int) (i : Nat) (o row : List Int) : Prop where
  len : o.length = n
  two : ∀ v, atI o v = -1 ∨ atI o v = 0
  row : ∀ v, v ∈ row ↔ atI o v = 0
  done : ∀ v, atI o v = 0 ↔ Fr n (l.take i) v
theorem Bs.begin (n : Nat) (l : List Int) : Bs n l 0 (List.replicate n (-1)) [] := by
  have h1 : ∀ v, atI (List.replicate n (-1)) v = -1 := fun v => by
    unfold atI
    split
    · rw [List.getD_eq_getElem?_getD, List.getElem?_replicate]
      split <;> rfl
    · rfl
  exact ⟨by simp, fun v => .inl (h1 v), fun v => by rw [h1]; simp, fun v => by rw [h1]; simp [Fr]⟩
theorem Bs.skip {n : Nat} {l : List Int} {i : Nat} {o row : List Int} {x : Int} (h : Bs n l i o row) (hx : l[i]? = some x) (hs : ¬ (Dom n x ∧ atI o x < 0)) : Bs n l (i + 1) o row := by
  refine ⟨h.len, h.two, h.row, fun v => ?_⟩
  rw [h.done v, List.take_add_one, hx]
  unfold Fr
  simp only [Option.toList_some, List.mem_append, List.mem_singleton]
  refine ⟨fun ⟨a, b⟩ => ⟨a, .inl b⟩, fun ⟨a, b⟩ => ⟨a, ?_⟩⟩
  rcases b with b | b
  · exact b
  · subst b
    have h0 : atI o v = 0 := by
      rcases h.two v with h1 | h1
      · exact absurd ⟨a, by omega⟩ hs
      · exact h1
    exact ((h.done v).1 h0).2
theorem Bs.put {n : Nat} {l : List Int} {i : Nat} {o row : List Int} {x : Int} (h : Bs n l i o row) (hx : l[i]? = some x) (hd : Dom n x) (hx0 : atI o x < 0) : Bs n l (i + 1) (o.set x.toNat 0) (row ++ [x]) := by
  have hs : ∀ u, atI (o.set x.toNat 0) u = if u = x then 0 else atI o u := fun u => atI_set (by rw [h.len]; exact hd) _ u
  refine ⟨by rw [List.length_set]; exact h.len, fun v => ?_, fun v => ?_, fun v => ?_⟩
  · rw [hs]
    split
    · exact .inr rfl
    · exact h.two v
  · rw [hs, List.mem_append, List.mem_singleton, h.row]
    split
    · rename_i e
      simp [e]
    · rename_i e
      simp [e]
  · rw [hs, List.take_add_one, hx]
    unfold Fr
    simp only [Option.toList_some, List.mem_append, List.mem_singleton]
    split
    · rename_i e
      subst e
      simp [hd]
    · rename_i e
      rw [h.done]
      unfold Fr
      simp [e]
theorem Bs.fin {n : Nat} {l : List Int} {i : Nat} {o row : List Int} (h : Bs n l i o row) (hi : l.length ≤ i) (nx : Int → List Int) : Bf n nx (Fr n l) o row := by
  have hd : ∀ v, atI o v = 0 ↔ Fr n l v := fun v => by rw [h.done, List.take_of_length_le hi]
  have hz : ∀ v, 0 ≤ atI o v → atI o v = 0 := fun v hv => by rcases h.two v with e | e <;> omega
  refine ⟨h.len, fun v => by rcases h.two v with e | e <;> omega, fun v hv => (hd v).2 hv, fun v k hk => ?_, fun v hv => by rw [(h.row v).1 hv]; omega, ?_, fun v w hv hw => ?_, fun v w hv hr => ?_⟩
  · have := hz v (by omega)
    rw [show k = 0 by omega]
    exact .zero ((hd v).1 this)
  · rw [List.pairwise_iff_getElem]
    intro i j hi hj _
    rw [(h.row _).1 (List.getElem_mem hi), (h.row _).1 (List.getElem_mem hj)]
    omega
  · rw [hz w hw, (h.row v).1 hv]
    omega
  · exact absurd ((h.row v).2 (hz v hv)) hr
def negs (o : List Int) : Nat := (o.filter fun x => decide (x < 0)).length
theorem negs_set {o : List Int} {k : Nat} {y x : Int} (hk : o[k]? = some y) (hy : y < 0) (hx : 0 ≤ x) : negs (o.set k x) + 1 = negs o := by
  induction o generalizing k with
  | nil => simp at hk
  | cons a o ih =>
    cases k with
    | zero =>
      simp only [List.getElem?_cons_zero, Option.some.injEq] at hk
      subst hk
      simp only [List.set_cons_zero, negs, List.filter_cons]
      rw [if_neg (by simp; omega), if_pos (by simpa using hy)]
      rfl
    | succ k =>
      have := ih (k := k) (by simpa using hk)
      simp only [List.set_cons_succ, negs, List.filter_cons] at this ⊢
      split
      · simp only [List.length_cons]
        omega
      · exact this
theorem negs_same {o : List Int} {k : Nat} {y x : Int} (hk : o[k]? = some y) (hy : 0 ≤ y) (hx : 0 ≤ x) : negs (o.set k x) = negs o := by
  induction o generalizing k with
  | nil => simp at hk
  | cons a o ih =>
    cases k with
    | zero =>
      simp only [List.getElem?_cons_zero, Option.some.injEq] at hk
      subst hk
      simp only [List.set_cons_zero, negs, List.filter_cons]
      rw [if_neg (by simp; omega), if_neg (by simp; omega)]
    | succ k =>
      have := ih (k := k) (by simpa using hk)
      simp only [List.set_cons_succ, negs, List.filter_cons] at this ⊢
      split
      · simp only [List.length_cons]
        omega
      · exact this
end Go.Proofs.Ytojflfogjkajaaa.Rc
end
section
namespace Go.Proofs.Ytojflfogjkajaaa.Rc
theorem least {p : Nat → Prop} : ∀ k, p k → ∃ m, p m ∧ ∀ j, p j → m ≤ j := by
  intro k
  induction k using Nat.strongRecOn with
  | ind k ih =>
    intro hk
    by_cases h : ∃ j, j < k ∧ p j
    · obtain ⟨j, h1, h2⟩ := h
      exact ih j h1 h2
    · exact ⟨k, hk, fun j hj => Nat.le_of_not_lt fun hlt => h ⟨j, hlt, hj⟩⟩
open Classical in
noncomputable def distF (nx : Int → List Int) (F : Int → Prop) (v : Int) : Int := if h : ∃ m, Pth nx F m v ∧ ∀ j, Pth nx F j v → m ≤ j then ((Classical.choose h : Nat) : Int) else -1
noncomputable def stepsF (n : Nat) (nx : Int → List Int) (F : Int → Prop) : List Int := (List.range n).map fun (v : Nat) => distF nx F v
theorem dist_of {nx : Int → List Int} {F : Int → Prop} {v : Int} {k : Nat} (h : Pth nx F k v) : ∃ m : Nat, distF nx F v = m ∧ Pth nx F m v ∧ m ≤ k := by
  have h1 := least (p := fun k => Pth nx F k v) k h
  unfold distF
  rw [dif_pos h1]
  obtain ⟨a, b⟩ := Classical.choose_spec h1
  exact ⟨_, rfl, a, b k h⟩
theorem dist_inv {nx : Int → List Int} {F : Int → Prop} {v : Int} : distF nx F v = -1 ∨ ∃ m : Nat, distF nx F v = m ∧ Pth nx F m v := by
  by_cases h : ∃ m, Pth nx F m v ∧ ∀ j, Pth nx F j v → m ≤ j
  · refine .inr ?_
    obtain ⟨m, h1, _⟩ := h
    obtain ⟨m', a, b, _⟩ := dist_of h1
    exact ⟨m', a, b⟩
  · unfold distF
    rw [dif_neg h]
    exact .inl rfl
theorem at_steps {n : Nat} {nx : Int → List Int} {F : Int → Prop} {v : Int} (h : Dom n v) : atI (stepsF n nx F) v = distF nx F v := by
  unfold atI stepsF
  unfold Dom at h
  rw [if_pos h.1, List.getD_eq_getElem?_getD, List.getElem?_map, List.getElem?_range (show v.toNat < n by omega)]
  simp only [Option.map_some, Option.getD_some]
  rw [Int.toNat_of_nonneg h.1]
theorem steps_table {n : Nat} {nx : Int → List Int} {F : Int → Prop} (hF : ∀ v, F v → Dom n v) (hn : ∀ v w, Dom n v → w ∈ nx v → Dom n w) : Table n nx F (stepsF n nx F) := by
  have hlen : (stepsF n nx F).length = n := by simp [stepsF]
  have hp : ∀ (k : Nat) (v : Int), Pth nx F k v → Dom n v := by
    intro k v h
    induction h with
    | zero h => exact hF _ h
    | succ _ he ih => exact hn _ _ ih he
  refine ⟨hlen, fun v => ?_, fun v hv => ?_, fun v k hk => ?_, fun v w hv he => ?_⟩
  · by_cases hd : Dom n v
    · rw [at_steps hd]
      rcases dist_inv (nx := nx) (F := F) (v := v) with h | ⟨m, h, _⟩ <;> omega
    · rw [atI_out hlen hd]
      omega
  · rw [at_steps (hF v hv)]
    obtain ⟨m, h1, _, h2⟩ := dist_of (Pth.zero (nx := nx) hv)
    omega
  · have hd := dom_of hlen (v := v) (by omega)
    rw [at_steps hd] at hk
    rcases dist_inv (nx := nx) (F := F) (v := v) with h | ⟨m, h, h2⟩
    · omega
    · rw [show k = m by omega]
      exact h2
  · have hd := dom_of hlen hv
    rw [at_steps hd] at hv ⊢
    rw [at_steps (hn v w hd he)]
    rcases dist_inv (nx := nx) (F := F) (v := v) with h | ⟨m, h, h2⟩
    · omega
    · obtain ⟨m', a, _, b⟩ := dist_of (Pth.succ h2 he)
      omega
theorem Table.eq {n : Nat} {nx : Int → List Int} {F : Int → Prop} {o : List Int} (h : Table n nx F o) (hF : ∀ v, F v → Dom n v) (hn : ∀ v w, Dom n v → w ∈ nx v → Dom n w) : o = stepsF n nx F := h.uniq (steps_table hF hn)
def ixs (p : Nat → Bool) (n : Nat) : List Int := ((List.range n).filter p).map fun (v : Nat) => (v : Int)
theorem ixs_succ (p : Nat → Bool) (n : Nat) : ixs p (n + 1) = ixs p n ++ if p n = true then [(n : Int)] else [] := by
  unfold ixs
  rw [List.range_succ, List.filter_append, List.map_append]
  congr 1
  by_cases h : p n = true
  · simp only [List.filter_cons, h, if_true, List.filter_nil, List.map_cons, List.map_nil]
  · have h : p n = false := by simpa using h
    simp only [List.filter_cons, h, Bool.false_eq_true, if_false, List.filter_nil, List.map_nil]
theorem ixs_le (p : Nat → Bool) (n : Nat) : (ixs p n).length ≤ n := by
  unfold ixs
  rw [List.length_map]
  exact Nat.le_trans (List.length_filter_le _ _) (by simp)
theorem mem_ixs {p : Nat → Bool} {n : Nat} {v : Int} : v ∈ ixs p n ↔ Dom n v ∧ p v.toNat = true := by
  unfold ixs Dom
  simp only [List.mem_map, List.mem_filter, List.mem_range]
  constructor
  · rintro ⟨u, ⟨h1, h2⟩, rfl⟩
    exact ⟨by omega, by simpa using h2⟩
  · rintro ⟨h1, h2⟩
    exact ⟨v.toNat, ⟨by omega, h2⟩, by omega⟩
theorem ixs_congr {p q : Nat → Bool} {n : Nat} (h : ∀ i, i < n → p i = q i) : ixs p n = ixs q n := by
  unfold ixs
  congr 1
  apply List.filter_congr
  intro i hi
  exact h i (List.mem_range.1 hi)
def metF (o : List Int) : List Int := ixs (fun i => decide (0 ≤ atI o i)) o.length
theorem mem_met {o : List Int} {v : Int} : v ∈ metF o ↔ 0 ≤ atI o v := by
  unfold metF
  rw [mem_ixs]
  constructor
  · rintro ⟨h1, h2⟩
    rw [Int.toNat_of_nonneg h1.1] at h2
    simpa using h2
  · intro h
    have h1 := dom_of rfl h
    refine ⟨h1, ?_⟩
    rw [Int.toNat_of_nonneg h1.1]
    simpa using h
def atB (b : List Bool) (v : Int) : Bool := if 0 ≤ v then b.getD v.toNat false else false
def listF (b : List Bool) : List Int := ixs (fun i => atB b i) b.length
def begF (n : Nat) (l : List Int) : List Bool := (List.range n).map fun (v : Nat) => l.contains (v : Int)
theorem begF_succ (n : Nat) (l : List Int) : begF (n + 1) l = begF n l ++ [l.contains (n : Int)] := by simp [begF, List.range_succ]
theorem atB_get {b : List Bool} {v : Int} (hv : Dom b.length v) : b[v.toNat]? = some (atB b v) := by
  unfold atB
  unfold Dom at hv
  rw [if_pos hv.1, List.getD_eq_getElem?_getD, List.getElem?_eq_getElem (show v.toNat < b.length by omega)]
  rfl
theorem atB_set {b : List Bool} {v : Int} (hv : Dom b.length v) (x : Bool) (u : Int) : atB (b.set v.toNat x) u = if u = v then x else atB b u := by
  unfold atB
  unfold Dom at hv
  by_cases hu : 0 ≤ u
  · rw [if_pos hu, if_pos hu, List.getD_eq_getElem?_getD, List.getD_eq_getElem?_getD, List.getElem?_set]
    by_cases e : u = v
    · subst e
      rw [if_pos rfl, if_pos rfl, if_pos (by omega)]
      rfl
    · rw [if_neg (by omega), if_neg e]
  · rw [if_neg hu, if_neg hu, if_neg (by omega)]
theorem atB_dom {n : Nat} {b : List Bool} (h : b.length = n) {v : Int} (hv : atB b v = true) : Dom n v := by
  unfold atB at hv
  split at hv
  · refine ⟨by assumption, ?_⟩
    apply Classical.byContradiction
    intro hn
    rw [List.getD_eq_getElem?_getD, List.getElem?_eq_none (by omega)] at hv
    cases hv
  · cases hv
theorem at_beg {n : Nat} {l : List Int} {v : Int} : atB (begF n l) v = true ↔ Fr n l v := by
  constructor
  · intro h
    have hd := atB_dom (n := n) (by simp [begF]) h
    have := atB_get (b := begF n l) (v := v) (by simpa [begF] using hd)
    unfold begF at this
    rw [List.getElem?_map, List.getElem?_range (by unfold Dom at hd; omega)] at this
    simp only [Option.map_some, Option.some.injEq] at this
    rw [Int.toNat_of_nonneg hd.1] at this
    unfold begF at h
    rw [← this] at h
    exact ⟨hd, List.contains_iff_mem.1 h⟩
  · rintro ⟨hd, hm⟩
    have := atB_get (b := begF n l) (v := v) (by simpa [begF] using hd)
    unfold begF at this
    rw [List.getElem?_map, List.getElem?_range (by unfold Dom at hd; omega)] at this
    simp only [Option.map_some, Option.some.injEq] at this
    rw [Int.toNat_of_nonneg hd.1] at this
    unfold begF
    rw [← this]
    exact List.contains_iff_mem.2 hm
section
variable {n : Nat} {nx rd : Int → List Int} {F : Int → Prop} {T : List Int}
structure Ra (n : Nat) (rd : Int → List Int) (T : List Int) (k : Nat) (j : Int) (i : Nat) (b : List Bool) : Prop where
  len : b.length = n
  sound : ∀ v, atB b v = true → 0 ≤ atI T v
  old : ∀ v, 0 ≤ atI T v → atI T v ≤ k → atB b v = true
  new : ∀ v, v < j → 0 ≤ atI T v → atI T v ≤ (k : Int) + 1 → atB b v = true
  cur : ∀ u ∈ (rd j).take i, 0 ≤ atI T u → atI T u ≤ k → atB b j = true
theorem Ra.step (hT : Table n nx F T) (hr : ∀ u v, Dom n v → (v ∈ nx u ↔ u ∈ rd v)) {k i : Nat} {j : Int} {b : List Bool} (h : Ra n rd T k j i b) (hj : Dom n j) {u : Int} (hu : (rd j)[i]? = some u) :
    Ra n rd T k j (i + 1) (b.set j.toNat (atB b j || atB b u)) := by
  have hs := atB_set (b := b) (v := j) (by rw [h.len]; exact hj) (atB b j || atB b u)
  have hm : ∀ v, atB b v = true → atB (b.set j.toNat (atB b j || atB b u)) v = true := fun v hv => by
    rw [hs]
    split
    · rename_i e
      subst e
      rw [hv, Bool.true_or]
    · exact hv
  refine ⟨by rw [List.length_set]; exact h.len, fun v hv => ?_, fun v h1 h2 => hm _ (h.old v h1 h2), fun v hj h1 h2 => hm _ (h.new v hj h1 h2), fun w hw h1 h2 => ?_⟩
  · rw [hs] at hv
    split at hv
    · rename_i e
      subst e
      rw [Bool.or_eq_true] at hv
      rcases hv with hv | hv
      · exact h.sound v hv
      · exact (hT.closed u v (h.sound u hv) ((hr u v hj).2 (List.mem_of_getElem? hu))).1
    · exact h.sound v hv
  · rw [List.take_add_one, hu, List.mem_append] at hw
    rcases hw with hw | hw
    · exact hm _ (h.cur w hw h1 h2)
    · simp only [Option.toList_some, List.mem_singleton] at hw
      subst hw
      rw [hs, if_pos rfl, h.old w h1 h2, Bool.or_true]
theorem Ra.next (hT : Table n nx F T) (hr : ∀ u v, Dom n v → (v ∈ nx u ↔ u ∈ rd v)) {k i : Nat} {j : Int} {b : List Bool} (h : Ra n rd T k j i b) (hi : (rd j).length ≤ i) : Ra n rd T k (j + 1) 0 b := by
  refine ⟨h.len, h.sound, h.old, fun v hv h1 h2 => ?_, fun u hu => by simp at hu⟩
  by_cases e : v = j
  · subst e
    by_cases hk : atI T v ≤ k
    · exact h.old v h1 hk
    · obtain ⟨u, h3, h4⟩ := hT.pred (v := v) (k := k) (by omega)
      exact h.cur u (by rw [List.take_of_length_le hi]; exact (hr u v (dom_of hT.len h1)).1 h3) (by omega) (by omega)
  · exact h.new v (by omega) h1 h2
theorem Ra.round {k : Nat} {j : Int} {b : List Bool} (hT : Table n nx F T) (h : Ra n rd T k j 0 b) (hj : (n : Int) ≤ j) : Ra n rd T (k + 1) 0 0 b :=
  ⟨h.len, h.sound, fun v h1 h2 => h.new v (by have := dom_of hT.len h1; unfold Dom at this; omega) h1 (by omega), fun v hv h1 => by have := dom_of hT.len h1; unfold Dom at this; omega, fun u hu => by simp at hu⟩
theorem Ra.begin {l : List Int} (hT : Table n nx (Fr n l) T) : Ra n rd T 0 0 0 (begF n l) := by
  refine ⟨by simp [begF], fun v hv => ?_, fun v h1 h2 => ?_, fun v hv h1 => by have := dom_of hT.len h1; unfold Dom at this; omega, fun u hu => by simp at hu⟩
  · rw [hT.zero v (at_beg.1 hv)]
    omega
  · have h3 := hT.sound v 0 (by omega)
    cases h3 with
    | zero h3 => exact at_beg.2 h3
theorem Ra.fin (hT : Table n nx F T) {k : Nat} {b : List Bool} (h : Ra n rd T k 0 0 b) (hk : n ≤ k) : listF b = metF T := by
  unfold listF metF
  rw [h.len, hT.len]
  apply ixs_congr
  intro i hi
  rw [Bool.eq_iff_iff, decide_eq_true_eq]
  refine ⟨h.sound i, fun h1 => h.old i h1 ?_⟩
  have := hT.lt (v := (i : Int)) (k := (atI T i).toNat) (by omega)
  omega
structure Rn (n : Nat) (nx : Int → List Int) (T : List Int) (k : Nat) (j : Int) (i : Nat) (b : List Bool) : Prop where
  len : b.length = n
  sound : ∀ v, atB b v = true → 0 ≤ atI T v
  old : ∀ v, 0 ≤ atI T v → atI T v ≤ k → atB b v = true
  new : ∀ v w, v < j → 0 ≤ atI T v → atI T v ≤ k → w ∈ nx v → atB b w = true
  cur : ∀ w ∈ (nx j).take i, 0 ≤ atI T j → atI T j ≤ k → atB b w = true
theorem Rn.step (hT : Table n nx F T) {k i : Nat} {j : Int} {b : List Bool} (h : Rn n nx T k j i b) (hb : atB b j = true) {w : Int} (hw : (nx j)[i]? = some w) : Dom n w ∧ Rn n nx T k j (i + 1) (b.set w.toNat true) := by
  have hc := hT.closed j w (h.sound j hb) (List.mem_of_getElem? hw)
  have hd := dom_of hT.len hc.1
  have hs := atB_set (b := b) (v := w) (by rw [h.len]; exact hd) true
  have hm : ∀ v, atB b v = true → atB (b.set w.toNat true) v = true := fun v hv => by
    rw [hs]
    split
    · rfl
    · exact hv
  refine ⟨hd, by rw [List.length_set]; exact h.len, fun v hv => ?_, fun v h1 h2 => hm _ (h.old v h1 h2), fun v x h0 h1 h2 h3 => hm _ (h.new v x h0 h1 h2 h3), fun x hx h1 h2 => ?_⟩
  · rw [hs] at hv
    split at hv
    · rename_i e
      rw [e]
      exact hc.1
    · exact h.sound v hv
  · rw [List.take_add_one, hw, List.mem_append] at hx
    rcases hx with hx | hx
    · exact hm _ (h.cur x hx h1 h2)
    · simp only [Option.toList_some, List.mem_singleton] at hx
      rw [hs, if_pos hx]
theorem Rn.next {k i : Nat} {j : Int} {b : List Bool} (h : Rn n nx T k j i b) (hi : (nx j).length ≤ i ∨ atB b j = false) : Rn n nx T k (j + 1) 0 b := by
  refine ⟨h.len, h.sound, h.old, fun v w h0 h1 h2 h3 => ?_, fun u hu => by simp at hu⟩
  by_cases e : v = j
  · subst e
    rcases hi with hi | hi
    · exact h.cur w (by rw [List.take_of_length_le hi]; exact h3) h1 h2
    · rw [h.old v h1 h2] at hi
      cases hi
  · exact h.new v w (by omega) h1 h2 h3
theorem Rn.round (hT : Table n nx F T) {k : Nat} {j : Int} {b : List Bool} (h : Rn n nx T k j 0 b) (hj : (n : Int) ≤ j) : Rn n nx T (k + 1) 0 0 b := by
  refine ⟨h.len, h.sound, fun v h1 h2 => ?_, fun v w h0 h1 => by have := dom_of hT.len h1; unfold Dom at this; omega, fun u hu => by simp at hu⟩
  by_cases hk : atI T v ≤ k
  · exact h.old v h1 hk
  · obtain ⟨u, h3, h4⟩ := hT.pred (v := v) (k := k) (by omega)
    exact h.new u v (by have := dom_of hT.len (v := u) (by omega); unfold Dom at this; omega) (by omega) (by omega) h3
theorem Rn.begin {l : List Int} (hT : Table n nx (Fr n l) T) : Rn n nx T 0 0 0 (begF n l) := by
  have h := Ra.begin (rd := nx) hT
  exact ⟨h.len, h.sound, h.old, fun v w h0 h1 => by have := dom_of hT.len h1; unfold Dom at this; omega, fun u hu => by simp at hu⟩
theorem Rn.fin (hT : Table n nx F T) {k : Nat} {b : List Bool} (h : Rn n nx T k 0 0 b) (hk : n ≤ k) : listF b = metF T := by
  refine Ra.fin (rd := fun _ => []) hT (k := k) ⟨h.len, h.sound, h.old, fun v h0 h1 => by have := dom_of hT.len h1; unfold Dom at this; omega, fun u hu => by simp at hu⟩ hk
structure Rs (n : Nat) (rd : Int → List Int) (T : List Int) (k : Nat) (j : Int) (i : Nat) (o : List Int) : Prop where
  len : o.length = n
  low : ∀ v, -1 ≤ atI o v
  sound : ∀ v, 0 ≤ atI o v → 0 ≤ atI T v ∧ atI T v ≤ atI o v
  old : ∀ v, 0 ≤ atI T v → atI T v ≤ k → atI o v = atI T v
  new : ∀ v, v < j → 0 ≤ atI T v → atI T v ≤ (k : Int) + 1 → atI o v = atI T v
  cur : ∀ u ∈ (rd j).take i, 0 ≤ atI T u → atI T u ≤ k → 0 ≤ atI o j ∧ atI o j ≤ atI T u + 1
  top : ∀ v, atI o v + negs o ≤ n
theorem Rs.skip {k i : Nat} {j : Int} {o : List Int} (h : Rs n rd T k j i o) {u : Int} (hu : (rd j)[i]? = some u) (hs : atI o u < 0 ∨ (0 ≤ atI o j ∧ atI o j ≤ atI o u + 1)) : Rs n rd T k j (i + 1) o := by
  refine ⟨h.len, h.low, h.sound, h.old, h.new, fun w hw h1 h2 => ?_, h.top⟩
  rw [List.take_add_one, hu, List.mem_append] at hw
  rcases hw with hw | hw
  · exact h.cur w hw h1 h2
  · simp only [Option.toList_some, List.mem_singleton] at hw
    subst hw
    have := h.old w h1 h2
    omega
theorem Rs.step (hT : Table n nx F T) (hr : ∀ u v, Dom n v → (v ∈ nx u ↔ u ∈ rd v)) {k i : Nat} {j : Int} {o : List Int} (h : Rs n rd T k j i o) (hj : Dom n j) {u : Int} (hu : (rd j)[i]? = some u) (h0 : 0 ≤ atI o u) (hs : atI o j < 0 ∨ atI o u + 1 < atI o j) :
    Rs n rd T k j (i + 1) (o.set j.toNat (atI o u + 1)) := by
  have hset := atI_set (o := o) (v := j) (by rw [h.len]; exact hj) (atI o u + 1)
  have hsu := h.sound u h0
  have hc := hT.closed u j hsu.1 ((hr u j hj).2 (List.mem_of_getElem? hu))
  have hj' : ¬ (atI o j = atI T j) := fun e => by omega
  refine ⟨by rw [List.length_set]; exact h.len, fun v => ?_, fun v hv => ?_, fun v h1 h2 => ?_, fun v hvj h1 h2 => ?_, fun w hw h1 h2 => ?_, fun v => ?_⟩
  · rw [hset]
    split
    · omega
    · exact h.low v
  · rw [hset] at hv ⊢
    split
    · rename_i e
      subst e
      omega
    · rename_i e
      rw [if_neg e] at hv
      exact h.sound v hv
  · rw [hset, if_neg]
    · exact h.old v h1 h2
    · intro e
      subst e
      exact hj' (h.old v h1 h2)
  · rw [hset, if_neg (by omega)]
    exact h.new v hvj h1 h2
  · rw [hset, if_pos rfl]
    rw [List.take_add_one, hu, List.mem_append] at hw
    rcases hw with hw | hw
    · have := h.cur w hw h1 h2
      omega
    · simp only [Option.toList_some, List.mem_singleton] at hw
      subst hw
      have := h.old w h1 h2
      omega
  · have hg := atI_get (o := o) (v := j) (by rw [h.len]; exact hj)
    have ht := h.top u
    have htv := h.top v
    rw [hset]
    by_cases hn : atI o j < 0
    · have := negs_set (x := atI o u + 1) hg hn (by omega)
      split <;> omega
    · have := negs_same (x := atI o u + 1) hg (by omega) (by omega)
      have htj := h.top j
      split <;> omega
theorem Rs.next (hT : Table n nx F T) (hr : ∀ u v, Dom n v → (v ∈ nx u ↔ u ∈ rd v)) {k i : Nat} {j : Int} {o : List Int} (h : Rs n rd T k j i o) (hi : (rd j).length ≤ i) : Rs n rd T k (j + 1) 0 o := by
  refine ⟨h.len, h.low, h.sound, h.old, fun v hv h1 h2 => ?_, fun u hu => by simp at hu, h.top⟩
  by_cases e : v = j
  · subst e
    by_cases hk : atI T v ≤ k
    · exact h.old v h1 hk
    · obtain ⟨u, h3, h4⟩ := hT.pred (v := v) (k := k) (by omega)
      have h5 := h.cur u (by rw [List.take_of_length_le hi]; exact (hr u v (dom_of hT.len h1)).1 h3) (by omega) (by omega)
      have h6 := h.sound v h5.1
      omega
  · exact h.new v (by omega) h1 h2
theorem Rs.round (hT : Table n nx F T) {k : Nat} {j : Int} {o : List Int} (h : Rs n rd T k j 0 o) (hj : (n : Int) ≤ j) : Rs n rd T (k + 1) 0 0 o :=
  ⟨h.len, h.low, h.sound, fun v h1 h2 => h.new v (by have := dom_of hT.len h1; unfold Dom at this; omega) h1 (by omega), fun v hv h1 => by have := dom_of hT.len h1; unfold Dom at this; omega, fun u hu => by simp at hu, h.top⟩
theorem Rs.fin (hT : Table n nx F T) {k : Nat} {o : List Int} (h : Rs n rd T k 0 0 o) (hk : n ≤ k) : o = T := by
  refine ext_at (h.len.trans hT.len.symm) fun v _ => ?_
  by_cases h1 : 0 ≤ atI T v
  · have := hT.lt (v := v) (k := (atI T v).toNat) (by omega)
    exact h.old v h1 (by omega)
  · have h2 := h.low v
    have h3 := hT.low v
    by_cases h4 : 0 ≤ atI o v
    · have := h.sound v h4
      omega
    · omega
end
def beg0 (n : Nat) (l : List Int) : List Int := (List.range n).map fun (v : Nat) => if l.contains (v : Int) = true then 0 else -1
theorem at_beg0 {n : Nat} {l : List Int} {v : Int} (hd : Dom n v) : atI (beg0 n l) v = if l.contains v = true then 0 else -1 := by
  have := atI_get (o := beg0 n l) (v := v) (by simpa [beg0] using hd)
  unfold beg0 at this ⊢
  rw [List.getElem?_map, List.getElem?_range (by unfold Dom at hd; omega)] at this
  simp only [Option.map_some, Option.some.injEq] at this
  rw [Int.toNat_of_nonneg hd.1] at this
  exact this.symm
theorem Rs.begin {n : Nat} {nx rd : Int → List Int} {T : List Int} {l : List Int} (hT : Table n nx (Fr n l) T) : Rs n rd T 0 0 0 (beg0 n l) := by
  have hlen : (beg0 n l).length = n := by simp [beg0]
  have hz : ∀ v, 0 ≤ atI (beg0 n l) v → atI (beg0 n l) v = 0 ∧ Fr n l v := fun v hv => by
    have hd := dom_of hlen hv
    rw [at_beg0 hd] at hv ⊢
    split
    · rename_i h
      exact ⟨rfl, hd, List.contains_iff_mem.1 h⟩
    · rename_i h
      rw [if_neg h] at hv
      omega
  refine ⟨hlen, fun v => ?_, fun v hv => ?_, fun v h1 h2 => ?_, fun v hv h1 => by have := dom_of hT.len h1; unfold Dom at this; omega, fun u hu => by simp at hu, fun v => ?_⟩
  · by_cases hd : Dom n v
    · rw [at_beg0 hd]
      split <;> omega
    · rw [atI_out hlen hd]
      omega
  · obtain ⟨a, b⟩ := hz v hv
    rw [hT.zero v b]
    omega
  · have h3 := hT.sound v 0 (by omega)
    cases h3 with
    | zero h3 =>
      rw [at_beg0 h3.1, if_pos (List.contains_iff_mem.2 h3.2)]
      omega
  · have hn : negs (beg0 n l) ≤ n := by
      have := List.length_filter_le (fun x => decide (x < 0)) (beg0 n l)
      rw [hlen] at this
      exact this
    by_cases h1 : 0 ≤ atI (beg0 n l) v
    · rw [(hz v h1).1]
      omega
    · omega
end Go.Proofs.Ytojflfogjkajaaa.Rc
end
section
def Go.Vm.St.ints (st : Go.Vm.St) (i : Nat) : List Int := match st.σ.get i with
  | some (.arr _ (.int .i64) l) => l
  | _ => []
namespace Go.Proofs.Ytojflfogjkajaaa.Rc
open Go.Vm Go.Proofs.Ytojflfogjkajaaa.Gr
noncomputable def env_met (l : List Int) : Env where
  P := Try.prog
  ty := tys0
  heads := fun | 3 => some { slots := [(3, .slc 18 I), (8, .int .i64)], boxes := [], inv := fun _ (x : List Int × Int × Unit) => 0 ≤ x.2.1 ∧ x.2.1 ≤ l.length ∧ x.1 = ixs (fun i => decide (0 ≤ atI l i)) x.2.1.toNat, measure := fun _ (x : List Int × Int × Unit) => (l.length - x.2.1).toNat } | _ => none
def g_met_vc (l : List Int) : Prop :=
  (True ∧ (0 : Int) ≤ (0 : Int) ∧ (0 : Int) ≤ (↑l.length : Int) ∧ [] = ixs (fun i => decide ((0 : Int) ≤ atI l (↑i : Int))) (Int.toNat (0 : Int))) ∧ ∀ (x : List Int × Int × Unit), (0 : Int) ≤ x.2.1 ∧ x.2.1 ≤ (↑l.length : Int) ∧ x.1 = ixs (fun i => decide ((0 : Int) ≤ atI l (↑i : Int))) x.2.1.toNat → (decide (x.2.1 < (↑l.length : Int)) = true → ((0 : Int) ≤ x.2.1 ∧ x.2.1 < (↑l.length : Int)) ∧ ∀ (x_1 : Int), l[x.2.1.toNat]? = some x_1 → (decide ((0 : Int) ≤ x_1) = true → ((x.1.length + (1 : Nat)) * (8 : Nat) ≤ (140737488355328 : Nat) ∧ x.1.length + (1 : Nat) ≤ (4611686018427387904 : Nat)) ∧ ((-9223372036854775808 : Int) ≤ x.2.1 + (1 : Int) ∧ x.2.1 + (1 : Int) ≤ (9223372036854775807 : Int)) ∧ True ∧ ((0 : Int) ≤ x.2.1 + (1 : Int) ∧ x.2.1 + (1 : Int) ≤ (↑l.length : Int) ∧ x.1 ++ [x.2.1] = ixs (fun i => decide ((0 : Int) ≤ atI l (↑i : Int))) (x.2.1 + (1 : Int)).toNat) ∧ ((↑l.length : Int) - (x.2.1 + (1 : Int))).toNat < ((↑l.length : Int) - x.2.1).toNat) ∧ (decide ((0 : Int) ≤ x_1) = false → ((-9223372036854775808 : Int) ≤ x.2.1 + (1 : Int) ∧ x.2.1 + (1 : Int) ≤ (9223372036854775807 : Int)) ∧ True ∧ ((0 : Int) ≤ x.2.1 + (1 : Int) ∧ x.2.1 + (1 : Int) ≤ (↑l.length : Int) ∧ x.1 = ixs (fun i => decide ((0 : Int) ≤ atI l (↑i : Int))) (x.2.1 + (1 : Int)).toNat) ∧ ((↑l.length : Int) - (x.2.1 + (1 : Int))).toNat < ((↑l.length : Int) - x.2.1).toNat)) ∧ (decide (x.2.1 < (↑l.length : Int)) = false → (x.1, ()) = (metF l, ()))
theorem g_met_eq (l : List Int) : Cond (env_met l) Try.f64 [.list .tmp I l] [.list .part I] (metF l, ()) = g_met_vc l := by kernel_rfl
theorem g_met_ok (l : List Int) (h : l.length ≤ 1000000000) : g_met_vc l := by
  unfold g_met_vc
  simp only [decide_eq_true_eq, decide_eq_false_iff_not, Bool.not_eq_true', Bool.not_eq_false', Bool.not_true, Bool.not_false]
  refine ⟨⟨trivial, by omega, by omega, rfl⟩, ?_⟩
  rintro ⟨o, i, ⟨⟩⟩ ⟨h0, h1, h2⟩
  dsimp only at h0 h1 h2 ⊢
  subst h2
  have hle := ixs_le (fun i => decide ((0 : Int) ≤ atI l (i : Int))) i.toNat
  refine ⟨fun hi => ⟨⟨h0, hi⟩, fun x hx => ?_⟩, fun hi => ?_⟩
  · have e1 := atI_get (o := l) (v := i) ⟨h0, hi⟩
    rw [hx] at e1
    cases e1
    have e2 : ((i.toNat : Nat) : Int) = i := Int.toNat_of_nonneg h0
    refine ⟨fun hc => ⟨⟨by omega, by omega⟩, by omega, trivial, ⟨by omega, by omega, ?_⟩, by omega⟩, fun hc => ⟨by omega, trivial, ⟨by omega, by omega, ?_⟩, by omega⟩⟩
    · rw [show (i + 1).toNat = i.toNat + 1 by omega, ixs_succ, e2, if_pos (by simpa using hc)]
    · rw [show (i + 1).toNat = i.toNat + 1 by omega, ixs_succ, e2, if_neg (by simpa using hc), List.append_nil]
  · rw [metF, show i.toNat = l.length by omega]
set_option maxRecDepth 20000
theorem met_pure (l : List Int) (h : l.length ≤ 1000000000) : Pure Try.prog 64 [.list .tmp I l] (.list .part I (metF l)) :=
  by have k := Pure.of_cond (g_met_eq l) (g_met_ok l h) (specs_ok rfl [] [] rfl rfl) mixed Try.func64; exact k
noncomputable def q_met (l : List Int) : Prop × V := (l.length ≤ 1000000000, (.list .part I (metF l)))
noncomputable def sp_met : FSpec Try.prog where
 f := 64
 run := fun
  | [v0] => (asL I v0 : Option (List Int)).bind fun l => some (q_met l)
  | _ => none
 ok := fun args pre r h hp => by
  split at h
  · rename_i v0
    obtain ⟨l, h0, h⟩ := Option.bind_eq_some_iff.1 h
    exact of_q h hp fun h => (met_pure l h).weak (.cons (asL_weak h0) .nil)
  · cases h
noncomputable def env_nextS (R : GI) (v : Int) : Env where
  P := Try.prog
  ty := tys0
  specs := specsOf [sp_readers]
def g_nextS_vc (R : GI) (v : Int) : Prop :=
  True ∧ (rdsF R v, ()) = (rdsF R v, ())
theorem g_nextS_eq (R : GI) (v : Int) : Cond (env_nextS R v) Try.f69 [.int .i64 v, .fptr [.fopq .graph R]] [.list .part I] (rdsF R v, ()) = g_nextS_vc R v := by kernel_rfl
theorem g_nextS_ok (R : GI) (v : Int) : g_nextS_vc R v := by
  unfold g_nextS_vc
  exact ⟨trivial, rfl⟩
theorem nextS_pure (R : GI) (v : Int) : Pure Try.prog 69 [.int .i64 v, .fptr [.fopq .graph R]] (.list .part I (rdsF R v)) :=
  by have k := Pure.of_cond (g_nextS_eq R v) (g_nextS_ok R v) (specs_ok rfl [sp_readers] [] rfl rfl) mixed Try.func69; exact k
noncomputable def q_nextS (R : GI) (v : Int) : Prop × V := (True, (.list .part I (rdsF R v)))
noncomputable def sp_nextS : FSpec Try.prog where
 f := 69
 run := fun
  | [.int .i64 v, .fptr [.fopq .graph R]] => some (q_nextS R v)
  | _ => none
 ok := fun args pre r h hp => by
  split at h
  · rename_i v R
    exact of_q h hp fun h => (nextS_pure R v).weak (.cons (.refl _) (.cons (.refl _) .nil))
  · cases h
def putB (n : Int) (o : List Int) (v : Int) : Bool := decide (0 ≤ v ∧ v < n ∧ atI o v < 0)
def putO (n : Int) (o : List Int) (v k : Int) : List Int := if putB n o v = true then o.set v.toNat k else o
def putW (n : Int) (o row : List Int) (v : Int) : List Int := if putB n o v = true then row ++ [v] else row
noncomputable def env_put (n v k : Int) (o row : List Int) : Env where
  P := Try.prog
  ty := tys0
  pins := [9000, 9001, 9003]
abbrev ann_put : Ann := { slots := numP 0 [], boxes := [(9000, [.int .i64]), (9001, [.slc 9002 I]), (9003, [.slc 9004 I])], inv := fun _ _ => True }
def g_put_vc (n : Int) (v : Int) (k : Int) (o : List Int) (row : List Int) : Prop :=
  (decide ((0 : Int) ≤ v) = true → (decide (v < n) = true → ((0 : Int) ≤ v ∧ v < (↑o.length : Int)) ∧ v.toNat < o.length ∧ ∀ (x : Int), o[v.toNat]? = some x → (decide (x < (0 : Int)) = true → ((0 : Int) ≤ v ∧ v < (↑o.length : Int)) ∧ v.toNat < o.length ∧ ∀ (y : Int), o[v.toNat]? = some y → ((row.length + (1 : Nat)) * (8 : Nat) ≤ (140737488355328 : Nat) ∧ row.length + (1 : Nat) ≤ (4611686018427387904 : Nat)) ∧ True ∧ (n, o.set v.toNat k, row ++ [v], ()) = (n, putO n o v k, putW n o row v, ())) ∧ (decide (x < (0 : Int)) = false → True ∧ (n, o, row, ()) = (n, putO n o v k, putW n o row v, ()))) ∧ (decide (v < n) = !true → True ∧ (n, o, row, ()) = (n, putO n o v k, putW n o row v, ()))) ∧ (decide ((0 : Int) ≤ v) = !true → True ∧ (n, o, row, ()) = (n, putO n o v k, putW n o row v, ()))
theorem g_put_eq (n v k : Int) (o row : List Int) : CondO (env_put n v k o row) Try.f93 [.int .i64 v, .int .i64 k, .ptr 9000 0, .ptr 9001 0, .ptr 9003 0] [(9000, .box [.int .i64 n]), (9001, .box [.slc 9002 0 none]), (9002, .arr 0 (.int .i64) o), (9003, .box [.slc 9004 0 none]), (9004, .arr 0 (.int .i64) row)] [] ann_put (n, putO n o v k, putW n o row v, ()) = g_put_vc n v k o row := by kernel_rfl
theorem g_put_ok (n v k : Int) (o row : List Int) (h : o.length = n ∧ row.length ≤ 1000000000) : g_put_vc n v k o row := by
  unfold g_put_vc
  simp only [decide_eq_true_eq, decide_eq_false_iff_not, Bool.not_eq_true', Bool.not_eq_false', Bool.not_true, Bool.not_false]
  obtain ⟨h1, h2⟩ := h
  have no : ¬ (0 ≤ v ∧ v < n ∧ atI o v < 0) → (n, o, row, ()) = (n, putO n o v k, putW n o row v, ()) := fun hn => by
    have : putB n o v = false := by simpa [putB] using hn
    rw [putO, putW, this]
    rfl
  refine ⟨fun hv => ⟨fun hn => ⟨by omega, by omega, fun x hx => ?_⟩, fun hn => ⟨trivial, no fun hc => hn hc.2.1⟩⟩, fun hv => ⟨trivial, no fun hc => hv hc.1⟩⟩
  have e1 := atI_get (o := o) (v := v) ⟨hv, by omega⟩
  rw [hx] at e1
  cases e1
  refine ⟨fun hc => ⟨by omega, by omega, fun y hy => ⟨⟨by omega, by omega⟩, trivial, ?_⟩⟩, fun hc => ⟨trivial, no fun hq => hc hq.2.2⟩⟩
  have : putB n o v = true := by simpa [putB] using ⟨hv, hn, hc⟩
  rw [putO, putW, this]
  rfl
theorem put_upd (n v k : Int) (o row : List Int) (h : o.length = n ∧ row.length ≤ 1000000000) : UpdC Try.prog 93 [.int .i64 v, .int .i64 k, .ptr 9000 0, .ptr 9001 0, .ptr 9003 0] [(9000, .box [.int .i64 n]), (9001, .box [.slc 9002 0 none]), (9002, .arr 0 (.int .i64) o), (9003, .box [.slc 9004 0 none]), (9004, .arr 0 (.int .i64) row)] (.tuple []) [(9002, .arr 0 (.int .i64) (putO n o v k)), (9004, .arr 0 (.int .i64) (putW n o row v)), (9000, .box [.int .i64 n]), (9001, .box [.slc 9002 0 none]), (9003, .box [.slc 9004 0 none])] :=
  by have k := UpdC.of_cond (g_put_eq n v k o row) (g_put_ok n v k o row h) (specs_ok rfl [] [] rfl rfl) mixed Try.func93; exact k
noncomputable def q_put (n v k : Int) (o row : List Int) : Prop × V × Store := (o.length = n ∧ row.length ≤ 1000000000, .tuple [], [(9002, .arr 0 (.int .i64) (putO n o v k)), (9004, .arr 0 (.int .i64) (putW n o row v)), (9000, .box [.int .i64 n]), (9001, .box [.slc 9002 0 none]), (9003, .box [.slc 9004 0 none])])
noncomputable def so_put : OSpec Try.prog where
 f := 93
 run := fun args σ => match args, σ with
  | [.int .i64 v, .int .i64 k, .ptr 9000 0, .ptr 9001 0, .ptr 9003 0], [(9000, .box [.int .i64 n]), (9001, .box [.slc 9002 0 none]), (9002, .arr 0 (.int .i64) o), (9003, .box [.slc 9004 0 none]), (9004, .arr 0 (.int .i64) row)] => some (q_put n v k o row)
  | _, _ => none
 ok := fun args σ pre r σ' h hp => by
  try dsimp only at h
  split at h
  · rename_i v k n o row
    exact of_qo h hp fun h => (put_upd n v k o row h).weak (.cons (.refl _) (.cons (.refl _) (.cons (.refl _) (.cons (.refl _) (.cons (.refl _) .nil)))))
  · cases h
end Go.Proofs.Ytojflfogjkajaaa.Rc
end
section
namespace Go.Proofs.Ytojflfogjkajaaa.Rc
open Go.Vm Go.Proofs.Ytojflfogjkajaaa.Gr
theorem bi_put {n : Nat} {nx : Int → List Int} {F : Int → Prop} {v x : Int} {i : Nat} {o row : List Int} (h : Bi n nx F v i o row) (hx : (nx v)[i]? = some x) (hd : Dom n x) : Bi n nx F v (i + 1) (putO n o x (atI o v + 1)) (putW n o row x) := by
  unfold putO putW
  by_cases hb : putB n o x = true
  · rw [if_pos hb, if_pos hb]
    have : 0 ≤ x ∧ x < (n : Int) ∧ atI o x < 0 := by simpa [putB] using hb
    exact h.put hx hd this.2.2
  · rw [if_neg hb, if_neg hb]
    refine h.skip hx ?_
    apply Classical.byContradiction
    intro hn
    exact hb (by simpa [putB] using ⟨hd.1, hd.2, by omega⟩)
theorem bs_put {n : Nat} {l : List Int} {x : Int} {i : Nat} {o row : List Int} (h : Bs n l i o row) (hx : l[i]? = some x) : Bs n l (i + 1) (putO n o x 0) (putW n o row x) := by
  unfold putO putW
  by_cases hb : putB n o x = true
  · rw [if_pos hb, if_pos hb]
    have : 0 ≤ x ∧ x < (n : Int) ∧ atI o x < 0 := by simpa [putB] using hb
    exact h.put hx ⟨this.1, this.2.1⟩ this.2.2
  · rw [if_neg hb, if_neg hb]
    refine h.skip hx fun hc => hb ?_
    obtain ⟨⟨h1, h2⟩, h3⟩ := hc
    simpa [putB] using ⟨h1, h2, h3⟩
theorem put_cnt {n : Nat} {o row : List Int} {v k : Int} (hl : o.length = n) (hk : 0 ≤ k) : negs (putO n o v k) + (putW n o row v).length = negs o + row.length ∧ 2 * negs (putO n o v k) + (putW n o row v).length ≤ 2 * negs o + row.length ∧ (putO n o v k).length = n := by
  unfold putO putW
  by_cases hb : putB n o v = true
  · rw [if_pos hb, if_pos hb]
    have h1 : 0 ≤ v ∧ v < (n : Int) ∧ atI o v < 0 := by simpa [putB] using hb
    have := negs_set (o := o) (k := v.toNat) (x := k) (atI_get ⟨h1.1, by omega⟩) h1.2.2 hk
    rw [List.length_append, List.length_set]
    simp only [List.length_cons, List.length_nil]
    omega
  · rw [if_neg hb, if_neg hb]
    omega
theorem fill_next {m i : Nat} (h : i < m) : (List.replicate i (-1 : Int) ++ List.replicate (m - i) 0).set i (-1) = List.replicate (i + 1) (-1) ++ List.replicate (m - (i + 1)) 0 := by
  apply List.ext_getElem?
  intro j
  rw [List.getElem?_set]
  simp only [List.length_append, List.length_replicate]
  by_cases hj : i = j
  · subst hj
    rw [if_pos rfl, if_pos (by omega), List.getElem?_append_left (by simp), List.getElem?_replicate, if_pos (by omega)]
  · rw [if_neg hj]
    by_cases h1 : j < i
    · rw [List.getElem?_append_left (by simpa using h1), List.getElem?_append_left (by simp; omega), List.getElem?_replicate, List.getElem?_replicate, if_pos h1, if_pos (by omega)]
    · rw [List.getElem?_append_right (by simp; omega), List.getElem?_append_right (by simp; omega), List.getElem?_replicate, List.getElem?_replicate]
      simp only [List.length_replicate]
      by_cases h2 : j < m
      · rw [if_pos (by omega), if_pos (by omega)]
      · rw [if_neg (by omega), if_neg (by omega)]
theorem negs_le (o : List Int) : negs o ≤ o.length := List.length_filter_le _ _
theorem rds_dom {R : GI} (h : GOk R) (v w : Int) (_ : Dom R.length v) (hw : w ∈ rdsF R v) : Dom R.length w := by
  unfold rdsF at hw
  split at hw
  · rename_i hv
    obtain ⟨u, h1, h2, _⟩ := mem_readers.1 hw
    exact ⟨by omega, by omega⟩
  · cases hw
theorem reads_dom {R : GI} (h : GOk R) (v w : Int) (_ : Dom R.length v) (hw : w ∈ readsF R v) : Dom R.length w := by
  unfold readsF at hw
  split at hw
  · rename_i hv
    have := (h.2 v.toNat _ (reads_at hv)).2 w (by rw [readsF, if_pos hv]; exact hw)
    exact ⟨this.1, this.2.1⟩
  · cases hw
theorem fr_dom {n : Nat} {l : List Int} : ∀ v, Fr n l v → Dom n v := fun _ h => h.1
theorem rds_iff {R : GI} (h : GOk R) (u v : Int) (hv : Dom R.length v) : v ∈ rdsF R u ↔ u ∈ readsF R v := by
  have hv2 : 0 ≤ v ∧ v < R.length := hv
  constructor
  · intro hm
    have hu : 0 ≤ u ∧ u < R.length := by
      unfold rdsF at hm
      split at hm
      · assumption
      · cases hm
    have := has_both hv2 hu
    rw [List.contains_iff_mem.2 hm] at this
    exact List.contains_iff_mem.1 this
  · intro hm
    have hu := reads_dom h v u hv hm
    have := has_both hv2 hu
    rw [List.contains_iff_mem.2 hm] at this
    exact List.contains_iff_mem.1 this.symm
theorem put_top {n : Nat} {o row : List Int} {u x : Int} (hl : o.length = n) (h : ∀ v, atI o v + negs o ≤ n) (hu : 0 ≤ atI o u) (v : Int) : atI (putO n o x (atI o u + 1)) v + negs (putO n o x (atI o u + 1)) ≤ n := by
  have h1 := (put_cnt (row := row) (v := x) (k := atI o u + 1) hl (by omega)).1
  unfold putO putW at h1
  unfold putO
  by_cases hb : putB n o x = true
  · rw [if_pos hb, if_pos hb] at h1
    have h2 : 0 ≤ x ∧ x < (n : Int) ∧ atI o x < 0 := by simpa [putB] using hb
    rw [if_pos hb, atI_set ⟨h2.1, by omega⟩]
    rw [List.length_append] at h1
    simp only [List.length_cons, List.length_nil] at h1
    have := h u
    have := h v
    split <;> omega
  · rw [if_neg hb]
    exact h v
noncomputable def env_stepsS (n : Int) (R : GI) (l : List Int) : Env where
  P := Try.prog
  ty := tys0
  specs := specsOf [sp_nextS]
  upd := updsOf [so_put.upd]
  recut := fun | 45 => true | _ => false
  heads := fun
    | 3 => some { slots := [(20, .int .i64)], boxes := [(7, [.slc 17 I])], keep := [3], inv := fun _ (x : Int × List Int × Unit) => 0 ≤ x.1 ∧ x.1 ≤ R.length ∧ x.2.1 = List.replicate x.1.toNat (-1) ++ List.replicate (R.length - x.1.toNat) 0, measure := fun _ (x : Int × List Int × Unit) => (R.length - x.1).toNat }
    | 10 => some { slots := [(30, .int .i64)], boxes := [(7, [.slc 17 I]), (9, [.slc 900 I])], keep := [3], drop := [17, 18], inv := fun _ (x : Int × List Int × List Int × Unit) => 0 ≤ x.1 ∧ x.1 ≤ l.length ∧ Bs R.length l x.1.toNat x.2.1 x.2.2.1 ∧ negs x.2.1 + x.2.2.1.length ≤ R.length, measure := fun _ (x : Int × List Int × List Int × Unit) => (l.length - x.1).toNat }
    | 18 => some { slots := [(50, .int .i64)], boxes := [(7, [.slc 17 I]), (9, [.slc 900 I])], keep := [3], drop := [17, 18, 38, 41, 42, 44, 45], inv := fun st (x : Int × List Int × List Int × Unit) => 0 ≤ x.1 ∧ x.1 ≤ (rdsF R (st.int 13)).length ∧ Bi R.length (rdsF R) (Fr R.length l) (st.int 13) x.1.toNat x.2.1 x.2.2.1 ∧ negs x.2.1 + x.2.2.1.length ≤ R.length ∧ (∀ v, atI x.2.1 v + negs x.2.1 ≤ List.length (α := List Int) R) ∧ 2 * negs x.2.1 + x.2.2.1.length ≤ 2 * negs (st.ints 17) + (st.ints 900).length, measure := fun st (x : Int × List Int × List Int × Unit) => ((rdsF R (st.int 13)).length - x.1).toNat }
    | _ => none
  joins := fun
    | 2000000 => some { slots := [], boxes := [(7, [.slc 17 I]), (9, [.slc 900 I])], keep := [3], drop := [17, 18], inv := fun _ (x : List Int × List Int × Unit) => Bf R.length (rdsF R) (Fr R.length l) x.1 x.2.1 ∧ negs x.1 + x.2.1.length ≤ R.length ∧ (∀ v, atI x.1 v + negs x.1 ≤ List.length (α := List Int) R), measure := fun _ (x : List Int × List Int × Unit) => 2 * negs x.1 + x.2.1.length }
    | _ => none
def g_stepsS_vc (n : Int) (R : GI) (l : List Int) : Prop :=
  ((0 : Int) ≤ n ∧ n ≤ n ∧ n * (↑(8 : Nat) : Int) ≤ (140737488355328 : Int) ∧ n ≤ (4611686018427387904 : Int)) ∧ ((some (Obj.box [V.int IntKind.i64 n]) = some (Obj.box [V.int IntKind.i64 n]) ∧ True) ∧ (0 : Int) ≤ (0 : Int) ∧ (0 : Int) ≤ (↑(List.length R) : Int) ∧ List.replicate n.toNat (0 : Int) = List.replicate (Int.toNat (0 : Int)) (-1 : Int) ++ List.replicate (List.length R - Int.toNat (0 : Int)) (0 : Int)) ∧ ∀ (x : Int × List Int × Unit), (0 : Int) ≤ x.1 ∧ x.1 ≤ (↑(List.length R) : Int) ∧ x.2.1 = List.replicate x.1.toNat (-1 : Int) ++ List.replicate (List.length R - x.1.toNat) (0 : Int) → (decide (x.1 < (↑(List.replicate n.toNat (0 : Int)).length : Int)) = true → ((0 : Int) ≤ x.1 ∧ x.1 < (↑x.2.1.length : Int)) ∧ x.1.toNat < x.2.1.length ∧ ∀ (y : Int), x.2.1[x.1.toNat]? = some y → ((-9223372036854775808 : Int) ≤ x.1 + (1 : Int) ∧ x.1 + (1 : Int) ≤ (9223372036854775807 : Int)) ∧ (some (Obj.box [V.int IntKind.i64 n]) = some (Obj.box [V.int IntKind.i64 n]) ∧ True) ∧ ((0 : Int) ≤ x.1 + (1 : Int) ∧ x.1 + (1 : Int) ≤ (↑(List.length R) : Int) ∧ x.2.1.set x.1.toNat (-1 : Int) = List.replicate (x.1 + (1 : Int)).toNat (-1 : Int) ++ List.replicate (List.length R - (x.1 + (1 : Int)).toNat) (0 : Int)) ∧ ((↑(List.length R) : Int) - (x.1 + (1 : Int))).toNat < ((↑(List.length R) : Int) - x.1).toNat) ∧ (decide (x.1 < (↑(List.replicate n.toNat (0 : Int)).length : Int)) = false → ((some (Obj.box [V.int IntKind.i64 n]) = some (Obj.box [V.int IntKind.i64 n]) ∧ True) ∧ (0 : Int) ≤ (0 : Int) ∧ (0 : Int) ≤ (↑l.length : Int) ∧ Bs (List.length R) l (Int.toNat (0 : Int)) x.2.1 [] ∧ negs x.2.1 + (0 : Nat) ≤ List.length R) ∧ ∀ (x : Int × List Int × List Int × Unit), (0 : Int) ≤ x.1 ∧ x.1 ≤ (↑l.length : Int) ∧ Bs (List.length R) l x.1.toNat x.2.1 x.2.2.1 ∧ negs x.2.1 + x.2.2.1.length ≤ List.length R → (decide (x.1 < (↑l.length : Int)) = true → ((0 : Int) ≤ x.1 ∧ x.1 < (↑l.length : Int)) ∧ ∀ (x_1 : Int), l[x.1.toNat]? = some x_1 → ((↑x.2.1.length : Int) = n ∧ x.2.2.1.length ≤ (1000000000 : Nat)) ∧ ((-9223372036854775808 : Int) ≤ x.1 + (1 : Int) ∧ x.1 + (1 : Int) ≤ (9223372036854775807 : Int)) ∧ (some (Obj.box [V.int IntKind.i64 n]) = some (Obj.box [V.int IntKind.i64 n]) ∧ True) ∧ ((0 : Int) ≤ x.1 + (1 : Int) ∧ x.1 + (1 : Int) ≤ (↑l.length : Int) ∧ Bs (List.length R) l (x.1 + (1 : Int)).toNat (putO n x.2.1 x_1 (0 : Int)) (putW n x.2.1 x.2.2.1 x_1) ∧ negs (putO n x.2.1 x_1 (0 : Int)) + (putW n x.2.1 x.2.2.1 x_1).length ≤ List.length R) ∧ ((↑l.length : Int) - (x.1 + (1 : Int))).toNat < ((↑l.length : Int) - x.1).toNat) ∧ (decide (x.1 < (↑l.length : Int)) = false → (decide ((0 : Int) < (↑x.2.2.1.length : Int)) = true → ((0 : Int) ≤ (0 : Int) ∧ (0 : Int) < (↑x.2.2.1.length : Int)) ∧ Int.toNat (0 : Int) < x.2.2.1.length ∧ ∀ (x_1 : Int), x.2.2.1[Int.toNat (0 : Int)]? = some x_1 → ((0 : Int) ≤ (1 : Int) ∧ (1 : Int) ≤ (↑x.2.2.1.length : Int)) ∧ True ∧ ((some (Obj.box [V.int IntKind.i64 n]) = some (Obj.box [V.int IntKind.i64 n]) ∧ True) ∧ (0 : Int) ≤ (0 : Int) ∧ (0 : Int) ≤ (↑(rdsF R x_1).length : Int) ∧ Bi (List.length R) (rdsF R) (Fr (List.length R) l) x_1 (Int.toNat (0 : Int)) x.2.1 (List.take (x.2.2.1.length - Int.toNat (1 : Int)) (List.drop (Int.toNat (1 : Int)) x.2.2.1)) ∧ negs x.2.1 + (List.take (x.2.2.1.length - Int.toNat (1 : Int)) (List.drop (Int.toNat (1 : Int)) x.2.2.1)).length ≤ List.length R ∧ (∀ (v : Int), atI x.2.1 v + (↑(negs x.2.1) : Int) ≤ (↑(List.length R) : Int)) ∧ (2 : Nat) * negs x.2.1 + (List.take (x.2.2.1.length - Int.toNat (1 : Int)) (List.drop (Int.toNat (1 : Int)) x.2.2.1)).length ≤ (2 : Nat) * negs x.2.1 + (List.take (x.2.2.1.length - Int.toNat (1 : Int)) (List.drop (Int.toNat (1 : Int)) x.2.2.1)).length) ∧ ∀ (x_2 : Int × List Int × List Int × Unit), (0 : Int) ≤ x_2.1 ∧ x_2.1 ≤ (↑(rdsF R x_1).length : Int) ∧ Bi (List.length R) (rdsF R) (Fr (List.length R) l) x_1 x_2.1.toNat x_2.2.1 x_2.2.2.1 ∧ negs x_2.2.1 + x_2.2.2.1.length ≤ List.length R ∧ (∀ (v : Int), atI x_2.2.1 v + (↑(negs x_2.2.1) : Int) ≤ (↑(List.length R) : Int)) ∧ (2 : Nat) * negs x_2.2.1 + x_2.2.2.1.length ≤ (2 : Nat) * negs x.2.1 + (List.take (x.2.2.1.length - Int.toNat (1 : Int)) (List.drop (Int.toNat (1 : Int)) x.2.2.1)).length → (decide (x_2.1 < (↑(rdsF R x_1).length : Int)) = true → ((0 : Int) ≤ x_2.1 ∧ x_2.1 < (↑(rdsF R x_1).length : Int)) ∧ ∀ (x_3 : Int), (rdsF R x_1)[x_2.1.toNat]? = some x_3 → ((0 : Int) ≤ x_1 ∧ x_1 < (↑x_2.2.1.length : Int)) ∧ x_1.toNat < x_2.2.1.length ∧ ∀ (x_4 : Int), x_2.2.1[x_1.toNat]? = some x_4 → ((-9223372036854775808 : Int) ≤ x_4 + (1 : Int) ∧ x_4 + (1 : Int) ≤ (9223372036854775807 : Int)) ∧ ((↑x_2.2.1.length : Int) = n ∧ x_2.2.2.1.length ≤ (1000000000 : Nat)) ∧ ((-9223372036854775808 : Int) ≤ x_2.1 + (1 : Int) ∧ x_2.1 + (1 : Int) ≤ (9223372036854775807 : Int)) ∧ (some (Obj.box [V.int IntKind.i64 n]) = some (Obj.box [V.int IntKind.i64 n]) ∧ True) ∧ ((0 : Int) ≤ x_2.1 + (1 : Int) ∧ x_2.1 + (1 : Int) ≤ (↑(rdsF R x_1).length : Int) ∧ Bi (List.length R) (rdsF R) (Fr (List.length R) l) x_1 (x_2.1 + (1 : Int)).toNat (putO n x_2.2.1 x_3 (x_4 + (1 : Int))) (putW n x_2.2.1 x_2.2.2.1 x_3) ∧ negs (putO n x_2.2.1 x_3 (x_4 + (1 : Int))) + (putW n x_2.2.1 x_2.2.2.1 x_3).length ≤ List.length R ∧ (∀ (v : Int), atI (putO n x_2.2.1 x_3 (x_4 + (1 : Int))) v + (↑(negs (putO n x_2.2.1 x_3 (x_4 + (1 : Int)))) : Int) ≤ (↑(List.length R) : Int)) ∧ (2 : Nat) * negs (putO n x_2.2.1 x_3 (x_4 + (1 : Int))) + (putW n x_2.2.1 x_2.2.2.1 x_3).length ≤ (2 : Nat) * negs x.2.1 + (List.take (x.2.2.1.length - Int.toNat (1 : Int)) (List.drop (Int.toNat (1 : Int)) x.2.2.1)).length) ∧ ((↑(rdsF R x_1).length : Int) - (x_2.1 + (1 : Int))).toNat < ((↑(rdsF R x_1).length : Int) - x_2.1).toNat) ∧ (decide (x_2.1 < (↑(rdsF R x_1).length : Int)) = false → (0 : Nat) = (0 : Nat) ∧ ((some (Obj.box [V.int IntKind.i64 n]) = some (Obj.box [V.int IntKind.i64 n]) ∧ True) ∧ Bf (List.length R) (rdsF R) (Fr (List.length R) l) x_2.2.1 x_2.2.2.1 ∧ negs x_2.2.1 + x_2.2.2.1.length ≤ List.length R ∧ ∀ (v : Int), atI x_2.2.1 v + (↑(negs x_2.2.1) : Int) ≤ (↑(List.length R) : Int)) ∧ ∀ (x : List Int × List Int × Unit), (Bf (List.length R) (rdsF R) (Fr (List.length R) l) x.1 x.2.1 ∧ negs x.1 + x.2.1.length ≤ List.length R ∧ ∀ (v : Int), atI x.1 v + (↑(negs x.1) : Int) ≤ (↑(List.length R) : Int)) → (decide ((0 : Int) < (↑x.2.1.length : Int)) = true → ((0 : Int) ≤ (0 : Int) ∧ (0 : Int) < (↑x.2.1.length : Int)) ∧ Int.toNat (0 : Int) < x.2.1.length ∧ ∀ (x_3 : Int), x.2.1[Int.toNat (0 : Int)]? = some x_3 → ((0 : Int) ≤ (1 : Int) ∧ (1 : Int) ≤ (↑x.2.1.length : Int)) ∧ True ∧ ((some (Obj.box [V.int IntKind.i64 n]) = some (Obj.box [V.int IntKind.i64 n]) ∧ True) ∧ (0 : Int) ≤ (0 : Int) ∧ (0 : Int) ≤ (↑(rdsF R x_3).length : Int) ∧ Bi (List.length R) (rdsF R) (Fr (List.length R) l) x_3 (Int.toNat (0 : Int)) x.1 (List.take (x.2.1.length - Int.toNat (1 : Int)) (List.drop (Int.toNat (1 : Int)) x.2.1)) ∧ negs x.1 + (List.take (x.2.1.length - Int.toNat (1 : Int)) (List.drop (Int.toNat (1 : Int)) x.2.1)).length ≤ List.length R ∧ (∀ (v : Int), atI x.1 v + (↑(negs x.1) : Int) ≤ (↑(List.length R) : Int)) ∧ (2 : Nat) * negs x.1 + (List.take (x.2.1.length - Int.toNat (1 : Int)) (List.drop (Int.toNat (1 : Int)) x.2.1)).length ≤ (2 : Nat) * negs x.1 + (List.take (x.2.1.length - Int.toNat (1 : Int)) (List.drop (Int.toNat (1 : Int)) x.2.1)).length) ∧ ∀ (x_4 : Int × List Int × List Int × Unit), (0 : Int) ≤ x_4.1 ∧ x_4.1 ≤ (↑(rdsF R x_3).length : Int) ∧ Bi (List.length R) (rdsF R) (Fr (List.length R) l) x_3 x_4.1.toNat x_4.2.1 x_4.2.2.1 ∧ negs x_4.2.1 + x_4.2.2.1.length ≤ List.length R ∧ (∀ (v : Int), atI x_4.2.1 v + (↑(negs x_4.2.1) : Int) ≤ (↑(List.length R) : Int)) ∧ (2 : Nat) * negs x_4.2.1 + x_4.2.2.1.length ≤ (2 : Nat) * negs x.1 + (List.take (x.2.1.length - Int.toNat (1 : Int)) (List.drop (Int.toNat (1 : Int)) x.2.1)).length → (decide (x_4.1 < (↑(rdsF R x_3).length : Int)) = true → ((0 : Int) ≤ x_4.1 ∧ x_4.1 < (↑(rdsF R x_3).length : Int)) ∧ ∀ (x_5 : Int), (rdsF R x_3)[x_4.1.toNat]? = some x_5 → ((0 : Int) ≤ x_3 ∧ x_3 < (↑x_4.2.1.length : Int)) ∧ x_3.toNat < x_4.2.1.length ∧ ∀ (x_6 : Int), x_4.2.1[x_3.toNat]? = some x_6 → ((-9223372036854775808 : Int) ≤ x_6 + (1 : Int) ∧ x_6 + (1 : Int) ≤ (9223372036854775807 : Int)) ∧ ((↑x_4.2.1.length : Int) = n ∧ x_4.2.2.1.length ≤ (1000000000 : Nat)) ∧ ((-9223372036854775808 : Int) ≤ x_4.1 + (1 : Int) ∧ x_4.1 + (1 : Int) ≤ (9223372036854775807 : Int)) ∧ (some (Obj.box [V.int IntKind.i64 n]) = some (Obj.box [V.int IntKind.i64 n]) ∧ True) ∧ ((0 : Int) ≤ x_4.1 + (1 : Int) ∧ x_4.1 + (1 : Int) ≤ (↑(rdsF R x_3).length : Int) ∧ Bi (List.length R) (rdsF R) (Fr (List.length R) l) x_3 (x_4.1 + (1 : Int)).toNat (putO n x_4.2.1 x_5 (x_6 + (1 : Int))) (putW n x_4.2.1 x_4.2.2.1 x_5) ∧ negs (putO n x_4.2.1 x_5 (x_6 + (1 : Int))) + (putW n x_4.2.1 x_4.2.2.1 x_5).length ≤ List.length R ∧ (∀ (v : Int), atI (putO n x_4.2.1 x_5 (x_6 + (1 : Int))) v + (↑(negs (putO n x_4.2.1 x_5 (x_6 + (1 : Int)))) : Int) ≤ (↑(List.length R) : Int)) ∧ (2 : Nat) * negs (putO n x_4.2.1 x_5 (x_6 + (1 : Int))) + (putW n x_4.2.1 x_4.2.2.1 x_5).length ≤ (2 : Nat) * negs x.1 + (List.take (x.2.1.length - Int.toNat (1 : Int)) (List.drop (Int.toNat (1 : Int)) x.2.1)).length) ∧ ((↑(rdsF R x_3).length : Int) - (x_4.1 + (1 : Int))).toNat < ((↑(rdsF R x_3).length : Int) - x_4.1).toNat) ∧ (decide (x_4.1 < (↑(rdsF R x_3).length : Int)) = false → (0 : Nat) = (0 : Nat) ∧ (some (Obj.box [V.int IntKind.i64 n]) = some (Obj.box [V.int IntKind.i64 n]) ∧ True) ∧ (Bf (List.length R) (rdsF R) (Fr (List.length R) l) x_4.2.1 x_4.2.2.1 ∧ negs x_4.2.1 + x_4.2.2.1.length ≤ List.length R ∧ ∀ (v : Int), atI x_4.2.1 v + (↑(negs x_4.2.1) : Int) ≤ (↑(List.length R) : Int)) ∧ (2 : Nat) * negs x_4.2.1 + x_4.2.2.1.length < (2 : Nat) * negs x.1 + x.2.1.length)) ∧ (decide ((0 : Int) < (↑x.2.1.length : Int)) = false → (x.1, ()) = (stepsF (List.length R) (rdsF R) (Fr (List.length R) l), ())))) ∧ (decide ((0 : Int) < (↑x.2.2.1.length : Int)) = false → (x.2.1, ()) = (stepsF (List.length R) (rdsF R) (Fr (List.length R) l), ()))))
theorem g_stepsS_eq (n : Int) (R : GI) (l : List Int) : Cond (env_stepsS n R l) Try.f67 [.int .i64 n, .list .tmp I l, .fn (.func 69) [] [.fptr [.fopq .graph R]]] [.slc 0 I] (stepsF R.length (rdsF R) (Fr R.length l), ()) = g_stepsS_vc n R l := by kernel_rfl
theorem g_stepsS_ok (n : Int) (R : GI) (l : List Int) (h : GOk R ∧ l.length ≤ 1000000000 ∧ n = R.length) : g_stepsS_vc n R l := by
  unfold g_stepsS_vc
  simp only [decide_eq_true_eq, decide_eq_false_iff_not, Bool.not_eq_true', Bool.not_eq_false', Bool.not_true, Bool.not_false]
  obtain ⟨hG, hl, rfl⟩ := h
  have hR := hG.1
  have fin : ∀ o : List Int, Bf R.length (rdsF R) (Fr R.length l) o [] → o = stepsF R.length (rdsF R) (Fr R.length l) := fun o h => h.table.eq fr_dom (rds_dom hG)
  refine ⟨⟨by omega, by omega, by omega, by omega⟩, ⟨⟨trivial, trivial⟩, by omega, by omega, by simp⟩, ?_⟩
  rintro ⟨i, o, ⟨⟩⟩ ⟨h0, h1, h2⟩
  dsimp only at h0 h1 h2 ⊢
  have hlen : o.length = R.length := by rw [h2]; simp; omega
  have hrep : (List.replicate (List.length (α := List Int) R : Int).toNat (0 : Int)).length = R.length := by simp
  refine ⟨fun hi => ⟨⟨h0, by omega⟩, by omega, fun y _ => ⟨by omega, ⟨trivial, trivial⟩, ⟨by omega, by omega, ?_⟩, by omega⟩⟩, fun hi => ⟨⟨⟨trivial, trivial⟩, by omega, by omega, ?_, ?_⟩, ?_⟩⟩
  · rw [h2, show (i + 1).toNat = i.toNat + 1 by omega]
    exact fill_next (by omega)
  · rw [h2, show i.toNat = List.length (α := List Int) R by omega, Nat.sub_self]
    simpa using Bs.begin R.length l
  · have := negs_le o
    omega
  clear hi h0 h1 h2 hlen hrep i o
  rintro ⟨i, o, row, ⟨⟩⟩ ⟨h0, h1, hB, hN⟩
  dsimp only at h0 h1 hB hN ⊢
  refine ⟨fun hi => ⟨⟨h0, hi⟩, fun x hx => ?_⟩, fun hi => ?_⟩
  · have hc := put_cnt (row := row) (v := x) (k := 0) hB.len (by omega)
    refine ⟨⟨by have := hB.len; omega, by omega⟩, by omega, ⟨trivial, trivial⟩, ⟨by omega, by omega, ?_, by omega⟩, by omega⟩
    rw [show (i + 1).toNat = i.toNat + 1 by omega]
    exact bs_put hB hx
  have hF := hB.fin (by omega) (rdsF R)
  have hT : ∀ v, atI o v + negs o ≤ List.length (α := List Int) R := fun v => by
    have h3 := negs_le o
    have h4 := hB.len
    rcases hB.two v with e | e <;> omega
  clear hB hi h0 h1 i
  refine ⟨fun hr => ?_, fun hr => ?_⟩
  rotate_left
  · rw [List.eq_nil_of_length_eq_zero (show row.length = 0 by omega)] at hF
    rw [fin o hF]
  cases row with
  | nil => simp at hr
  | cons v row =>
  have e1 : List.take ((v :: row).length - Int.toNat 1) (List.drop (Int.toNat 1) (v :: row)) = row := by simp
  rw [e1]
  have hlr : (v :: row).length = row.length + 1 := rfl
  refine ⟨⟨by omega, by omega⟩, by simp, fun x hx0 => ?_⟩
  have hx : some v = some x := hx0
  clear hx0
  cases hx
  have hrl := rds_le hG v
  refine ⟨⟨by omega, by omega⟩, trivial, ⟨⟨trivial, trivial⟩, by omega, by omega, hF.pop, by omega, hT, Nat.le_refl _⟩, ?_⟩
  clear hF hT
  rintro ⟨i, o2, row2, ⟨⟩⟩ ⟨a0, a1, hB, hN2, hT, hM⟩
  dsimp only at a0 a1 hB hN2 hT hM ⊢
  refine ⟨fun hi => ⟨⟨a0, hi⟩, fun y hy => ?_⟩, fun hi => ⟨trivial, ⟨⟨trivial, trivial⟩, hB.next (by omega), hN2, hT⟩, ?_⟩⟩
  · have hd := dom_of hB.len hB.cur
    have hd2 : 0 ≤ v ∧ v < R.length := hd
    refine ⟨⟨hd2.1, by have := hB.len; omega⟩, by have := hB.len; omega, fun z hz => ?_⟩
    have e2 := atI_get (o := o2) (v := v) (by rw [hB.len]; exact hd)
    rw [hz] at e2
    cases e2
    have hT1 := hT v
    have hcur := hB.cur
    have hc := put_cnt (row := row2) (v := y) (k := atI o2 v + 1) hB.len (by omega)
    refine ⟨by omega, ⟨by have := hB.len; omega, by omega⟩, by omega, ⟨trivial, trivial⟩, ⟨by omega, by omega, ?_, by omega, put_top (row := row2) hB.len hT hcur, by omega⟩, by omega⟩
    rw [show (i + 1).toNat = i.toNat + 1 by omega]
    exact bi_put hB hy (rds_dom hG v y hd (List.mem_of_getElem? hy))
  clear hi hM hT hN2 hB a0 a1 i o2 row2 hlr hrl e1 hr hN v row o
  rintro ⟨o, row, ⟨⟩⟩ ⟨hF, hN, hT⟩
  dsimp only at hF hN hT ⊢
  refine ⟨fun hr => ?_, fun hr => ?_⟩
  rotate_left
  · rw [List.eq_nil_of_length_eq_zero (show row.length = 0 by omega)] at hF
    rw [fin o hF]
  cases row with
  | nil => simp at hr
  | cons v row =>
  have e1 : List.take ((v :: row).length - Int.toNat 1) (List.drop (Int.toNat 1) (v :: row)) = row := by simp
  rw [e1]
  have hlr : (v :: row).length = row.length + 1 := rfl
  refine ⟨⟨by omega, by omega⟩, by simp, fun x hx0 => ?_⟩
  have hx : some v = some x := hx0
  clear hx0
  cases hx
  have hrl := rds_le hG v
  refine ⟨⟨by omega, by omega⟩, trivial, ⟨⟨trivial, trivial⟩, by omega, by omega, hF.pop, by omega, hT, Nat.le_refl _⟩, ?_⟩
  clear hF hT
  rintro ⟨i, o2, row2, ⟨⟩⟩ ⟨a0, a1, hB, hN2, hT, hM⟩
  dsimp only at a0 a1 hB hN2 hT hM ⊢
  refine ⟨fun hi => ⟨⟨a0, hi⟩, fun y hy => ?_⟩, fun hi => ⟨trivial, ⟨trivial, trivial⟩, ⟨hB.next (by omega), hN2, hT⟩, by omega⟩⟩
  have hd := dom_of hB.len hB.cur
  have hd2 : 0 ≤ v ∧ v < R.length := hd
  refine ⟨⟨hd2.1, by have := hB.len; omega⟩, by have := hB.len; omega, fun z hz => ?_⟩
  have e2 := atI_get (o := o2) (v := v) (by rw [hB.len]; exact hd)
  rw [hz] at e2
  cases e2
  have hT1 := hT v
  have hcur := hB.cur
  have hc := put_cnt (row := row2) (v := y) (k := atI o2 v + 1) hB.len (by omega)
  refine ⟨by omega, ⟨by have := hB.len; omega, by omega⟩, by omega, ⟨trivial, trivial⟩, ⟨by omega, by omega, ?_, by omega, put_top (row := row2) hB.len hT hcur, by omega⟩, by omega⟩
  rw [show (i + 1).toNat = i.toNat + 1 by omega]
  exact bi_put hB hy (rds_dom hG v y hd (List.mem_of_getElem? hy))
set_option maxRecDepth 20000
theorem stepsS_pure (n : Int) (R : GI) (l : List Int) (h : GOk R ∧ l.length ≤ 1000000000 ∧ n = R.length) : Pure Try.prog 67 [.int .i64 n, .list .tmp I l, .fn (.func 69) [] [.fptr [.fopq .graph R]]] (.olist I (stepsF R.length (rdsF R) (Fr R.length l))) :=
  by have k := Pure.of_cond (g_stepsS_eq n R l) (g_stepsS_ok n R l h) (specs_ok rfl [sp_nextS] [so_put.upd] rfl rfl) mixed Try.func67; exact k
noncomputable def q_stepsS (n : Int) (R : GI) (l : List Int) : Prop × V := (GOk R ∧ l.length ≤ 1000000000 ∧ n = R.length, (.olist I (stepsF R.length (rdsF R) (Fr R.length l))))
noncomputable def sp_stepsS : FSpec Try.prog where
 f := 67
 run := fun
  | [.int .i64 n, v1, .fn (.func 69) [] [.fptr [.fopq .graph R]]] => (asL I v1 : Option (List Int)).bind fun l => some (q_stepsS n R l)
  | _ => none
 ok := fun args pre r h hp => by
  split at h
  · rename_i n v1 R
    obtain ⟨l, h1, h⟩ := Option.bind_eq_some_iff.1 h
    exact of_q h hp fun h => (stepsS_pure n R l h).weak (.cons (.refl _) (.cons (asL_weak h1) (.cons (.refl _) .nil)))
  · cases h
end Go.Proofs.Ytojflfogjkajaaa.Rc
end
section
namespace Go.Proofs.Ytojflfogjkajaaa.Rc
open Go.Vm Go.Proofs.Ytojflfogjkajaaa.Gr
set_option maxRecDepth 20000
theorem steps_len (n : Nat) (nx : Int → List Int) (F : Int → Prop) : (stepsF n nx F).length = n := by simp [stepsF]
noncomputable def env_steps (R : GI) (l : List Int) : Env where
  P := Try.prog
  ty := tys0
  specs := specsOf [sp_nodes, sp_stepsS]
def g_steps_vc (R : GI) (l : List Int) : Prop :=
  True ∧ ((List.length R ≤ (20000 : Nat) ∧ ∀ (v : Nat) (l : List Int), R[v]? = some l → l.Nodup ∧ ∀ (x : Int), x ∈ l → (0 : Int) ≤ x ∧ x < (↑(List.length R) : Int) ∧ x ≠ (↑v : Int)) ∧ l.length ≤ (1000000000 : Nat) ∧ (↑(List.length R) : Int) = (↑(List.length R) : Int)) ∧ (stepsF (List.length R) (rdsF R) (Fr (List.length R) l), ()) = (stepsF (List.length R) (rdsF R) (Fr (List.length R) l), ())
theorem g_steps_eq (R : GI) (l : List Int) : Cond (env_steps R l) Try.f35 [.fopq .graph R, .list .tmp I l] [.slc 0 I] (stepsF R.length (rdsF R) (Fr R.length l), ()) = g_steps_vc R l := by kernel_rfl
theorem g_steps_ok (R : GI) (l : List Int) (h : GOk R ∧ l.length ≤ 1000000000) : g_steps_vc R l := by
  unfold g_steps_vc
  exact ⟨trivial, ⟨h.1, h.2, rfl⟩, rfl⟩
theorem steps_pure (R : GI) (l : List Int) (h : GOk R ∧ l.length ≤ 1000000000) : Pure Try.prog 35 [.fopq .graph R, .list .tmp I l] (.olist I (stepsF R.length (rdsF R) (Fr R.length l))) :=
  by have k := Pure.of_cond (g_steps_eq R l) (g_steps_ok R l h) (specs_ok rfl [sp_nodes, sp_stepsS] [] rfl rfl) mixed Try.func35; exact k
noncomputable def q_steps (R : GI) (l : List Int) : Prop × V := (GOk R ∧ l.length ≤ 1000000000, (.olist I (stepsF R.length (rdsF R) (Fr R.length l))))
noncomputable def sp_steps : FSpec Try.prog where
 f := 35
 run := fun
  | [.fopq .graph R, v1] => (asL I v1 : Option (List Int)).bind fun l => some (q_steps R l)
  | _ => none
 ok := fun args pre r h hp => by
  split at h
  · rename_i R v1
    obtain ⟨l, h1, h⟩ := Option.bind_eq_some_iff.1 h
    exact of_q h hp fun h => (steps_pure R l h).weak (.cons (.refl _) (.cons (asL_weak h1) .nil))
  · cases h
noncomputable def env_reach (R : GI) (l : List Int) : Env where
  P := Try.prog
  ty := tys0
  specs := specsOf [sp_met, sp_steps]
def g_reach_vc (R : GI) (l : List Int) : Prop :=
  ((List.length R ≤ (20000 : Nat) ∧ ∀ (v : Nat) (l : List Int), R[v]? = some l → l.Nodup ∧ ∀ (x : Int), x ∈ l → (0 : Int) ≤ x ∧ x < (↑(List.length R) : Int) ∧ x ≠ (↑v : Int)) ∧ l.length ≤ (1000000000 : Nat)) ∧ (stepsF (List.length R) (rdsF R) (Fr (List.length R) l)).length ≤ (1000000000 : Nat) ∧ (metF (stepsF (List.length R) (rdsF R) (Fr (List.length R) l)), ()) = (metF (stepsF (List.length R) (rdsF R) (Fr (List.length R) l)), ())
theorem g_reach_eq (R : GI) (l : List Int) : Cond (env_reach R l) Try.f31 [.fopq .graph R, .list .tmp I l] [.list .part I] (metF (stepsF R.length (rdsF R) (Fr R.length l)), ()) = g_reach_vc R l := by kernel_rfl
theorem g_reach_ok (R : GI) (l : List Int) (h : GOk R ∧ l.length ≤ 1000000000) : g_reach_vc R l := by
  unfold g_reach_vc
  exact ⟨h, by rw [steps_len]; have := h.1.1; omega, rfl⟩
theorem reach_pure (R : GI) (l : List Int) (h : GOk R ∧ l.length ≤ 1000000000) : Pure Try.prog 31 [.fopq .graph R, .list .tmp I l] (.list .part I (metF (stepsF R.length (rdsF R) (Fr R.length l)))) :=
  by have k := Pure.of_cond (g_reach_eq R l) (g_reach_ok R l h) (specs_ok rfl [sp_met, sp_steps] [] rfl rfl) mixed Try.func31; exact k
noncomputable def q_reach (R : GI) (l : List Int) : Prop × V := (GOk R ∧ l.length ≤ 1000000000, (.list .part I (metF (stepsF R.length (rdsF R) (Fr R.length l)))))
noncomputable def sp_reach : FSpec Try.prog where
 f := 31
 run := fun
  | [.fopq .graph R, v1] => (asL I v1 : Option (List Int)).bind fun l => some (q_reach R l)
  | _ => none
 ok := fun args pre r h hp => by
  split at h
  · rename_i R v1
    obtain ⟨l, h1, h⟩ := Option.bind_eq_some_iff.1 h
    exact of_q h hp fun h => (reach_pure R l h).weak (.cons (.refl _) (.cons (asL_weak h1) .nil))
  · cases h
end Go.Proofs.Ytojflfogjkajaaa.Rc
end
section
namespace Go.Proofs.Ytojflfogjkajaaa.Rc
open Go.Vm Go.Proofs.Ytojflfogjkajaaa.Gr
noncomputable def tys1 : TypeId → Option Ty := fun | 62 => some (.slice .bool) | 4 => some .bool | t => tys0 t
noncomputable def env_begun (R : GI) (l : List Int) : Env where
  P := Try.prog
  ty := tys1
  specs := specsOf [sp_has']
  heads := fun | 3 => some { slots := [(5, .slc 19 .bool), (6, .int .i64)], boxes := [], keep := [2], inv := fun _ (x : List Bool × Int × Unit) => 0 ≤ x.2.1 ∧ x.2.1 ≤ R.length ∧ x.1 = begF x.2.1.toNat l, measure := fun _ (x : List Bool × Int × Unit) => (R.length - x.2.1).toNat } | _ => none
def g_begun_vc (R : GI) (l : List Int) : Prop :=
  ((some (Obj.box [V.list LK.part LI R]) = some (Obj.box [V.list LK.part LI R]) ∧ True) ∧ (0 : Int) ≤ (0 : Int) ∧ (0 : Int) ≤ (↑(List.length R) : Int) ∧ [] = begF (Int.toNat (0 : Int)) l) ∧ ∀ (x : List Bool × Int × Unit), (0 : Int) ≤ x.2.1 ∧ x.2.1 ≤ (↑(List.length R) : Int) ∧ x.1 = begF x.2.1.toNat l → (decide (x.2.1 < (↑(List.length R) : Int)) = true → l.length ≤ (1000000000 : Nat) ∧ ((x.1.length + (1 : Nat)) * (1 : Nat) ≤ (140737488355328 : Nat) ∧ x.1.length + (1 : Nat) ≤ (4611686018427387904 : Nat)) ∧ ((-9223372036854775808 : Int) ≤ x.2.1 + (1 : Int) ∧ x.2.1 + (1 : Int) ≤ (9223372036854775807 : Int)) ∧ (some (Obj.box [V.list LK.part LI R]) = some (Obj.box [V.list LK.part LI R]) ∧ True) ∧ ((0 : Int) ≤ x.2.1 + (1 : Int) ∧ x.2.1 + (1 : Int) ≤ (↑(List.length R) : Int) ∧ x.1 ++ [l.contains x.2.1] = begF (x.2.1 + (1 : Int)).toNat l) ∧ ((↑(List.length R) : Int) - (x.2.1 + (1 : Int))).toNat < ((↑(List.length R) : Int) - x.2.1).toNat) ∧ (decide (x.2.1 < (↑(List.length R) : Int)) = false → (x.1, ()) = (begF (List.length R) l, ()))
theorem g_begun_eq (R : GI) (l : List Int) : Cond (env_begun R l) Try.f65 [.agg [.list .part LI R], .list .tmp I l] [.slc 0 .bool] (begF R.length l, ()) = g_begun_vc R l := by kernel_rfl
theorem g_begun_ok (R : GI) (l : List Int) (h : R.length ≤ 1000000000 ∧ l.length ≤ 1000000000) : g_begun_vc R l := by
  unfold g_begun_vc
  simp only [decide_eq_true_eq, decide_eq_false_iff_not, Bool.not_eq_true', Bool.not_eq_false', Bool.not_true, Bool.not_false]
  refine ⟨⟨⟨trivial, trivial⟩, by omega, by omega, rfl⟩, ?_⟩
  rintro ⟨b, i, ⟨⟩⟩ ⟨h0, h1, h2⟩
  dsimp only at h0 h1 h2 ⊢
  have hlen : b.length = i.toNat := by rw [h2]; simp [begF]
  refine ⟨fun hi => ⟨h.2, ⟨by omega, by omega⟩, by omega, ⟨trivial, trivial⟩, ⟨by omega, by omega, ?_⟩, by omega⟩, fun hi => ?_⟩
  · rw [show (i + 1).toNat = i.toNat + 1 by omega, begF_succ, h2, Int.toNat_of_nonneg h0]
  · rw [h2, show i.toNat = List.length R by omega]
set_option maxRecDepth 20000
theorem begun_pure (R : GI) (l : List Int) (h : R.length ≤ 1000000000 ∧ l.length ≤ 1000000000) : Pure Try.prog 65 [.agg [.list .part LI R], .list .tmp I l] (.olist .bool (begF R.length l)) :=
  by have k := Pure.of_cond (g_begun_eq R l) (g_begun_ok R l h) (specs_ok rfl [sp_has'] [] rfl rfl) mixed Try.func65; exact k
noncomputable def q_begun (R : GI) (l : List Int) : Prop × V := (R.length ≤ 1000000000 ∧ l.length ≤ 1000000000, (.olist .bool (begF R.length l)))
noncomputable def sp_begun : FSpec Try.prog where
 f := 65
 run := fun
  | [.agg [v0_0], v1] => (asP LI v0_0 : Option (GI)).bind fun R => (asL I v1 : Option (List Int)).bind fun l => some (q_begun R l)
  | _ => none
 ok := fun args pre r h hp => by
  split at h
  · rename_i v0_0 v1
    obtain ⟨R, h0_0, h⟩ := Option.bind_eq_some_iff.1 h
    obtain ⟨l, h1, h⟩ := Option.bind_eq_some_iff.1 h
    exact of_q h hp fun h => (begun_pure R l h).weak (.cons (Weak.agg (.cons (asP_weak h0_0) .nil)) (.cons (asL_weak h1) .nil))
  · cases h
noncomputable def env_listed (b : List Bool) : Env where
  P := Try.prog
  ty := tys1
  heads := fun | 3 => some { slots := [(3, .slc 18 I), (4, .int .i64)], boxes := [], inv := fun _ (x : List Int × Int × Unit) => 0 ≤ x.2.1 ∧ x.2.1 ≤ b.length ∧ x.1 = ixs (fun i => atB b i) x.2.1.toNat, measure := fun _ (x : List Int × Int × Unit) => (b.length - x.2.1).toNat } | _ => none
def g_listed_vc (b : List Bool) : Prop :=
  (True ∧ (0 : Int) ≤ (0 : Int) ∧ (0 : Int) ≤ (↑b.length : Int) ∧ [] = ixs (fun i => atB b (↑i : Int)) (Int.toNat (0 : Int))) ∧ ∀ (x : List Int × Int × Unit), (0 : Int) ≤ x.2.1 ∧ x.2.1 ≤ (↑b.length : Int) ∧ x.1 = ixs (fun i => atB b (↑i : Int)) x.2.1.toNat → (decide (x.2.1 < (↑b.length : Int)) = true → ((0 : Int) ≤ x.2.1 ∧ x.2.1 < (↑b.length : Int)) ∧ ∀ (x_1 : Bool), b[x.2.1.toNat]? = some x_1 → (x_1 = true → ((x.1.length + (1 : Nat)) * (8 : Nat) ≤ (140737488355328 : Nat) ∧ x.1.length + (1 : Nat) ≤ (4611686018427387904 : Nat)) ∧ ((-9223372036854775808 : Int) ≤ x.2.1 + (1 : Int) ∧ x.2.1 + (1 : Int) ≤ (9223372036854775807 : Int)) ∧ True ∧ ((0 : Int) ≤ x.2.1 + (1 : Int) ∧ x.2.1 + (1 : Int) ≤ (↑b.length : Int) ∧ x.1 ++ [x.2.1] = ixs (fun i => atB b (↑i : Int)) (x.2.1 + (1 : Int)).toNat) ∧ ((↑b.length : Int) - (x.2.1 + (1 : Int))).toNat < ((↑b.length : Int) - x.2.1).toNat) ∧ (x_1 = false → ((-9223372036854775808 : Int) ≤ x.2.1 + (1 : Int) ∧ x.2.1 + (1 : Int) ≤ (9223372036854775807 : Int)) ∧ True ∧ ((0 : Int) ≤ x.2.1 + (1 : Int) ∧ x.2.1 + (1 : Int) ≤ (↑b.length : Int) ∧ x.1 = ixs (fun i => atB b (↑i : Int)) (x.2.1 + (1 : Int)).toNat) ∧ ((↑b.length : Int) - (x.2.1 + (1 : Int))).toNat < ((↑b.length : Int) - x.2.1).toNat)) ∧ (decide (x.2.1 < (↑b.length : Int)) = false → (x.1, ()) = (listF b, ()))
theorem g_listed_eq (b : List Bool) : Cond (env_listed b) Try.f66 [.list .tmp .bool b] [.list .part I] (listF b, ()) = g_listed_vc b := by kernel_rfl
theorem g_listed_ok (b : List Bool) (h : b.length ≤ 1000000000) : g_listed_vc b := by
  unfold g_listed_vc
  simp only [decide_eq_true_eq, decide_eq_false_iff_not, Bool.not_eq_true', Bool.not_eq_false', Bool.not_true, Bool.not_false]
  refine ⟨⟨trivial, by omega, by omega, rfl⟩, ?_⟩
  rintro ⟨o, i, ⟨⟩⟩ ⟨h0, h1, h2⟩
  dsimp only at h0 h1 h2 ⊢
  subst h2
  have hle := ixs_le (fun i => atB b (i : Int)) i.toNat
  refine ⟨fun hi => ⟨⟨h0, hi⟩, fun x hx => ?_⟩, fun hi => ?_⟩
  · have e1 := atB_get (b := b) (v := i) ⟨h0, hi⟩
    rw [hx] at e1
    cases e1
    have e2 : ((i.toNat : Nat) : Int) = i := Int.toNat_of_nonneg h0
    refine ⟨fun hc => ⟨⟨by omega, by omega⟩, by omega, trivial, ⟨by omega, by omega, ?_⟩, by omega⟩, fun hc => ⟨by omega, trivial, ⟨by omega, by omega, ?_⟩, by omega⟩⟩
    · rw [show (i + 1).toNat = i.toNat + 1 by omega, ixs_succ, e2, if_pos hc]
    · rw [show (i + 1).toNat = i.toNat + 1 by omega, ixs_succ, e2, if_neg (by rw [hc]; decide), List.append_nil]
  · rw [listF, show i.toNat = b.length by omega]
theorem listed_pure (b : List Bool) (h : b.length ≤ 1000000000) : Pure Try.prog 66 [.list .tmp .bool b] (.list .part I (listF b)) :=
  by have k := Pure.of_cond (g_listed_eq b) (g_listed_ok b h) (specs_ok rfl [] [] rfl rfl) mixed Try.func66; exact k
noncomputable def q_listed (b : List Bool) : Prop × V := (b.length ≤ 1000000000, (.list .part I (listF b)))
noncomputable def sp_listed : FSpec Try.prog where
 f := 66
 run := fun
  | [v0] => (asL .bool v0 : Option (List Bool)).bind fun b => some (q_listed b)
  | _ => none
 ok := fun args pre r h hp => by
  split at h
  · rename_i v0
    obtain ⟨b, h0, h⟩ := Option.bind_eq_some_iff.1 h
    exact of_q h hp fun h => (listed_pure b h).weak (.cons (asL_weak h0) .nil)
  · cases h
noncomputable def env_rreach (R : GI) (l : List Int) : Env where
  P := Try.prog
  ty := tys1
  specs := specsOf [sp_begun, sp_listed]
  heads := fun
    | 3 => some { slots := [(5, .slc 11 .bool), (6, .int .i64)], boxes := [], keep := [2], inv := fun _ (x : List Bool × Int × Unit) => 0 ≤ x.2.1 ∧ x.2.1 ≤ R.length ∧ Ra R.length (readsF R) (stepsF R.length (rdsF R) (Fr R.length l)) x.2.1.toNat 0 0 x.1, measure := fun _ (x : List Bool × Int × Unit) => (R.length - x.2.1).toNat }
    | 6 => some { slots := [(5, .slc 11 .bool), (7, .int .i64)], boxes := [], keep := [2], inv := fun st (x : List Bool × Int × Unit) => 0 ≤ x.2.1 ∧ x.2.1 ≤ R.length ∧ Ra R.length (readsF R) (stepsF R.length (rdsF R) (Fr R.length l)) (st.int 6).toNat x.2.1 0 x.1, measure := fun _ (x : List Bool × Int × Unit) => (R.length - x.2.1).toNat }
    | 9 => some { slots := [(5, .slc 11 .bool), (8, .int .i64)], boxes := [], keep := [2], inv := fun st (x : List Bool × Int × Unit) => 0 ≤ x.2.1 ∧ x.2.1 ≤ (readsF R (st.int 7)).length ∧ Ra R.length (readsF R) (stepsF R.length (rdsF R) (Fr R.length l)) (st.int 6).toNat (st.int 7) x.2.1.toNat x.1, measure := fun st (x : List Bool × Int × Unit) => ((readsF R (st.int 7)).length - x.2.1).toNat }
    | _ => none
def g_rreach_vc (R : GI) (l : List Int) : Prop :=
  (List.length R ≤ (1000000000 : Nat) ∧ l.length ≤ (1000000000 : Nat)) ∧ ((some (Obj.box [V.list LK.part LI R]) = some (Obj.box [V.list LK.part LI R]) ∧ True) ∧ (0 : Int) ≤ (0 : Int) ∧ (0 : Int) ≤ (↑(List.length R) : Int) ∧ Ra (List.length R) (readsF R) (stepsF (List.length R) (rdsF R) (Fr (List.length R) l)) (Int.toNat (0 : Int)) (0 : Int) (0 : Nat) (begF (List.length R) l)) ∧ ∀ (x : List Bool × Int × Unit), (0 : Int) ≤ x.2.1 ∧ x.2.1 ≤ (↑(List.length R) : Int) ∧ Ra (List.length R) (readsF R) (stepsF (List.length R) (rdsF R) (Fr (List.length R) l)) x.2.1.toNat (0 : Int) (0 : Nat) x.1 → (decide (x.2.1 < (↑x.1.length : Int)) = true → ((some (Obj.box [V.list LK.part LI R]) = some (Obj.box [V.list LK.part LI R]) ∧ True) ∧ (0 : Int) ≤ (0 : Int) ∧ (0 : Int) ≤ (↑(List.length R) : Int) ∧ Ra (List.length R) (readsF R) (stepsF (List.length R) (rdsF R) (Fr (List.length R) l)) x.2.1.toNat (0 : Int) (0 : Nat) x.1) ∧ ∀ (x_1 : List Bool × Int × Unit), (0 : Int) ≤ x_1.2.1 ∧ x_1.2.1 ≤ (↑(List.length R) : Int) ∧ Ra (List.length R) (readsF R) (stepsF (List.length R) (rdsF R) (Fr (List.length R) l)) x.2.1.toNat x_1.2.1 (0 : Nat) x_1.1 → (decide (x_1.2.1 < (↑x_1.1.length : Int)) = true → ((some (Obj.box [V.list LK.part LI R]) = some (Obj.box [V.list LK.part LI R]) ∧ True) ∧ (0 : Int) ≤ (0 : Int) ∧ (0 : Int) ≤ (↑(readsF R x_1.2.1).length : Int) ∧ Ra (List.length R) (readsF R) (stepsF (List.length R) (rdsF R) (Fr (List.length R) l)) x.2.1.toNat x_1.2.1 (Int.toNat (0 : Int)) x_1.1) ∧ ∀ (x_2 : List Bool × Int × Unit), (0 : Int) ≤ x_2.2.1 ∧ x_2.2.1 ≤ (↑(readsF R x_1.2.1).length : Int) ∧ Ra (List.length R) (readsF R) (stepsF (List.length R) (rdsF R) (Fr (List.length R) l)) x.2.1.toNat x_1.2.1 x_2.2.1.toNat x_2.1 → ((0 : Int) ≤ x_1.2.1 ∧ x_1.2.1 < (↑(List.length R) : Int)) ∧ ∀ (x_3 : List Int), R[x_1.2.1.toNat]? = some x_3 → (decide (x_2.2.1 < (↑x_3.length : Int)) = true → ((0 : Int) ≤ x_1.2.1 ∧ x_1.2.1 < (↑x_2.1.length : Int)) ∧ x_1.2.1.toNat < x_2.1.length ∧ ∀ (x_4 : Bool), x_2.1[x_1.2.1.toNat]? = some x_4 → (x_4 = false → ((0 : Int) ≤ x_1.2.1 ∧ x_1.2.1 < (↑(List.length R) : Int)) ∧ ∀ (x_5 : List Int), R[x_1.2.1.toNat]? = some x_5 → ((0 : Int) ≤ x_2.2.1 ∧ x_2.2.1 < (↑x_5.length : Int)) ∧ ∀ (x_6 : Int), x_5[x_2.2.1.toNat]? = some x_6 → ((0 : Int) ≤ x_6 ∧ x_6 < (↑x_2.1.length : Int)) ∧ x_6.toNat < x_2.1.length ∧ ∀ (x_7 : Bool), x_2.1[x_6.toNat]? = some x_7 → ((0 : Int) ≤ x_1.2.1 ∧ x_1.2.1 < (↑x_2.1.length : Int)) ∧ x_1.2.1.toNat < x_2.1.length ∧ ∀ (y : Bool), x_2.1[x_1.2.1.toNat]? = some y → ((-9223372036854775808 : Int) ≤ x_2.2.1 + (1 : Int) ∧ x_2.2.1 + (1 : Int) ≤ (9223372036854775807 : Int)) ∧ (some (Obj.box [V.list LK.part LI R]) = some (Obj.box [V.list LK.part LI R]) ∧ True) ∧ ((0 : Int) ≤ x_2.2.1 + (1 : Int) ∧ x_2.2.1 + (1 : Int) ≤ (↑(readsF R x_1.2.1).length : Int) ∧ Ra (List.length R) (readsF R) (stepsF (List.length R) (rdsF R) (Fr (List.length R) l)) x.2.1.toNat x_1.2.1 (x_2.2.1 + (1 : Int)).toNat (x_2.1.set x_1.2.1.toNat x_7)) ∧ ((↑(readsF R x_1.2.1).length : Int) - (x_2.2.1 + (1 : Int))).toNat < ((↑(readsF R x_1.2.1).length : Int) - x_2.2.1).toNat) ∧ (x_4 = !false → ((0 : Int) ≤ x_1.2.1 ∧ x_1.2.1 < (↑x_2.1.length : Int)) ∧ x_1.2.1.toNat < x_2.1.length ∧ ∀ (y : Bool), x_2.1[x_1.2.1.toNat]? = some y → ((-9223372036854775808 : Int) ≤ x_2.2.1 + (1 : Int) ∧ x_2.2.1 + (1 : Int) ≤ (9223372036854775807 : Int)) ∧ (some (Obj.box [V.list LK.part LI R]) = some (Obj.box [V.list LK.part LI R]) ∧ True) ∧ ((0 : Int) ≤ x_2.2.1 + (1 : Int) ∧ x_2.2.1 + (1 : Int) ≤ (↑(readsF R x_1.2.1).length : Int) ∧ Ra (List.length R) (readsF R) (stepsF (List.length R) (rdsF R) (Fr (List.length R) l)) x.2.1.toNat x_1.2.1 (x_2.2.1 + (1 : Int)).toNat (x_2.1.set x_1.2.1.toNat true)) ∧ ((↑(readsF R x_1.2.1).length : Int) - (x_2.2.1 + (1 : Int))).toNat < ((↑(readsF R x_1.2.1).length : Int) - x_2.2.1).toNat)) ∧ (decide (x_2.2.1 < (↑x_3.length : Int)) = false → ((-9223372036854775808 : Int) ≤ x_1.2.1 + (1 : Int) ∧ x_1.2.1 + (1 : Int) ≤ (9223372036854775807 : Int)) ∧ (some (Obj.box [V.list LK.part LI R]) = some (Obj.box [V.list LK.part LI R]) ∧ True) ∧ ((0 : Int) ≤ x_1.2.1 + (1 : Int) ∧ x_1.2.1 + (1 : Int) ≤ (↑(List.length R) : Int) ∧ Ra (List.length R) (readsF R) (stepsF (List.length R) (rdsF R) (Fr (List.length R) l)) x.2.1.toNat (x_1.2.1 + (1 : Int)) (0 : Nat) x_2.1) ∧ ((↑(List.length R) : Int) - (x_1.2.1 + (1 : Int))).toNat < ((↑(List.length R) : Int) - x_1.2.1).toNat)) ∧ (decide (x_1.2.1 < (↑x_1.1.length : Int)) = false → ((-9223372036854775808 : Int) ≤ x.2.1 + (1 : Int) ∧ x.2.1 + (1 : Int) ≤ (9223372036854775807 : Int)) ∧ (some (Obj.box [V.list LK.part LI R]) = some (Obj.box [V.list LK.part LI R]) ∧ True) ∧ ((0 : Int) ≤ x.2.1 + (1 : Int) ∧ x.2.1 + (1 : Int) ≤ (↑(List.length R) : Int) ∧ Ra (List.length R) (readsF R) (stepsF (List.length R) (rdsF R) (Fr (List.length R) l)) (x.2.1 + (1 : Int)).toNat (0 : Int) (0 : Nat) x_1.1) ∧ ((↑(List.length R) : Int) - (x.2.1 + (1 : Int))).toNat < ((↑(List.length R) : Int) - x.2.1).toNat)) ∧ (decide (x.2.1 < (↑x.1.length : Int)) = false → x.1.length ≤ (1000000000 : Nat) ∧ (listF x.1, ()) = (metF (stepsF (List.length R) (rdsF R) (Fr (List.length R) l)), ()))
theorem g_rreach_eq (R : GI) (l : List Int) : Cond (env_rreach R l) Try.f32 [.agg [.list .part LI R], .list .tmp I l] [.list .part I] (metF (stepsF R.length (rdsF R) (Fr R.length l)), ()) = g_rreach_vc R l := by kernel_rfl
theorem g_rreach_ok (R : GI) (l : List Int) (h : GOk R ∧ l.length ≤ 1000000000) : g_rreach_vc R l := by
  unfold g_rreach_vc
  simp only [decide_eq_true_eq, decide_eq_false_iff_not, Bool.not_eq_true', Bool.not_eq_false', Bool.not_true, Bool.not_false]
  obtain ⟨hG, hl⟩ := h
  have hR := hG.1
  have hT := steps_table (n := R.length) (nx := rdsF R) (F := Fr R.length l) fr_dom (rds_dom hG)
  have hr := rds_iff hG
  generalize stepsF R.length (rdsF R) (Fr R.length l) = T at hT ⊢
  refine ⟨⟨by omega, hl⟩, ⟨⟨trivial, trivial⟩, by omega, by omega, Ra.begin hT⟩, ?_⟩
  rintro ⟨b, k, ⟨⟩⟩ ⟨k0, k1, hA⟩
  dsimp only at k0 k1 hA ⊢
  have hlen := hA.len
  refine ⟨fun hk => ⟨⟨⟨trivial, trivial⟩, by omega, by omega, hA⟩, ?_⟩, fun hk => ⟨by omega, by rw [hA.fin hT (by omega)]⟩⟩
  have hk2 : k < R.length := by omega
  clear hA hlen b hk
  rintro ⟨b, j, ⟨⟩⟩ ⟨j0, j1, hA⟩
  dsimp only at j0 j1 hA ⊢
  have hlen := hA.len
  refine ⟨fun hj => ⟨⟨⟨trivial, trivial⟩, by omega, by omega, hA⟩, ?_⟩, fun hj => ⟨by omega, ⟨trivial, trivial⟩, ⟨by omega, by omega, by rw [show (k + 1).toNat = k.toNat + 1 by omega]; exact hA.round hT (by omega)⟩, by omega⟩⟩
  have hjd : Dom R.length j := ⟨j0, by omega⟩
  have hjd2 : 0 ≤ j ∧ j < R.length := hjd
  have hrl := reads_le (v := j) (gok_le hG)
  clear hA hlen hj b
  rintro ⟨b, i, ⟨⟩⟩ ⟨i0, i1, hA⟩
  dsimp only at i0 i1 hA ⊢
  have hlen := hA.len
  refine ⟨hjd2, fun rj hrj => ?_⟩
  have e := reads_at hjd2
  rw [hrj] at e
  cases e
  refine ⟨fun hi => ⟨⟨j0, by omega⟩, by omega, fun bj hbj => ?_⟩, fun hi => ⟨by omega, ⟨trivial, trivial⟩, ⟨by omega, by omega, hA.next hT hr (by omega)⟩, by omega⟩⟩
  have ej := atB_get (b := b) (v := j) (by rw [hlen]; exact hjd)
  rw [hbj] at ej
  cases ej
  obtain ⟨u, hu⟩ : ∃ u, (readsF R j)[i.toNat]? = some u := ⟨_, List.getElem?_eq_getElem (by omega)⟩
  have hst := hA.step hT hr hjd hu
  rw [show i.toNat + 1 = (i + 1).toNat by omega] at hst
  have hud := reads_dom hG j u hjd (List.mem_of_getElem? hu)
  refine ⟨fun hb => ⟨hjd2, fun rj2 hrj2 => ?_⟩, fun hb => ⟨⟨j0, by omega⟩, by omega, fun y _ => ⟨by omega, ⟨trivial, trivial⟩, ⟨by omega, by omega, ?_⟩, by omega⟩⟩⟩
  · have e := reads_at hjd2
    rw [hrj2] at e
    cases e
    refine ⟨⟨i0, hi⟩, fun u2 hu2 => ?_⟩
    rw [hu] at hu2
    cases hu2
    have hud2 : 0 ≤ u ∧ u < R.length := hud
    refine ⟨⟨hud2.1, by omega⟩, by omega, fun bu hbu => ⟨⟨j0, by omega⟩, by omega, fun y _ => ⟨by omega, ⟨trivial, trivial⟩, ⟨by omega, by omega, ?_⟩, by omega⟩⟩⟩
    have eu := atB_get (b := b) (v := u) (by rw [hlen]; exact hud)
    rw [hbu] at eu
    cases eu
    rw [hb, Bool.false_or] at hst
    exact hst
  · rw [hb, Bool.true_or] at hst
    exact hst
theorem rreach_pure (R : GI) (l : List Int) (h : GOk R ∧ l.length ≤ 1000000000) : Pure Try.prog 32 [.agg [.list .part LI R], .list .tmp I l] (.list .part I (metF (stepsF R.length (rdsF R) (Fr R.length l)))) :=
  by have k := Pure.of_cond (g_rreach_eq R l) (g_rreach_ok R l h) (specs_ok rfl [sp_begun, sp_listed] [] rfl rfl) mixed Try.func32; exact k
noncomputable def q_rreach (R : GI) (l : List Int) : Prop × V := (GOk R ∧ l.length ≤ 1000000000, (.list .part I (metF (stepsF R.length (rdsF R) (Fr R.length l)))))
noncomputable def sp_rreach : FSpec Try.prog where
 f := 32
 run := fun
  | [.agg [v0_0], v1] => (asP LI v0_0 : Option (GI)).bind fun R => (asL I v1 : Option (List Int)).bind fun l => some (q_rreach R l)
  | _ => none
 ok := fun args pre r h hp => by
  split at h
  · rename_i v0_0 v1
    obtain ⟨R, h0_0, h⟩ := Option.bind_eq_some_iff.1 h
    obtain ⟨l, h1, h⟩ := Option.bind_eq_some_iff.1 h
    exact of_q h hp fun h => (rreach_pure R l h).weak (.cons (Weak.agg (.cons (asP_weak h0_0) .nil)) (.cons (asL_weak h1) .nil))
  · cases h
end Go.Proofs.Ytojflfogjkajaaa.Rc
end
section
namespace Go.Proofs.Ytojflfogjkajaaa.Rc
open Go.Vm Go.Proofs.Ytojflfogjkajaaa.Gr
def tabB (n : Nat) (nx : Int → List Int) (l o : List Int) : Bool :=
  decide (o.length = n) && (List.range n).all fun v => (decide (-1 ≤ atI o v) && (decide (atI o v = 0) == l.contains (v : Int))) &&
    ((decide (atI o v ≤ 0) || (List.range n).any fun u => (nx u).contains (v : Int) && decide (atI o u + 1 = atI o v)) && (decide (atI o v < 0) || (nx v).all fun w => decide (0 ≤ atI o w ∧ atI o w ≤ atI o v + 1)))
theorem tab_of {n : Nat} {nx : Int → List Int} {l o : List Int} (h : tabB n nx l o = true) : Table n nx (Fr n l) o := by
  unfold tabB at h
  rw [Bool.and_eq_true, List.all_eq_true, decide_eq_true_eq] at h
  obtain ⟨hl, h⟩ := h
  have key : ∀ v, Dom n v → -1 ≤ atI o v ∧ (atI o v = 0 ↔ v ∈ l) ∧ (0 < atI o v → ∃ u, Dom n u ∧ v ∈ nx u ∧ atI o u + 1 = atI o v) ∧ (0 ≤ atI o v → ∀ w ∈ nx v, 0 ≤ atI o w ∧ atI o w ≤ atI o v + 1) := by
    intro v hv
    have h1 := h v.toNat (List.mem_range.2 (by unfold Dom at hv; omega))
    rw [Int.toNat_of_nonneg hv.1] at h1
    simp only [Bool.and_eq_true, Bool.or_eq_true, decide_eq_true_eq, beq_iff_eq, List.any_eq_true, List.all_eq_true, List.mem_range] at h1
    obtain ⟨⟨h2, h3⟩, h4, h5⟩ := h1
    refine ⟨h2, ?_, fun hp => ?_, fun hp w hw => ?_⟩
    · rw [← List.contains_iff_mem, ← h3, decide_eq_true_eq]
    · rcases h4 with h4 | ⟨u, a, b, c⟩
      · omega
      · exact ⟨u, ⟨by omega, by omega⟩, List.contains_iff_mem.1 b, c⟩
    · rcases h5 with h5 | h5
      · omega
      · exact h5 w hw
  have hs : ∀ (k : Nat) v, atI o v = k → Pth nx (Fr n l) k v := by
    intro k
    induction k with
    | zero =>
      intro v hv
      have hd := dom_of hl (v := v) (by omega)
      exact .zero ⟨hd, (key v hd).2.1.1 (by omega)⟩
    | succ k ih =>
      intro v hv
      have hd := dom_of hl (v := v) (by omega)
      obtain ⟨u, _, h2, h3⟩ := (key v hd).2.2.1 (by omega)
      exact .succ (ih u (by omega)) h2
  refine ⟨hl, fun v => ?_, fun v hv => (key v hv.1).2.1.2 hv.2, fun v k hk => hs k v hk, fun v w hv hw => (key v (dom_of hl hv)).2.2.2 hv w hw⟩
  by_cases hd : Dom n v
  · exact (key v hd).1
  · rw [atI_out hl hd]
    omega
theorem steps_of {R : GI} {l o : List Int} (hG : GOk R) (h : tabB R.length (rdsF R) l o = true) : stepsF R.length (rdsF R) (Fr R.length l) = o := ((tab_of h).eq fr_dom (rds_dom hG)).symm
set_option maxRecDepth 20000
end Go.Proofs.Ytojflfogjkajaaa.Rc
end
section
namespace Go.Proofs.Ytojflfogjkajaaa.Rc
open Go.Vm Go.Proofs.Ytojflfogjkajaaa.Gr
theorem reads_rds {R : GI} (h : GOk R) (u v : Int) (hm : v ∈ readsF R u) : u ∈ rdsF R v := by
  have hu : Dom R.length u := by
    unfold readsF at hm
    split at hm
    · assumption
    · cases hm
  exact (rds_iff h v u hu).2 hm
theorem rds_reads {R : GI} (h : GOk R) (u v : Int) (hm : v ∈ rdsF R u) : u ∈ readsF R v := by
  have hu : Dom R.length u := by
    unfold rdsF at hm
    split at hm
    · assumption
    · cases hm
  exact (rds_iff h u v (rds_dom h u v hu hm)).1 hm
theorem tabS {R : GI} (h : GOk R) (l : List Int) : Table R.length (rdsF R) (Fr R.length l) (stepsF R.length (rdsF R) (Fr R.length l)) := steps_table fr_dom (rds_dom h)
def Bst (T : List Int) (l : List Int) (b : Int) : Prop := (b = -1 ∧ ∀ w ∈ l, atI T w < 0) ∨ (0 ≤ b ∧ (∃ w ∈ l, atI T w = b) ∧ ∀ w ∈ l, 0 ≤ atI T w → b ≤ atI T w)
theorem Bst.nil (T : List Int) : Bst T [] (-1) := .inl ⟨rfl, fun w hw => by simp at hw⟩
theorem Bst.snoc {T l : List Int} {b x : Int} (h : Bst T l b) (hx : ¬ (0 ≤ atI T x ∧ (b < 0 ∨ atI T x < b))) : Bst T (l ++ [x]) b := by
  rcases h with ⟨h1, h2⟩ | ⟨h1, ⟨w, h2, h3⟩, h4⟩
  · refine .inl ⟨h1, fun w hw => ?_⟩
    rcases List.mem_append.1 hw with hw | hw
    · exact h2 w hw
    · rw [List.mem_singleton.1 hw]
      omega
  · refine .inr ⟨h1, ⟨w, List.mem_append_left _ h2, h3⟩, fun u hu h0 => ?_⟩
    rcases List.mem_append.1 hu with hu | hu
    · exact h4 u hu h0
    · rw [List.mem_singleton.1 hu] at h0 ⊢
      omega
theorem Bst.put {T l : List Int} {b x : Int} (h : Bst T l b) (hx : 0 ≤ atI T x ∧ (b < 0 ∨ atI T x < b)) : Bst T (l ++ [x]) (atI T x) := by
  refine .inr ⟨hx.1, ⟨x, by simp, rfl⟩, fun u hu h0 => ?_⟩
  rcases List.mem_append.1 hu with hu | hu
  · rcases h with ⟨h1, h2⟩ | ⟨h1, _, h4⟩
    · have := h2 u hu
      omega
    · have := h4 u hu h0
      omega
  · rw [List.mem_singleton.1 hu]
    omega
theorem Bst.low {T l : List Int} {b : Int} (h : Bst T l b) : -1 ≤ b := by
  rcases h with ⟨h1, _⟩ | ⟨h1, _⟩ <;> omega
theorem Bst.fin {R : GI} (hG : GOk R) {fr : List Int} {v b : Int} (hv : Dom R.length v) (h : Bst (stepsF R.length (rdsF R) (Fr R.length fr)) (readsF R v) b) :
    (0 < atI (stepsF R.length (rdsF R) (Fr R.length fr)) v → atI (stepsF R.length (rdsF R) (Fr R.length fr)) v = b + 1) ∧ (atI (stepsF R.length (rdsF R) (Fr R.length fr)) v < 0 → b < 0) := by
  have hT := tabS hG fr
  generalize stepsF R.length (rdsF R) (Fr R.length fr) = T at hT h ⊢
  constructor
  · intro hp
    obtain ⟨u, h1, h2⟩ := hT.pred (v := v) (k := (atI T v).toNat - 1) (by omega)
    have hu := rds_reads hG u v h1
    rcases h with ⟨h3, h4⟩ | ⟨h3, ⟨w, h4, h5⟩, h6⟩
    · have := h4 u hu
      omega
    · have a := h6 u hu (by omega)
      have c := hT.closed w v (by omega) (reads_rds hG v w h4)
      omega
  · intro hn
    rcases h with ⟨h3, h4⟩ | ⟨h3, ⟨w, h4, h5⟩, h6⟩
    · omega
    · have c := hT.closed w v (by omega) (reads_rds hG v w h4)
      omega
theorem acts_len : ∀ (l : List Ac) (R : GI), (actsR R l).length = R.length
  | [], _ => rfl
  | x :: r, R => by rw [actsR, acts_len r, setG_len]
theorem made_len {m : Int} {l : List Ac} (h : ¬ (actsR (newR m) l).length = 0) : ((actsR (newR m) l).length : Int) = m := by
  rw [acts_len, newR_len] at h ⊢
  split at h
  · rename_i hm
    rw [if_pos hm]
    omega
  · exact absurd rfl h
theorem met_le (o : List Int) : (metF o).length ≤ o.length := ixs_le _ _
set_option maxRecDepth 20000
end Go.Proofs.Ytojflfogjkajaaa.Rc
end
