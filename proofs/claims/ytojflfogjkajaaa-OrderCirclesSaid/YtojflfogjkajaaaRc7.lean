/-
  law13: ReachSteps, ReachCloses.
-/
import Derived.Test.YtojflfogjkajaaaGf6
section
namespace Go.Proofs.Ytojflfogjkajaaa.Rc
def atI (o : List Int) (v : Int) : Int := if 0 ≤ v then o.getD v.toNat (-1) else -1
def Dom (n : Nat) (v : Int) : Prop := 0 ≤ v ∧ v < n
inductive Pth (nx : Int → List Int) (F : Int → Prop) : Nat → Int → Prop
  | zero {v : Int} : F v → Pth nx F 0 v
  | succ {k : Nat} {v w : Int} : Pth nx F k v → w ∈ nx v → Pth nx F (k + 1) w
structure Table (n : Nat) (nx : Int → List Int) (F : Int → Prop) (o : List Int) : Prop where
  len : o.length = n
  low : ∀ v, -1 ≤ atI o v
  zero : ∀ v, F v → atI o v = 0
  sound : ∀ v (k : Nat), atI o v = k → Pth nx F k v
  closed : ∀ v w, 0 ≤ atI o v → w ∈ nx v → 0 ≤ atI o w ∧ atI o w ≤ atI o v + 1
theorem atI_out {n : Nat} {o : List Int} (h : o.length = n) {v : Int} (hv : ¬ Dom n v) : atI o v = -1 := by
  unfold atI
  split
  · rw [List.getD_eq_getElem?_getD, List.getElem?_eq_none (by unfold Dom at hv; omega)]
    rfl
  · rfl
theorem dom_of {n : Nat} {o : List Int} (h : o.length = n) {v : Int} (hv : 0 ≤ atI o v) : Dom n v := by
  apply Classical.byContradiction
  intro hn
  rw [atI_out h hn] at hv
  omega
theorem atI_get {o : List Int} {v : Int} (hv : Dom o.length v) : o[v.toNat]? = some (atI o v) := by
  unfold atI
  unfold Dom at hv
  rw [if_pos hv.1, List.getD_eq_getElem?_getD, List.getElem?_eq_getElem (show v.toNat < o.length by omega)]
  rfl
theorem atI_set {o : List Int} {v : Int} (hv : Dom o.length v) (x u : Int) : atI (o.set v.toNat x) u = if u = v then x else atI o u := by
  unfold atI
  unfold Dom at hv
  by_cases hu : 0 ≤ u
  · rw [if_pos hu, if_pos hu, List.getD_eq_getElem?_getD, List.getD_eq_getElem?_getD, List.getElem?_set]
    by_cases e : u = v
    · subst e
      rw [if_pos rfl, if_pos rfl, if_pos (by omega)]
      rfl
    · rw [if_neg (by omega), if_neg e]
  · rw [if_neg hu, if_neg hu, if_neg (by omega)]
section
variable {n : Nat} {nx : Int → List Int} {F : Int → Prop} {o o' : List Int}
theorem Table.exact (h : Table n nx F o) : ∀ {k : Nat} {v : Int}, Pth nx F k v → 0 ≤ atI o v ∧ atI o v ≤ k
  | _, _, .zero hf => by rw [h.zero _ hf]; omega
  | _, _, .succ hp he => by
    have h1 := h.exact hp
    have h2 := h.closed _ _ h1.1 he
    omega
theorem Table.le (h : Table n nx F o) (h' : Table n nx F o') {v : Int} (hv : 0 ≤ atI o v) : 0 ≤ atI o' v ∧ atI o' v ≤ atI o v := by
  have := h'.exact (h.sound v (atI o v).toNat (by omega))
  omega
theorem Table.same (h : Table n nx F o) (h' : Table n nx F o') (v : Int) : atI o v = atI o' v := by
  have h1 := h.low v
  have h2 := h'.low v
  by_cases hv : 0 ≤ atI o v
  · have a := h.le h' hv
    have b := h'.le h a.1
    omega
  · by_cases hw : 0 ≤ atI o' v
    · have b := h'.le h hw
      omega
    · omega
theorem ext_at {o o' : List Int} (hl : o.length = o'.length) (h : ∀ v, Dom o.length v → atI o v = atI o' v) : o = o' := by
  apply List.ext_getElem hl
  intro i h1 h2
  have := h i ⟨by omega, by omega⟩
  unfold atI at this
  rw [if_pos (by omega), if_pos (by omega), List.getD_eq_getElem?_getD, List.getD_eq_getElem?_getD, List.getElem?_eq_getElem (by simpa using h1), List.getElem?_eq_getElem (by simpa using h2)] at this
  simpa using this
theorem Table.pred (h : Table n nx F o) {v : Int} {k : Nat} (hv : atI o v = (k : Int) + 1) : ∃ u, v ∈ nx u ∧ atI o u = k := by
  have := h.sound v (k + 1) (by omega)
  cases this with
  | succ hp he =>
    rename_i u
    have h1 := h.exact hp
    have h2 := h.closed _ _ h1.1 he
    exact ⟨u, he, by omega⟩
theorem sub_len : ∀ {l m : List Int}, l.Nodup → (∀ x ∈ l, x ∈ m) → l.length ≤ m.length
  | [], _, _, _ => by simp
  | x :: l, m, h, hs => by
    obtain ⟨h1, h2⟩ := List.nodup_cons.1 h
    have hx := hs x List.mem_cons_self
    have := sub_len (m := m.erase x) h2 fun y hy => (List.mem_erase_of_ne (fun e => by subst e; exact h1 hy)).2 (hs y (List.mem_cons_of_mem _ hy))
    rw [List.length_erase_of_mem hx] at this
    have : 0 < m.length := List.length_pos_of_mem hx
    simp only [List.length_cons]
    omega
theorem Table.has (h : Table n nx F o) : ∀ {k : Nat} {v : Int}, atI o v = k → ∀ j : Nat, j ≤ k → (j : Int) ∈ o
  | 0, v, hv, j, hj => by
    have := atI_get (o := o) (v := v) (by rw [h.len]; exact dom_of h.len (by omega))
    rw [hv] at this
    rw [show j = 0 by omega]
    exact List.mem_of_getElem? this
  | k + 1, v, hv, j, hj => by
    by_cases e : j = k + 1
    · have := atI_get (o := o) (v := v) (by rw [h.len]; exact dom_of h.len (by omega))
      rw [hv] at this
      rw [e]
      exact List.mem_of_getElem? this
    · obtain ⟨u, _, hu⟩ := h.pred (v := v) (k := k) (by omega)
      exact h.has hu j (by omega)
theorem nodup_range (k : Nat) : ((List.range k).map fun (j : Nat) => (j : Int)).Nodup := by
  rw [List.nodup_iff_pairwise_ne, List.pairwise_map]
  exact List.Pairwise.imp (fun {a b} hne e => hne (by omega)) (List.nodup_iff_pairwise_ne.1 List.nodup_range)
theorem Table.lt (h : Table n nx F o) {k : Nat} {v : Int} (hv : atI o v = k) : k < n := by
  have := sub_len (l := (List.range (k + 1)).map fun (j : Nat) => (j : Int)) (m := o) (nodup_range _) (by
    intro x hx
    obtain ⟨j, hj, rfl⟩ := List.mem_map.1 hx
    exact h.has hv j (by have := List.mem_range.1 hj; omega))
  rw [List.length_map, List.length_range, h.len] at this
  omega
structure Bf (n : Nat) (nx : Int → List Int) (F : Int → Prop) (o row : List Int) : Prop where
  len : o.length = n
  low : ∀ v, -1 ≤ atI o v
  zero : ∀ v, F v → atI o v = 0
  sound : ∀ v (k : Nat), atI o v = k → Pth nx F k v
  inrow : ∀ v ∈ row, 0 ≤ atI o v
  sorted : row.Pairwise fun a b => atI o a ≤ atI o b
  top : ∀ v w, v ∈ row → 0 ≤ atI o w → atI o w ≤ atI o v + 1
  closed : ∀ v w, 0 ≤ atI o v → v ∉ row → w ∈ nx v → 0 ≤ atI o w ∧ atI o w ≤ atI o v + 1
structure Bi (n : Nat) (nx : Int → List Int) (F : Int → Prop) (v : Int) (i : Nat) (o row : List Int) : Prop where
  len : o.length = n
  low : ∀ v, -1 ≤ atI o v
  zero : ∀ v, F v → atI o v = 0
  sound : ∀ v (k : Nat), atI o v = k → Pth nx F k v
  cur : 0 ≤ atI o v
  rowle : ∀ u ∈ row, atI o v ≤ atI o u
  sorted : row.Pairwise fun a b => atI o a ≤ atI o b
  top : ∀ w, 0 ≤ atI o w → atI o w ≤ atI o v + 1
  done : ∀ w ∈ (nx v).take i, 0 ≤ atI o w
  closed : ∀ u w, 0 ≤ atI o u → u ∉ row → u ≠ v → w ∈ nx u → 0 ≤ atI o w ∧ atI o w ≤ atI o u + 1
theorem Bi.next {v : Int} {row : List Int} {i : Nat} (h : Bi n nx F v i o row) (hi : (nx v).length ≤ i) : Bf n nx F o row := by
  refine ⟨h.len, h.low, h.zero, h.sound, fun u hu => ?_, h.sorted, fun u w hu hw => ?_, fun u w hu hr he => ?_⟩
  · have := h.rowle u hu
    have := h.cur
    omega
  · have := h.rowle u hu
    have := h.top w hw
    omega
  · by_cases e : u = v
    · subst e
      have h1 := h.done w (by rw [List.take_of_length_le hi]; exact he)
      exact ⟨h1, h.top w h1⟩
    · exact h.closed u w hu hr e he
theorem Bi.skip {v x : Int} {row : List Int} {i : Nat} (h : Bi n nx F v i o row) (hx : (nx v)[i]? = some x) (hx0 : 0 ≤ atI o x) : Bi n nx F v (i + 1) o row := by
  refine ⟨h.len, h.low, h.zero, h.sound, h.cur, h.rowle, h.sorted, h.top, fun w hw => ?_, h.closed⟩
  rw [List.take_add_one, hx, List.mem_append] at hw
  rcases hw with hw | hw
  · exact h.done w hw
  · simp only [Option.toList_some, List.mem_singleton] at hw
    rw [hw]; exact hx0
theorem Bi.put {v x : Int} {row : List Int} {i : Nat} (h : Bi n nx F v i o row) (hx : (nx v)[i]? = some x) (hd : Dom n x) (hx0 : atI o x < 0) : Bi n nx F v (i + 1) (o.set x.toNat (atI o v + 1)) (row ++ [x]) := by
  have hs : ∀ u, atI (o.set x.toNat (atI o v + 1)) u = if u = x then atI o v + 1 else atI o u := fun u => atI_set (by rw [h.len]; exact hd) _ u
  have hc := h.cur
  have hvx : v ≠ x := fun e => by rw [e] at hc; omega
  have hev : atI (o.set x.toNat (atI o v + 1)) v = atI o v := by rw [hs, if_neg hvx]
  have hxm := List.mem_of_getElem? hx
  have hne : ∀ u ∈ row, u ≠ x := fun u hu e => by have := h.rowle u hu; rw [e] at this; omega
  refine ⟨by rw [List.length_set]; exact h.len, fun u => ?_, fun u hu => ?_, fun u k hk => ?_, by rw [hev]; exact hc, fun u hu => ?_, ?_, fun w hw => ?_, fun w hw => ?_, fun u w hu hr hn he => ?_⟩
  · rw [hs]
    split
    · omega
    · exact h.low u
  · have := h.zero u hu
    rw [hs, if_neg (fun e => by rw [e] at this; omega)]
    exact this
  · rw [hs] at hk
    split at hk
    · rename_i e
      have := Pth.succ (h.sound v (atI o v).toNat (by omega)) hxm
      rw [e, show k = (atI o v).toNat + 1 by omega]
      exact this
    · exact h.sound u k hk
  · rw [hev, hs]
    split
    · omega
    · rename_i e
      rcases List.mem_append.1 hu with hu | hu
      · exact h.rowle u hu
      · exact absurd (List.mem_singleton.1 hu) e
  · rw [List.pairwise_append]
    refine ⟨?_, by simp, fun a ha b hb => ?_⟩
    · refine List.Pairwise.imp_of_mem (fun {a b} ha hb hab => ?_) h.sorted
      rw [hs, hs, if_neg (hne a ha), if_neg (hne b hb)]
      exact hab
    · rw [List.mem_singleton] at hb
      rw [hs, hs, if_neg (hne a ha), if_pos hb]
      have := h.rowle a ha
      exact h.top a (by omega)
  · rw [hev]
    rw [hs] at hw ⊢
    split
    · omega
    · rename_i e
      rw [if_neg e] at hw
      exact h.top w hw
  · rw [List.take_add_one, hx, List.mem_append] at hw
    rw [hs]
    split
    · omega
    · rename_i e
      rcases hw with hw | hw
      · exact h.done w hw
      · simp only [Option.toList_some, List.mem_singleton] at hw
        exact absurd hw e
  · rw [List.mem_append, not_or] at hr
    have hux : u ≠ x := fun e => hr.2 (by simp [e])
    rw [hs, if_neg hux] at hu
    have h1 := h.closed u w hu hr.1 hn he
    rw [hs, hs, if_neg hux, if_neg (fun e => by rw [e] at h1; omega)]
    exact h1
end
def Fr (n : Nat) (l : List Int) (v : Int) : Prop := Dom n v ∧ v ∈ l
structure Bs (n : Nat) (l : List Int) (i : Nat) (o row : List Int) : Prop where
  len : o.length = n
  two : ∀ v, atI o v = -1 ∨ atI o v = 0
  row : ∀ v, v ∈ row ↔ atI o v = 0
  done : ∀ v, atI o v = 0 ↔ Fr n (l.take i) v
theorem Bs.begin (n : Nat) (l : List Int) : Bs n l 0 (List.replicate n (-1)) [] := by
  have h1 : ∀ v, atI (List.replicate n (-1)) v = -1 := fun v => by
    unfold atI
    split
    · rw [List.getD_eq_getElem?_getD, List.getElem?_replicate]
      split <;> rfl
    · rfl
  exact ⟨by simp, fun v => .inl (h1 v), fun v => by rw [h1]; simp, fun v => by rw [h1]; simp [Fr]⟩
theorem Bs.skip {n : Nat} {l : List Int} {i : Nat} {o row : List Int} {x : Int} (h : Bs n l i o row) (hx : l[i]? = some x) (hs : ¬ (Dom n x ∧ atI o x < 0)) : Bs n l (i + 1) o row := by
  refine ⟨h.len, h.two, h.row, fun v => ?_⟩
  rw [h.done v, List.take_add_one, hx]
  unfold Fr
  simp only [Option.toList_some, List.mem_append, List.mem_singleton]
  refine ⟨fun ⟨a, b⟩ => ⟨a, .inl b⟩, fun ⟨a, b⟩ => ⟨a, ?_⟩⟩
  rcases b with b | b
  · exact b
  · subst b
    have h0 : atI o v = 0 := by
      rcases h.two v with h1 | h1
      · exact absurd ⟨a, by omega⟩ hs
      · exact h1
    exact ((h.done v).1 h0).2
theorem Bs.put {n : Nat} {l : List Int} {i : Nat} {o row : List Int} {x : Int} (h : Bs n l i o row) (hx : l[i]? = some x) (hd : Dom n x) (hx0 : atI o x < 0) : Bs n l (i + 1) (o.set x.toNat 0) (row ++ [x]) := by
  have hs : ∀ u, atI (o.set x.toNat 0) u = if u = x then 0 else atI o u := fun u => atI_set (by rw [h.len]; exact hd) _ u
  refine ⟨by rw [List.length_set]; exact h.len, fun v => ?_, fun v => ?_, fun v => ?_⟩
  · rw [hs]
    split
    · exact .inr rfl
    · exact h.two v
  · rw [hs, List.mem_append, List.mem_singleton, h.row]
    split
    · rename_i e
      simp [e]
    · rename_i e
      simp [e]
  · rw [hs, List.take_add_one, hx]
    unfold Fr
    simp only [Option.toList_some, List.mem_append, List.mem_singleton]
    split
    · rename_i e
      subst e
      simp [hd]
    · rename_i e
      rw [h.done]
      unfold Fr
      simp [e]
theorem Bs.fin {n : Nat} {l : List Int} {i : Nat} {o row : List Int} (h : Bs n l i o row) (hi : l.length ≤ i) (nx : Int → List Int) : Bf n nx (Fr n l) o row := by
  have hd : ∀ v, atI o v = 0 ↔ Fr n l v := fun v => by rw [h.done, List.take_of_length_le hi]
  have hz : ∀ v, 0 ≤ atI o v → atI o v = 0 := fun v hv => by rcases h.two v with e | e <;> omega
  refine ⟨h.len, fun v => by rcases h.two v with e | e <;> omega, fun v hv => (hd v).2 hv, fun v k hk => ?_, fun v hv => by rw [(h.row v).1 hv]; omega, ?_, fun v w hv hw => ?_, fun v w hv hr => ?_⟩
  · have := hz v (by omega)
    rw [show k = 0 by omega]
    exact .zero ((hd v).1 this)
  · rw [List.pairwise_iff_getElem]
    intro i j hi hj _
    rw [(h.row _).1 (List.getElem_mem hi), (h.row _).1 (List.getElem_mem hj)]
    omega
  · rw [hz w hw, (h.row v).1 hv]
    omega
  · exact absurd ((h.row v).2 (hz v hv)) hr
def negs (o : List Int) : Nat := (o.filter fun x => decide (x < 0)).length
theorem negs_set {o : List Int} {k : Nat} {y x : Int} (hk : o[k]? = some y) (hy : y < 0) (hx : 0 ≤ x) : negs (o.set k x) + 1 = negs o := by
  induction o generalizing k with
  | nil => simp at hk
  | cons a o ih =>
    cases k with
    | zero =>
      simp only [List.getElem?_cons_zero, Option.some.injEq] at hk
      subst hk
      simp only [List.set_cons_zero, negs, List.filter_cons]
      rw [if_neg (by simp; omega), if_pos (by simpa using hy)]
      rfl
    | succ k =>
      have := ih (k := k) (by simpa using hk)
      simp only [List.set_cons_succ, negs, List.filter_cons] at this ⊢
      split
      · simp only [List.length_cons]
        omega
      · exact this
theorem negs_same {o : List Int} {k : Nat} {y x : Int} (hk : o[k]? = some y) (hy : 0 ≤ y) (hx : 0 ≤ x) : negs (o.set k x) = negs o := by
  induction o generalizing k with
  | nil => simp at hk
  | cons a o ih =>
    cases k with
    | zero =>
      simp only [List.getElem?_cons_zero, Option.some.injEq] at hk
      subst hk
      simp only [List.set_cons_zero, negs, List.filter_cons]
      rw [if_neg (by simp; omega), if_neg (by simp; omega)]
    | succ k =>
      have := ih (k := k) (by simpa using hk)
      simp only [List.set_cons_succ, negs, List.filter_cons] at this ⊢
      split
      · simp only [List.length_cons]
        omega
      · exact this
end Go.Proofs.Ytojflfogjkajaaa.Rc
end
section
namespace Go.Proofs.Ytojflfogjkajaaa.Rc
theorem least {p : Nat → Prop} : ∀ k, p k → ∃ m, p m ∧ ∀ j, p j → m ≤ j := by
  intro k
  induction k using Nat.strongRecOn with
  | ind k ih =>
    intro hk
    by_cases h : ∃ j, j < k ∧ p j
    · obtain ⟨j, h1, h2⟩ := h
      exact ih j h1 h2
    · exact ⟨k, hk, fun j hj => Nat.le_of_not_lt fun hlt => h ⟨j, hlt, hj⟩⟩
open Classical in
noncomputable def distF (nx : Int → List Int) (F : Int → Prop) (v : Int) : Int := if h : ∃ m, Pth nx F m v ∧ ∀ j, Pth nx F j v → m ≤ j then ((Classical.choose h : Nat) : Int) else -1
noncomputable def stepsF (n : Nat) (nx : Int → List Int) (F : Int → Prop) : List Int := (List.range n).map fun (v : Nat) => distF nx F v
theorem dist_of {nx : Int → List Int} {F : Int → Prop} {v : Int} {k : Nat} (h : Pth nx F k v) : ∃ m : Nat, distF nx F v = m ∧ Pth nx F m v ∧ m ≤ k := by
  have h1 := least (p := fun k => Pth nx F k v) k h
  unfold distF
  rw [dif_pos h1]
  obtain ⟨a, b⟩ := Classical.choose_spec h1
  exact ⟨_, rfl, a, b k h⟩
theorem dist_inv {nx : Int → List Int} {F : Int → Prop} {v : Int} : distF nx F v = -1 ∨ ∃ m : Nat, distF nx F v = m ∧ Pth nx F m v := by
  by_cases h : ∃ m, Pth nx F m v ∧ ∀ j, Pth nx F j v → m ≤ j
  · refine .inr ?_
    obtain ⟨m, h1, _⟩ := h
    obtain ⟨m', a, b, _⟩ := dist_of h1
    exact ⟨m', a, b⟩
  · unfold distF
    rw [dif_neg h]
    exact .inl rfl
theorem at_steps {n : Nat} {nx : Int → List Int} {F : Int → Prop} {v : Int} (h : Dom n v) : atI (stepsF n nx F) v = distF nx F v := by
  unfold atI stepsF
  unfold Dom at h
  rw [if_pos h.1, List.getD_eq_getElem?_getD, List.getElem?_map, List.getElem?_range (show v.toNat < n by omega)]
  simp only [Option.map_some, Option.getD_some]
  rw [Int.toNat_of_nonneg h.1]
theorem steps_table {n : Nat} {nx : Int → List Int} {F : Int → Prop} (hF : ∀ v, F v → Dom n v) (hn : ∀ v w, Dom n v → w ∈ nx v → Dom n w) : Table n nx F (stepsF n nx F) := by
  have hlen : (stepsF n nx F).length = n := by simp [stepsF]
  have hp : ∀ (k : Nat) (v : Int), Pth nx F k v → Dom n v := by
    intro k v h
    induction h with
    | zero h => exact hF _ h
    | succ _ he ih => exact hn _ _ ih he
  refine ⟨hlen, fun v => ?_, fun v hv => ?_, fun v k hk => ?_, fun v w hv he => ?_⟩
  · by_cases hd : Dom n v
    · rw [at_steps hd]
      rcases dist_inv (nx := nx) (F := F) (v := v) with h | ⟨m, h, _⟩ <;> omega
    · rw [atI_out hlen hd]
      omega
  · rw [at_steps (hF v hv)]
    obtain ⟨m, h1, _, h2⟩ := dist_of (Pth.zero (nx := nx) hv)
    omega
  · have hd := dom_of hlen (v := v) (by omega)
    rw [at_steps hd] at hk
    rcases dist_inv (nx := nx) (F := F) (v := v) with h | ⟨m, h, h2⟩
    · omega
    · rw [show k = m by omega]
      exact h2
  · have hd := dom_of hlen hv
    rw [at_steps hd] at hv ⊢
    rw [at_steps (hn v w hd he)]
    rcases dist_inv (nx := nx) (F := F) (v := v) with h | ⟨m, h, h2⟩
    · omega
    · obtain ⟨m', a, _, b⟩ := dist_of (Pth.succ h2 he)
      omega
def ixs (p : Nat → Bool) (n : Nat) : List Int := ((List.range n).filter p).map fun (v : Nat) => (v : Int)
theorem ixs_le (p : Nat → Bool) (n : Nat) : (ixs p n).length ≤ n := by
  unfold ixs
  rw [List.length_map]
  exact Nat.le_trans (List.length_filter_le _ _) (by simp)
theorem mem_ixs {p : Nat → Bool} {n : Nat} {v : Int} : v ∈ ixs p n ↔ Dom n v ∧ p v.toNat = true := by
  unfold ixs Dom
  simp only [List.mem_map, List.mem_filter, List.mem_range]
  constructor
  · rintro ⟨u, ⟨h1, h2⟩, rfl⟩
    exact ⟨by omega, by simpa using h2⟩
  · rintro ⟨h1, h2⟩
    exact ⟨v.toNat, ⟨by omega, h2⟩, by omega⟩
theorem ixs_congr {p q : Nat → Bool} {n : Nat} (h : ∀ i, i < n → p i = q i) : ixs p n = ixs q n := by
  unfold ixs
  congr 1
  apply List.filter_congr
  intro i hi
  exact h i (List.mem_range.1 hi)
def metF (o : List Int) : List Int := ixs (fun i => decide (0 ≤ atI o i)) o.length
def atB (b : List Bool) (v : Int) : Bool := if 0 ≤ v then b.getD v.toNat false else false
def listF (b : List Bool) : List Int := ixs (fun i => atB b i) b.length
def begF (n : Nat) (l : List Int) : List Bool := (List.range n).map fun (v : Nat) => l.contains (v : Int)
theorem atB_get {b : List Bool} {v : Int} (hv : Dom b.length v) : b[v.toNat]? = some (atB b v) := by
  unfold atB
  unfold Dom at hv
  rw [if_pos hv.1, List.getD_eq_getElem?_getD, List.getElem?_eq_getElem (show v.toNat < b.length by omega)]
  rfl
theorem atB_set {b : List Bool} {v : Int} (hv : Dom b.length v) (x : Bool) (u : Int) : atB (b.set v.toNat x) u = if u = v then x else atB b u := by
  unfold atB
  unfold Dom at hv
  by_cases hu : 0 ≤ u
  · rw [if_pos hu, if_pos hu, List.getD_eq_getElem?_getD, List.getD_eq_getElem?_getD, List.getElem?_set]
    by_cases e : u = v
    · subst e
      rw [if_pos rfl, if_pos rfl, if_pos (by omega)]
      rfl
    · rw [if_neg (by omega), if_neg e]
  · rw [if_neg hu, if_neg hu, if_neg (by omega)]
theorem atB_dom {n : Nat} {b : List Bool} (h : b.length = n) {v : Int} (hv : atB b v = true) : Dom n v := by
  unfold atB at hv
  split at hv
  · refine ⟨by assumption, ?_⟩
    apply Classical.byContradiction
    intro hn
    rw [List.getD_eq_getElem?_getD, List.getElem?_eq_none (by omega)] at hv
    cases hv
  · cases hv
theorem at_beg {n : Nat} {l : List Int} {v : Int} : atB (begF n l) v = true ↔ Fr n l v := by
  constructor
  · intro h
    have hd := atB_dom (n := n) (by simp [begF]) h
    have := atB_get (b := begF n l) (v := v) (by simpa [begF] using hd)
    unfold begF at this
    rw [List.getElem?_map, List.getElem?_range (by unfold Dom at hd; omega)] at this
    simp only [Option.map_some, Option.some.injEq] at this
    rw [Int.toNat_of_nonneg hd.1] at this
    unfold begF at h
    rw [← this] at h
    exact ⟨hd, List.contains_iff_mem.1 h⟩
  · rintro ⟨hd, hm⟩
    have := atB_get (b := begF n l) (v := v) (by simpa [begF] using hd)
    unfold begF at this
    rw [List.getElem?_map, List.getElem?_range (by unfold Dom at hd; omega)] at this
    simp only [Option.map_some, Option.some.injEq] at this
    rw [Int.toNat_of_nonneg hd.1] at this
    unfold begF
    rw [← this]
    exact List.contains_iff_mem.2 hm
section
variable {n : Nat} {nx rd : Int → List Int} {F : Int → Prop} {T : List Int}
structure Ra (n : Nat) (rd : Int → List Int) (T : List Int) (k : Nat) (j : Int) (i : Nat) (b : List Bool) : Prop where
  len : b.length = n
  sound : ∀ v, atB b v = true → 0 ≤ atI T v
  old : ∀ v, 0 ≤ atI T v → atI T v ≤ k → atB b v = true
  new : ∀ v, v < j → 0 ≤ atI T v → atI T v ≤ (k : Int) + 1 → atB b v = true
  cur : ∀ u ∈ (rd j).take i, 0 ≤ atI T u → atI T u ≤ k → atB b j = true
theorem Ra.step (hT : Table n nx F T) (hr : ∀ u v, Dom n v → (v ∈ nx u ↔ u ∈ rd v)) {k i : Nat} {j : Int} {b : List Bool} (h : Ra n rd T k j i b) (hj : Dom n j) {u : Int} (hu : (rd j)[i]? = some u) :
    Ra n rd T k j (i + 1) (b.set j.toNat (atB b j || atB b u)) := by
  have hs := atB_set (b := b) (v := j) (by rw [h.len]; exact hj) (atB b j || atB b u)
  have hm : ∀ v, atB b v = true → atB (b.set j.toNat (atB b j || atB b u)) v = true := fun v hv => by
    rw [hs]
    split
    · rename_i e
      subst e
      rw [hv, Bool.true_or]
    · exact hv
  refine ⟨by rw [List.length_set]; exact h.len, fun v hv => ?_, fun v h1 h2 => hm _ (h.old v h1 h2), fun v hj h1 h2 => hm _ (h.new v hj h1 h2), fun w hw h1 h2 => ?_⟩
  · rw [hs] at hv
    split at hv
    · rename_i e
      subst e
      rw [Bool.or_eq_true] at hv
      rcases hv with hv | hv
      · exact h.sound v hv
      · exact (hT.closed u v (h.sound u hv) ((hr u v hj).2 (List.mem_of_getElem? hu))).1
    · exact h.sound v hv
  · rw [List.take_add_one, hu, List.mem_append] at hw
    rcases hw with hw | hw
    · exact hm _ (h.cur w hw h1 h2)
    · simp only [Option.toList_some, List.mem_singleton] at hw
      subst hw
      rw [hs, if_pos rfl, h.old w h1 h2, Bool.or_true]
theorem Ra.next (hT : Table n nx F T) (hr : ∀ u v, Dom n v → (v ∈ nx u ↔ u ∈ rd v)) {k i : Nat} {j : Int} {b : List Bool} (h : Ra n rd T k j i b) (hi : (rd j).length ≤ i) : Ra n rd T k (j + 1) 0 b := by
  refine ⟨h.len, h.sound, h.old, fun v hv h1 h2 => ?_, fun u hu => by simp at hu⟩
  by_cases e : v = j
  · subst e
    by_cases hk : atI T v ≤ k
    · exact h.old v h1 hk
    · obtain ⟨u, h3, h4⟩ := hT.pred (v := v) (k := k) (by omega)
      exact h.cur u (by rw [List.take_of_length_le hi]; exact (hr u v (dom_of hT.len h1)).1 h3) (by omega) (by omega)
  · exact h.new v (by omega) h1 h2
theorem Ra.round {k : Nat} {j : Int} {b : List Bool} (hT : Table n nx F T) (h : Ra n rd T k j 0 b) (hj : (n : Int) ≤ j) : Ra n rd T (k + 1) 0 0 b :=
  ⟨h.len, h.sound, fun v h1 h2 => h.new v (by have := dom_of hT.len h1; unfold Dom at this; omega) h1 (by omega), fun v hv h1 => by have := dom_of hT.len h1; unfold Dom at this; omega, fun u hu => by simp at hu⟩
theorem Ra.begin {l : List Int} (hT : Table n nx (Fr n l) T) : Ra n rd T 0 0 0 (begF n l) := by
  refine ⟨by simp [begF], fun v hv => ?_, fun v h1 h2 => ?_, fun v hv h1 => by have := dom_of hT.len h1; unfold Dom at this; omega, fun u hu => by simp at hu⟩
  · rw [hT.zero v (at_beg.1 hv)]
    omega
  · have h3 := hT.sound v 0 (by omega)
    cases h3 with
    | zero h3 => exact at_beg.2 h3
theorem Ra.fin (hT : Table n nx F T) {k : Nat} {b : List Bool} (h : Ra n rd T k 0 0 b) (hk : n ≤ k) : listF b = metF T := by
  unfold listF metF
  rw [h.len, hT.len]
  apply ixs_congr
  intro i hi
  rw [Bool.eq_iff_iff, decide_eq_true_eq]
  refine ⟨h.sound i, fun h1 => h.old i h1 ?_⟩
  have := hT.lt (v := (i : Int)) (k := (atI T i).toNat) (by omega)
  omega
structure Rn (n : Nat) (nx : Int → List Int) (T : List Int) (k : Nat) (j : Int) (i : Nat) (b : List Bool) : Prop where
  len : b.length = n
  sound : ∀ v, atB b v = true → 0 ≤ atI T v
  old : ∀ v, 0 ≤ atI T v → atI T v ≤ k → atB b v = true
  new : ∀ v w, v < j → 0 ≤ atI T v → atI T v ≤ k → w ∈ nx v → atB b w = true
  cur : ∀ w ∈ (nx j).take i, 0 ≤ atI T j → atI T j ≤ k → atB b w = true
theorem Rn.step (hT : Table n nx F T) {k i : Nat} {j : Int} {b : List Bool} (h : Rn n nx T k j i b) (hb : atB b j = true) {w : Int} (hw : (nx j)[i]? = some w) : Dom n w ∧ Rn n nx T k j (i + 1) (b.set w.toNat true) := by
  have hc := hT.closed j w (h.sound j hb) (List.mem_of_getElem? hw)
  have hd := dom_of hT.len hc.1
  have hs := atB_set (b := b) (v := w) (by rw [h.len]; exact hd) true
  have hm : ∀ v, atB b v = true → atB (b.set w.toNat true) v = true := fun v hv => by
    rw [hs]
    split
    · rfl
    · exact hv
  refine ⟨hd, by rw [List.length_set]; exact h.len, fun v hv => ?_, fun v h1 h2 => hm _ (h.old v h1 h2), fun v x h0 h1 h2 h3 => hm _ (h.new v x h0 h1 h2 h3), fun x hx h1 h2 => ?_⟩
  · rw [hs] at hv
    split at hv
    · rename_i e
      rw [e]
      exact hc.1
    · exact h.sound v hv
  · rw [List.take_add_one, hw, List.mem_append] at hx
    rcases hx with hx | hx
    · exact hm _ (h.cur x hx h1 h2)
    · simp only [Option.toList_some, List.mem_singleton] at hx
      rw [hs, if_pos hx]
theorem Rn.next {k i : Nat} {j : Int} {b : List Bool} (h : Rn n nx T k j i b) (hi : (nx j).length ≤ i ∨ atB b j = false) : Rn n nx T k (j + 1) 0 b := by
  refine ⟨h.len, h.sound, h.old, fun v w h0 h1 h2 h3 => ?_, fun u hu => by simp at hu⟩
  by_cases e : v = j
  · subst e
    rcases hi with hi | hi
    · exact h.cur w (by rw [List.take_of_length_le hi]; exact h3) h1 h2
    · rw [h.old v h1 h2] at hi
      cases hi
  · exact h.new v w (by omega) h1 h2 h3
theorem Rn.round (hT : Table n nx F T) {k : Nat} {j : Int} {b : List Bool} (h : Rn n nx T k j 0 b) (hj : (n : Int) ≤ j) : Rn n nx T (k + 1) 0 0 b := by
  refine ⟨h.len, h.sound, fun v h1 h2 => ?_, fun v w h0 h1 => by have := dom_of hT.len h1; unfold Dom at this; omega, fun u hu => by simp at hu⟩
  by_cases hk : atI T v ≤ k
  · exact h.old v h1 hk
  · obtain ⟨u, h3, h4⟩ := hT.pred (v := v) (k := k) (by omega)
    exact h.new u v (by have := dom_of hT.len (v := u) (by omega); unfold Dom at this; omega) (by omega) (by omega) h3
theorem Rn.begin {l : List Int} (hT : Table n nx (Fr n l) T) : Rn n nx T 0 0 0 (begF n l) := by
  have h := Ra.begin (rd := nx) hT
  exact ⟨h.len, h.sound, h.old, fun v w h0 h1 => by have := dom_of hT.len h1; unfold Dom at this; omega, fun u hu => by simp at hu⟩
theorem Rn.fin (hT : Table n nx F T) {k : Nat} {b : List Bool} (h : Rn n nx T k 0 0 b) (hk : n ≤ k) : listF b = metF T := by
  refine Ra.fin (rd := fun _ => []) hT (k := k) ⟨h.len, h.sound, h.old, fun v h0 h1 => by have := dom_of hT.len h1; unfold Dom at this; omega, fun u hu => by simp at hu⟩ hk
structure Rs (n : Nat) (rd : Int → List Int) (T : List Int) (k : Nat) (j : Int) (i : Nat) (o : List Int) : Prop where
  len : o.length = n
  low : ∀ v, -1 ≤ atI o v
  sound : ∀ v, 0 ≤ atI o v → 0 ≤ atI T v ∧ atI T v ≤ atI o v
  old : ∀ v, 0 ≤ atI T v → atI T v ≤ k → atI o v = atI T v
  new : ∀ v, v < j → 0 ≤ atI T v → atI T v ≤ (k : Int) + 1 → atI o v = atI T v
  cur : ∀ u ∈ (rd j).take i, 0 ≤ atI T u → atI T u ≤ k → 0 ≤ atI o j ∧ atI o j ≤ atI T u + 1
  top : ∀ v, atI o v + negs o ≤ n
theorem Rs.skip {k i : Nat} {j : Int} {o : List Int} (h : Rs n rd T k j i o) {u : Int} (hu : (rd j)[i]? = some u) (hs : atI o u < 0 ∨ (0 ≤ atI o j ∧ atI o j ≤ atI o u + 1)) : Rs n rd T k j (i + 1) o := by
  refine ⟨h.len, h.low, h.sound, h.old, h.new, fun w hw h1 h2 => ?_, h.top⟩
  rw [List.take_add_one, hu, List.mem_append] at hw
  rcases hw with hw | hw
  · exact h.cur w hw h1 h2
  · simp only [Option.toList_some, List.mem_singleton] at hw
    subst hw
    have := h.old w h1 h2
    omega
theorem Rs.step (hT : Table n nx F T) (hr : ∀ u v, Dom n v → (v ∈ nx u ↔ u ∈ rd v)) {k i : Nat} {j : Int} {o : List Int} (h : Rs n rd T k j i o) (hj : Dom n j) {u : Int} (hu : (rd j)[i]? = some u) (h0 : 0 ≤ atI o u) (hs : atI o j < 0 ∨ atI o u + 1 < atI o j) :
    Rs n rd T k j (i + 1) (o.set j.toNat (atI o u + 1)) := by
  have hset := atI_set (o := o) (v := j) (by rw [h.len]; exact hj) (atI o u + 1)
  have hsu := h.sound u h0
  have hc := hT.closed u j hsu.1 ((hr u j hj).2 (List.mem_of_getElem? hu))
  have hj' : ¬ (atI o j = atI T j) := fun e => by omega
  refine ⟨by rw [List.length_set]; exact h.len, fun v => ?_, fun v hv => ?_, fun v h1 h2 => ?_, fun v hvj h1 h2 => ?_, fun w hw h1 h2 => ?_, fun v => ?_⟩
  · rw [hset]
    split
    · omega
    · exact h.low v
  · rw [hset] at hv ⊢
    split
    · rename_i e
      subst e
      omega
    · rename_i e
      rw [if_neg e] at hv
      exact h.sound v hv
  · rw [hset, if_neg]
    · exact h.old v h1 h2
    · intro e
      subst e
      exact hj' (h.old v h1 h2)
  · rw [hset, if_neg (by omega)]
    exact h.new v hvj h1 h2
  · rw [hset, if_pos rfl]
    rw [List.take_add_one, hu, List.mem_append] at hw
    rcases hw with hw | hw
    · have := h.cur w hw h1 h2
      omega
    · simp only [Option.toList_some, List.mem_singleton] at hw
      subst hw
      have := h.old w h1 h2
      omega
  · have hg := atI_get (o := o) (v := j) (by rw [h.len]; exact hj)
    have ht := h.top u
    have htv := h.top v
    rw [hset]
    by_cases hn : atI o j < 0
    · have := negs_set (x := atI o u + 1) hg hn (by omega)
      split <;> omega
    · have := negs_same (x := atI o u + 1) hg (by omega) (by omega)
      have htj := h.top j
      split <;> omega
theorem Rs.next (hT : Table n nx F T) (hr : ∀ u v, Dom n v → (v ∈ nx u ↔ u ∈ rd v)) {k i : Nat} {j : Int} {o : List Int} (h : Rs n rd T k j i o) (hi : (rd j).length ≤ i) : Rs n rd T k (j + 1) 0 o := by
  refine ⟨h.len, h.low, h.sound, h.old, fun v hv h1 h2 => ?_, fun u hu => by simp at hu, h.top⟩
  by_cases e : v = j
  · subst e
    by_cases hk : atI T v ≤ k
    · exact h.old v h1 hk
    · obtain ⟨u, h3, h4⟩ := hT.pred (v := v) (k := k) (by omega)
      have h5 := h.cur u (by rw [List.take_of_length_le hi]; exact (hr u v (dom_of hT.len h1)).1 h3) (by omega) (by omega)
      have h6 := h.sound v h5.1
      omega
  · exact h.new v (by omega) h1 h2
theorem Rs.round (hT : Table n nx F T) {k : Nat} {j : Int} {o : List Int} (h : Rs n rd T k j 0 o) (hj : (n : Int) ≤ j) : Rs n rd T (k + 1) 0 0 o :=
  ⟨h.len, h.low, h.sound, fun v h1 h2 => h.new v (by have := dom_of hT.len h1; unfold Dom at this; omega) h1 (by omega), fun v hv h1 => by have := dom_of hT.len h1; unfold Dom at this; omega, fun u hu => by simp at hu, h.top⟩
theorem Rs.fin (hT : Table n nx F T) {k : Nat} {o : List Int} (h : Rs n rd T k 0 0 o) (hk : n ≤ k) : o = T := by
  refine ext_at (h.len.trans hT.len.symm) fun v _ => ?_
  by_cases h1 : 0 ≤ atI T v
  · have := hT.lt (v := v) (k := (atI T v).toNat) (by omega)
    exact h.old v h1 (by omega)
  · have h2 := h.low v
    have h3 := hT.low v
    by_cases h4 : 0 ≤ atI o v
    · have := h.sound v h4
      omega
    · omega
end
def beg0 (n : Nat) (l : List Int) : List Int := (List.range n).map fun (v : Nat) => if l.contains (v : Int) = true then 0 else -1
theorem at_beg0 {n : Nat} {l : List Int} {v : Int} (hd : Dom n v) : atI (beg0 n l) v = if l.contains v = true then 0 else -1 := by
  have := atI_get (o := beg0 n l) (v := v) (by simpa [beg0] using hd)
  unfold beg0 at this ⊢
  rw [List.getElem?_map, List.getElem?_range (by unfold Dom at hd; omega)] at this
  simp only [Option.map_some, Option.some.injEq] at this
  rw [Int.toNat_of_nonneg hd.1] at this
  exact this.symm
theorem Rs.begin {n : Nat} {nx rd : Int → List Int} {T : List Int} {l : List Int} (hT : Table n nx (Fr n l) T) : Rs n rd T 0 0 0 (beg0 n l) := by
  have hlen : (beg0 n l).length = n := by simp [beg0]
  have hz : ∀ v, 0 ≤ atI (beg0 n l) v → atI (beg0 n l) v = 0 ∧ Fr n l v := fun v hv => by
    have hd := dom_of hlen hv
    rw [at_beg0 hd] at hv ⊢
    split
    · rename_i h
      exact ⟨rfl, hd, List.contains_iff_mem.1 h⟩
    · rename_i h
      rw [if_neg h] at hv
      omega
  refine ⟨hlen, fun v => ?_, fun v hv => ?_, fun v h1 h2 => ?_, fun v hv h1 => by have := dom_of hT.len h1; unfold Dom at this; omega, fun u hu => by simp at hu, fun v => ?_⟩
  · by_cases hd : Dom n v
    · rw [at_beg0 hd]
      split <;> omega
    · rw [atI_out hlen hd]
      omega
  · obtain ⟨a, b⟩ := hz v hv
    rw [hT.zero v b]
    omega
  · have h3 := hT.sound v 0 (by omega)
    cases h3 with
    | zero h3 =>
      rw [at_beg0 h3.1, if_pos (List.contains_iff_mem.2 h3.2)]
      omega
  · have hn : negs (beg0 n l) ≤ n := by
      have := List.length_filter_le (fun x => decide (x < 0)) (beg0 n l)
      rw [hlen] at this
      exact this
    by_cases h1 : 0 ≤ atI (beg0 n l) v
    · rw [(hz v h1).1]
      omega
    · omega
end Go.Proofs.Ytojflfogjkajaaa.Rc
end
section
def Go.Vm.St.ints (st : Go.Vm.St) (i : Nat) : List Int := match st.σ.get i with
  | some (.arr _ (.int .i64) l) => l
  | _ => []
namespace Go.Proofs.Ytojflfogjkajaaa.Rc
open Go.Vm Go.Proofs.Ytojflfogjkajaaa.Gr
set_option maxRecDepth 20000
end Go.Proofs.Ytojflfogjkajaaa.Rc
end
section
namespace Go.Proofs.Ytojflfogjkajaaa.Rc
open Go.Vm Go.Proofs.Ytojflfogjkajaaa.Gr
theorem rds_dom {R : GI} (h : GOk R) (v w : Int) (_ : Dom R.length v) (hw : w ∈ rdsF R v) : Dom R.length w := by
  unfold rdsF at hw
  split at hw
  · rename_i hv
    obtain ⟨u, h1, h2, _⟩ := mem_readers.1 hw
    exact ⟨by omega, by omega⟩
  · cases hw
theorem reads_dom {R : GI} (h : GOk R) (v w : Int) (_ : Dom R.length v) (hw : w ∈ readsF R v) : Dom R.length w := by
  unfold readsF at hw
  split at hw
  · rename_i hv
    have := (h.2 v.toNat _ (reads_at hv)).2 w (by rw [readsF, if_pos hv]; exact hw)
    exact ⟨this.1, this.2.1⟩
  · cases hw
theorem fr_dom {n : Nat} {l : List Int} : ∀ v, Fr n l v → Dom n v := fun _ h => h.1
theorem rds_iff {R : GI} (h : GOk R) (u v : Int) (hv : Dom R.length v) : v ∈ rdsF R u ↔ u ∈ readsF R v := by
  have hv2 : 0 ≤ v ∧ v < R.length := hv
  constructor
  · intro hm
    have hu : 0 ≤ u ∧ u < R.length := by
      unfold rdsF at hm
      split at hm
      · assumption
      · cases hm
    have := has_both hv2 hu
    rw [List.contains_iff_mem.2 hm] at this
    exact List.contains_iff_mem.1 this
  · intro hm
    have hu := reads_dom h v u hv hm
    have := has_both hv2 hu
    rw [List.contains_iff_mem.2 hm] at this
    exact List.contains_iff_mem.1 this.symm
set_option maxRecDepth 20000
end Go.Proofs.Ytojflfogjkajaaa.Rc
end
section
namespace Go.Proofs.Ytojflfogjkajaaa.Rc
open Go.Vm Go.Proofs.Ytojflfogjkajaaa.Gr
set_option maxRecDepth 20000
end Go.Proofs.Ytojflfogjkajaaa.Rc
end
section
namespace Go.Proofs.Ytojflfogjkajaaa.Rc
open Go.Vm Go.Proofs.Ytojflfogjkajaaa.Gr
set_option maxRecDepth 20000
end Go.Proofs.Ytojflfogjkajaaa.Rc
end
section
namespace Go.Proofs.Ytojflfogjkajaaa.Rc
open Go.Vm Go.Proofs.Ytojflfogjkajaaa.Gr
set_option maxRecDepth 20000
end Go.Proofs.Ytojflfogjkajaaa.Rc
end
section
namespace Go.Proofs.Ytojflfogjkajaaa.Rc
open Go.Vm Go.Proofs.Ytojflfogjkajaaa.Gr
theorem reads_rds {R : GI} (h : GOk R) (u v : Int) (hm : v ∈ readsF R u) : u ∈ rdsF R v := by
  have hu : Dom R.length u := by
    unfold readsF at hm
    split at hm
    · assumption
    · cases hm
  exact (rds_iff h v u hu).2 hm
theorem rds_reads {R : GI} (h : GOk R) (u v : Int) (hm : v ∈ rdsF R u) : u ∈ readsF R v := by
  have hu : Dom R.length u := by
    unfold rdsF at hm
    split at hm
    · assumption
    · cases hm
  exact (rds_iff h u v (rds_dom h u v hu hm)).1 hm
theorem tabS {R : GI} (h : GOk R) (l : List Int) : Table R.length (rdsF R) (Fr R.length l) (stepsF R.length (rdsF R) (Fr R.length l)) := steps_table fr_dom (rds_dom h)
def Bst (T : List Int) (l : List Int) (b : Int) : Prop := (b = -1 ∧ ∀ w ∈ l, atI T w < 0) ∨ (0 ≤ b ∧ (∃ w ∈ l, atI T w = b) ∧ ∀ w ∈ l, 0 ≤ atI T w → b ≤ atI T w)
theorem Bst.nil (T : List Int) : Bst T [] (-1) := .inl ⟨rfl, fun w hw => by simp at hw⟩
theorem Bst.snoc {T l : List Int} {b x : Int} (h : Bst T l b) (hx : ¬ (0 ≤ atI T x ∧ (b < 0 ∨ atI T x < b))) : Bst T (l ++ [x]) b := by
  rcases h with ⟨h1, h2⟩ | ⟨h1, ⟨w, h2, h3⟩, h4⟩
  · refine .inl ⟨h1, fun w hw => ?_⟩
    rcases List.mem_append.1 hw with hw | hw
    · exact h2 w hw
    · rw [List.mem_singleton.1 hw]
      omega
  · refine .inr ⟨h1, ⟨w, List.mem_append_left _ h2, h3⟩, fun u hu h0 => ?_⟩
    rcases List.mem_append.1 hu with hu | hu
    · exact h4 u hu h0
    · rw [List.mem_singleton.1 hu] at h0 ⊢
      omega
theorem Bst.put {T l : List Int} {b x : Int} (h : Bst T l b) (hx : 0 ≤ atI T x ∧ (b < 0 ∨ atI T x < b)) : Bst T (l ++ [x]) (atI T x) := by
  refine .inr ⟨hx.1, ⟨x, by simp, rfl⟩, fun u hu h0 => ?_⟩
  rcases List.mem_append.1 hu with hu | hu
  · rcases h with ⟨h1, h2⟩ | ⟨h1, _, h4⟩
    · have := h2 u hu
      omega
    · have := h4 u hu h0
      omega
  · rw [List.mem_singleton.1 hu]
    omega
theorem Bst.low {T l : List Int} {b : Int} (h : Bst T l b) : -1 ≤ b := by
  rcases h with ⟨h1, _⟩ | ⟨h1, _⟩ <;> omega
theorem Bst.fin {R : GI} (hG : GOk R) {fr : List Int} {v b : Int} (hv : Dom R.length v) (h : Bst (stepsF R.length (rdsF R) (Fr R.length fr)) (readsF R v) b) :
    (0 < atI (stepsF R.length (rdsF R) (Fr R.length fr)) v → atI (stepsF R.length (rdsF R) (Fr R.length fr)) v = b + 1) ∧ (atI (stepsF R.length (rdsF R) (Fr R.length fr)) v < 0 → b < 0) := by
  have hT := tabS hG fr
  generalize stepsF R.length (rdsF R) (Fr R.length fr) = T at hT h ⊢
  constructor
  · intro hp
    obtain ⟨u, h1, h2⟩ := hT.pred (v := v) (k := (atI T v).toNat - 1) (by omega)
    have hu := rds_reads hG u v h1
    rcases h with ⟨h3, h4⟩ | ⟨h3, ⟨w, h4, h5⟩, h6⟩
    · have := h4 u hu
      omega
    · have a := h6 u hu (by omega)
      have c := hT.closed w v (by omega) (reads_rds hG v w h4)
      omega
  · intro hn
    rcases h with ⟨h3, h4⟩ | ⟨h3, ⟨w, h4, h5⟩, h6⟩
    · omega
    · have c := hT.closed w v (by omega) (reads_rds hG v w h4)
      omega
theorem acts_len : ∀ (l : List Ac) (R : GI), (actsR R l).length = R.length
  | [], _ => rfl
  | x :: r, R => by rw [actsR, acts_len r, setG_len]
theorem made_len {m : Int} {l : List Ac} (h : ¬ (actsR (newR m) l).length = 0) : ((actsR (newR m) l).length : Int) = m := by
  rw [acts_len, newR_len] at h ⊢
  split at h
  · rename_i hm
    rw [if_pos hm]
    omega
  · exact absurd rfl h
set_option maxRecDepth 20000
end Go.Proofs.Ytojflfogjkajaaa.Rc
end
