/-
  StakeFree: the walk and the plain law.
-/
import Derived.Test.YtoiofigknkpieaaStake13
namespace Go.Proofs.Ytoiofigknkpieaa
open Go.Vm

/-! Going up, again and again -/
def up (l : List Stk) (p : Int) : Nat → Int → Int
  | 0, a => a
  | k + 1, a => up l p k (par l p a)
theorem up_add (l : List Stk) (p : Int) : ∀ (j k : Nat) (a : Int), up l p (j + k) a = up l p k (up l p j a)
  | 0, k, a => by rw [Nat.zero_add]; rfl
  | j + 1, k, a => by rw [show j + 1 + k = (j + k) + 1 by omega]; exact up_add l p j k _
theorem up_succ (l : List Stk) (p : Int) (k : Nat) (a : Int) : up l p (k + 1) a = par l p (up l p k a) := by rw [up_add]; rfl

/-- A stake as it may be. -/
def fits (n : Int) (s : Stk) : Prop := 1 ≤ s.1 ∧ s.1 ≤ n ∧ 0 ≤ s.2.1 ∧ s.2.1 ≤ n ∧ 0 ≤ s.2.2.1 ∧ s.2.2.1 ≤ 10000 ∧ 0 ≤ s.2.2.2 ∧ s.2.2.2 < 24
theorem lastF_zero {l : List Stk} {n : Int} (h : lastF l n = 0) : fits n (lastS l) ∧ circ l (lastS l).1 = false := by
  unfold lastF at h
  repeat' (split at h)
  all_goals first
    | (exfalso; omega)
    | (refine ⟨⟨by omega, by omega, by omega, by omega, by omega, by omega, by omega, by omega⟩, ?_⟩
       cases hc : circ l (lastS l).1 with
       | false => rfl
       | true => rename_i h9; exact absurd hc h9)
theorem best_of {l : List Stk} {e p : Int} {q : Stk} (h : best l e p = some q) : q ∈ l ∧ q.1 = e ∧ q.2.2.2 ≤ p :=
  ⟨best_mem h, best_prop l none q (fun s hs => by cases hs) h⟩
theorem par_none {l : List Stk} {p a : Int} (h : ∀ s ∈ l, ¬ (s.1 = a ∧ s.2.2.2 ≤ p)) : par l p a = 0 := by
  unfold par atF
  cases hb : best l a p with
  | none => rfl
  | some q => obtain ⟨h1, h2, h3⟩ := best_of hb; exact absurd ⟨h2, h3⟩ (h q h1)
theorem par_zero {l : List Stk} {n p : Int} (h : ∀ s ∈ l, fits n s) : par l p 0 = 0 :=
  par_none fun s hs hh => by have := (h s hs).1; omega
theorem up_zero {l : List Stk} {n p : Int} (h : ∀ s ∈ l, fits n s) : ∀ k, up l p k 0 = 0
  | 0 => rfl
  | k + 1 => by show up l p k (par l p 0) = 0; rw [par_zero h]; exact up_zero h k

/-- All that is above is closed. -/
theorem above_closed {l : List Stk} {p : Int} : ∀ (m : Nat) (acc : List Int) (a : Int), acc.Nodup → (∀ x ∈ acc, x ∈ l.map (·.2.1)) → (a ≠ 0 → a ∈ l.map (·.2.1)) → (∀ x ∈ acc, par l p x ∈ acc ∨ par l p x = a) → m + acc.length = l.length + 1 →
    (∀ x ∈ aboveGo l p m acc a, par l p x ∈ aboveGo l p m acc a ∨ par l p x = 0) ∧ (a ∈ aboveGo l p m acc a ∨ a = 0)
  | 0, acc, a, h1, h2, _, _, h5 => by
    have := nodup_sub h1 h2
    simp only [List.length_map] at this
    omega
  | m + 1, acc, a, h1, h2, h3, h4, h5 => by
    unfold aboveGo
    split
    · rename_i hc
      have hn : (acc ++ [a]).Nodup := List.nodup_append.2 ⟨h1, by simp, fun x hx y hy => by
        simp only [List.mem_singleton] at hy
        subst hy
        intro e
        exact hc.2 (e ▸ hx)⟩
      have hs : ∀ x ∈ acc ++ [a], x ∈ l.map (·.2.1) := fun x hx => by
        rcases List.mem_append.1 hx with hx | hx
        · exact h2 x hx
        · simp only [List.mem_singleton] at hx; subst hx; exact h3 hc.1
      obtain ⟨k1, k2⟩ := above_closed m (acc ++ [a]) (par l p a) hn hs par_mem (fun x hx => by
        rcases List.mem_append.1 hx with hx | hx
        · rcases h4 x hx with h | h
          · exact .inl (List.mem_append_left _ h)
          · exact .inl (by rw [h]; simp)
        · simp only [List.mem_singleton] at hx; subst hx; exact .inr rfl) (by simp; omega)
      exact ⟨k1, .inl (aboveGo_mono l p m _ _ _ (by simp))⟩
    · rename_i hc
      have hc2 : a = 0 ∨ a ∈ acc := by
        by_cases h0 : a = 0
        · exact .inl h0
        · exact .inr (Classical.byContradiction fun hn => hc ⟨h0, hn⟩)
      refine ⟨fun x hx => ?_, hc2.symm⟩
      rcases h4 x hx with h | h
      · exact .inl h
      · rcases hc2 with h0 | h0
        · exact .inr (h.trans h0)
        · exact .inl (by rw [h]; exact h0)
theorem aboveF_closed (l : List Stk) (e p : Int) : (∀ x ∈ aboveF l e p, par l p x ∈ aboveF l e p ∨ par l p x = 0) ∧ (par l p e ∈ aboveF l e p ∨ par l p e = 0) :=
  above_closed (l.length + 1) [] (par l p e) List.nodup_nil (fun x hx => by simp at hx) par_mem (fun x hx => by simp at hx) (by simp)
theorem up_above (l : List Stk) (e p : Int) : ∀ k : Nat, (∀ j, j ≤ k → up l p (j + 1) e ≠ 0) → up l p (k + 1) e ∈ aboveF l e p
  | 0, h => by
    rcases (aboveF_closed l e p).2 with h1 | h1
    · exact h1
    · exact absurd h1 (h 0 (Nat.le_refl _))
  | k + 1, h => by
    have ih := up_above l e p k (fun j hj => h j (by omega))
    rcases (aboveF_closed l e p).1 _ ih with h1 | h1
    · rw [up_succ l p (k + 1)]; exact h1
    · exact absurd (by rw [up_succ l p (k + 1)]; exact h1) (h (k + 1) (Nat.le_refl _))

/-- Everything comes to its end. -/
def Ends (l : List Stk) (p : Int) : Prop := ∀ a, ∃ m, up l p m a = 0
theorem par_app {l : List Stk} {s : Stk} {p a : Int} (h : a ≠ s.1) : par (l ++ [s]) p a = par l p a := by
  unfold par atF best
  rw [List.foldl_append]
  have : ∀ b, List.foldl (take a p) b [s] = b := fun b => by simp [take, Ne.symm h]
  rw [this]
theorem up_same {l : List Stk} {s : Stk} {p : Int} : ∀ (m : Nat) (a : Int), (∀ j, j < m → up l p j a ≠ s.1) → up (l ++ [s]) p m a = up l p m a
  | 0, _, _ => rfl
  | m + 1, a, h => by
    show up (l ++ [s]) p m (par (l ++ [s]) p a) = up l p m (par l p a)
    rw [par_app (l := l) (s := s) (p := p) (a := a) (h 0 (by omega))]
    exact up_same m _ (fun j hj => h (j + 1) (by omega))
theorem first_hit {Q : Nat → Prop} : ∀ m, (∃ j, j < m ∧ Q j) → ∃ j, j < m ∧ Q j ∧ ∀ i, i < j → ¬ Q i
  | 0, ⟨j, h, _⟩ => by omega
  | m + 1, ⟨j, h1, h2⟩ => by
    by_cases hm : ∃ j, j < m ∧ Q j
    · obtain ⟨i, k1, k2, k3⟩ := first_hit m hm
      exact ⟨i, by omega, k2, k3⟩
    · refine ⟨j, h1, h2, fun i hi hq => hm ⟨i, by omega, hq⟩⟩
theorem ends_step {l : List Stk} {s : Stk} {n p : Int} (hf : ∀ t ∈ l ++ [s], fits n t) (hE : Ends l p) (hr : roundF (l ++ [s]) s.1 p = false) : Ends (l ++ [s]) p := by
  have hs := hf s (by simp)
  have hfl : ∀ t ∈ l, fits n t := fun t ht => hf t (List.mem_append_left _ ht)
  -- the entity itself
  have he : ∃ m, up (l ++ [s]) p m s.1 = 0 := by
    obtain ⟨m, hm⟩ := hE (par (l ++ [s]) p s.1)
    by_cases hh : ∃ j, j < m ∧ up l p j (par (l ++ [s]) p s.1) = s.1
    · obtain ⟨j, h1, h2, h3⟩ := first_hit m hh
      exfalso
      have hj : up (l ++ [s]) p (j + 1) s.1 = s.1 := by
        show up (l ++ [s]) p j (par (l ++ [s]) p s.1) = s.1
        rw [up_same j _ h3]; exact h2
      have hne : s.1 ≠ 0 := by have := hs.1; omega
      have nz : ∀ i, i ≤ j → up (l ++ [s]) p (i + 1) s.1 ≠ 0 := by
        intro i hi h0
        have : up (l ++ [s]) p (j + 1) s.1 = 0 := by
          rw [show j + 1 = (i + 1) + (j - i) by omega, up_add, h0]
          exact up_zero hf _
        rw [hj] at this
        exact hne this
      have hm := up_above (l ++ [s]) s.1 p j nz
      rw [hj] at hm
      have := circle_eq (l ++ [s]) s.1 p hne
      rw [hr] at this
      have h9 := List.contains_iff_mem.2 hm
      rw [this] at h9
      cases h9
    · refine ⟨m + 1, ?_⟩
      show up (l ++ [s]) p m (par (l ++ [s]) p s.1) = 0
      rw [up_same m _ (fun j hj e => hh ⟨j, hj, e⟩)]
      exact hm
  intro a
  obtain ⟨m, hm⟩ := hE a
  by_cases hh : ∃ j, j < m ∧ up l p j a = s.1
  · obtain ⟨j, h1, h2, h3⟩ := first_hit m hh
    obtain ⟨k, hk⟩ := he
    refine ⟨j + k, ?_⟩
    rw [up_add, up_same j a h3, h2]
    exact hk
  · exact ⟨m, by rw [up_same m a (fun j hj e => hh ⟨j, hj, e⟩)]; exact hm⟩
theorem checkF_ok {l : List Stk} {n : Int} (h : (checkF l n).2 = 0) : ∀ i, i < l.length → lastF (l.take (i + 1)) n = 0 := by
  unfold checkF at h
  split at h
  · simp at h
  · split at h
    · rename_i i hi
      have := List.find?_some hi
      simp only [badAt, bne_iff_ne, ne_eq] at this
      exact absurd h this
    · rename_i hi
      intro j hj
      have := List.find?_eq_none.1 hi j (List.mem_range.2 hj)
      simpa [badAt] using this
theorem up_congr {l : List Stk} {p q : Int} (h : ∀ a, par l p a = par l q a) : ∀ m a, up l p m a = up l q m a
  | 0, _ => rfl
  | m + 1, a => by
    show up l p m (par l p a) = up l q m (par l q a)
    rw [h]; exact up_congr h m _
theorem ends_any {l : List Stk} {n : Int} (hf : ∀ t ∈ l, fits n t) (h : ∀ p : Int, 0 ≤ p → p < 24 → Ends l p) (p : Int) : Ends l p := by
  rcases Int.lt_or_le p 0 with hp | hp
  · intro a
    exact ⟨1, par_none fun s hs hh => by have := (hf s hs).2.2.2.2.2.2.1; omega⟩
  · rcases Int.lt_or_le p 24 with hq | hq
    · exact h p hp hq
    · intro a
      obtain ⟨m, hm⟩ := h 23 (by omega) (by omega) a
      refine ⟨m, ?_⟩
      rw [up_congr (q := 23) (fun b => ?_)]
      · exact hm
      · unfold par atF best
        rw [best_const (p := 23) (q := p) (e := b) l none (fun s hs _ hh => by have := (hf s hs).2.2.2.2.2.2.2; omega) (by omega)]
theorem ends_all {l : List Stk} {n : Int} (h : (checkF l n).2 = 0) : (∀ t ∈ l, fits n t) ∧ ∀ p, Ends l p := by
  have hz := checkF_ok h
  have key : ∀ k, k ≤ l.length → (∀ t ∈ l.take k, fits n t) ∧ ∀ p, Ends (l.take k) p := by
    intro k
    induction k with
    | zero =>
      intro _
      refine ⟨fun t ht => by simp at ht, fun p a => ⟨1, ?_⟩⟩
      exact par_none fun s hs => by simp at hs
    | succ k ih =>
      intro hk
      obtain ⟨h1, h2⟩ := ih (by omega)
      have e : l.take (k + 1) = l.take k ++ [l[k]] := by rw [List.take_add_one, List.getElem?_eq_getElem (by omega)]; rfl
      have h3 := hz k (by omega)
      rw [e] at h3
      obtain ⟨h4, h5⟩ := lastF_zero h3
      rw [lastS_app] at h4 h5
      have hf : ∀ t ∈ l.take k ++ [l[k]], fits n t := fun t ht => by
        rcases List.mem_append.1 ht with ht | ht
        · exact h1 t ht
        · simp only [List.mem_singleton] at ht; subst ht; exact h4
      rw [e]
      refine ⟨hf, ends_any hf fun p hp hq => ends_step hf (h2 p) ?_⟩
      have := List.any_eq_false.1 h5 p.toNat (List.mem_range.2 (by omega))
      rw [show ((p.toNat : Nat) : Int) = p by omega] at this
      simpa using this
  have := key l.length (Nat.le_refl _)
  rwa [List.take_length] at this
theorem no_cycle {l : List Stk} {n p a : Int} (hf : ∀ t ∈ l, fits n t) (hE : Ends l p) (ha : a ≠ 0) (j : Nat) : up l p (j + 1) a ≠ a := by
  intro hc
  have hk : ∀ k, up l p (k * (j + 1)) a = a := by
    intro k
    induction k with
    | zero => rw [Nat.zero_mul]; rfl
    | succ k ih => rw [Nat.succ_mul, up_add, ih, hc]
  obtain ⟨m, hm⟩ := hE a
  have h1 := hk m
  rw [show m * (j + 1) = m + m * j by rw [Nat.mul_succ, Nat.add_comm], up_add, hm, up_zero hf] at h1
  exact ha h1.symm
theorem at_fits {l : List Stk} {n p a : Int} (hf : ∀ t ∈ l, fits n t) : ((atF l a p).1 = 0 ∨ (1 ≤ (atF l a p).1 ∧ (atF l a p).1 ≤ n)) ∧ 0 ≤ (atF l a p).2 ∧ (atF l a p).2 ≤ 10000 := by
  unfold atF
  cases hb : best l a p with
  | none => simp
  | some q =>
    obtain ⟨_, _, h3, h4, h5, h6, _, _⟩ := hf q (best_of hb).1
    exact ⟨by simp only; omega, h5, h6⟩

/-! The walk -/
def InvO (n i : Int) : Prop := 1 ≤ i ∧ (i ≤ n + 1 ∨ i = 1)
def InvI (l : List Stk) (n p i a sh st : Int) : Prop :=
  0 ≤ st ∧ (∃ V : List Int, V.Nodup ∧ (∀ v ∈ V, 1 ≤ v ∧ v ≤ n ∧ ∃ j, up l p (j + 1) v = a) ∧ V.length = st.toNat) ∧ (∃ j, up l p (j + 1) i = a) ∧ (a = 0 ∨ (1 ≤ a ∧ a ≤ n)) ∧ 0 ≤ sh ∧ sh ≤ 10000
theorem invI_st {l : List Stk} {n p i a sh st : Int} (h : InvI l n p i a sh st) : 0 ≤ st ∧ st ≤ n.toNat := by
  obtain ⟨h1, ⟨V, h2, h3, h4⟩, _⟩ := h
  have := nodup_sub h2 (b := (List.range n.toNat).map (fun k : Nat => (k : Int) + 1)) (fun x hx => by
    obtain ⟨k1, k2, _⟩ := h3 x hx
    exact List.mem_map.2 ⟨(x - 1).toNat, List.mem_range.2 (by omega), by omega⟩)
  simp only [List.length_map, List.length_range] at this
  omega
theorem invI_0 {l : List Stk} {n p i : Int} (hf : ∀ t ∈ l, fits n t) : InvI l n p i (atF l i p).1 (atF l i p).2 0 := by
  obtain ⟨h1, h2, h3⟩ := at_fits (p := p) (a := i) hf
  exact ⟨by omega, ⟨[], List.nodup_nil, fun v hv => by simp at hv, rfl⟩, ⟨0, rfl⟩, h1, h2, h3⟩
theorem invI_s {l : List Stk} {n p i a sh st : Int} (hf : ∀ t ∈ l, fits n t) (hE : Ends l p) (h : InvI l n p i a sh st) (ha : a ≠ 0) : InvI l n p i (atF l a p).1 (atF l a p).2 (st + 1) := by
  obtain ⟨h1, ⟨V, h2, h3, h4⟩, ⟨j, h5⟩, h6, _, _⟩ := h
  obtain ⟨k1, k2, k3⟩ := at_fits (p := p) (a := a) hf
  have hstep : ∀ v, (∃ j, up l p (j + 1) v = a) → ∃ j, up l p (j + 1) v = (atF l a p).1 := by
    rintro v ⟨j, hj⟩
    exact ⟨j + 1, by rw [up_succ, hj]; rfl⟩
  refine ⟨by omega, ⟨V ++ [a], List.nodup_append.2 ⟨h2, by simp, fun x hx y hy => ?_⟩, fun v hv => ?_, by simp only [List.length_append, List.length_singleton]; omega⟩, hstep i ⟨j, h5⟩, k1, k2, k3⟩
  · simp only [List.mem_singleton] at hy
    subst hy
    rintro rfl
    obtain ⟨_, _, j', hj'⟩ := h3 x hx
    exact no_cycle hf hE ha j' hj'
  · rcases List.mem_append.1 hv with hv | hv
    · obtain ⟨q1, q2, q3⟩ := h3 v hv
      exact ⟨q1, q2, hstep v q3⟩
    · simp only [List.mem_singleton] at hv
      subst hv
      exact ⟨by omega, by omega, ⟨0, rfl⟩⟩
theorem invI_ne {l : List Stk} {n p i a sh st : Int} (hf : ∀ t ∈ l, fits n t) (hE : Ends l p) (hi : 1 ≤ i) (h : InvI l n p i a sh st) : a ≠ i := by
  obtain ⟨_, _, ⟨j, h5⟩, _⟩ := h
  intro e
  exact no_cycle hf hE (by omega) j (h5.trans e)
theorem invI_a {l : List Stk} {n p i a sh st : Int} (h : InvI l n p i a sh st) : (a = 0 ∨ (1 ≤ a ∧ a ≤ n)) ∧ 0 ≤ sh ∧ sh ≤ 10000 := ⟨h.2.2.2.1, h.2.2.2.2.1, h.2.2.2.2.2⟩

noncomputable def env_free (l : List Stk) (n p : Int) : Env where
  P := Try.prog
  ty := tys
  specs := specsOf [sp_awake, sp_at_, sp_check]
  heads := fun
    | 7 => some { slots := [(9, .int .i64)], boxes := [], inv := fun _ (x : Int × Unit) => InvO n x.1, measure := fun _ (x : Int × Unit) => (n + 1 - x.1).toNat }
    | 11 => some { slots := [(10, .int .i64), (11, .int .i64), (12, .int .i64)], boxes := [], inv := fun st (x : Int × Int × Int × Unit) => InvI l n p (St.int st 9) x.1 x.2.1 x.2.2.1, measure := fun _ (x : Int × Int × Int × Unit) => (n + 1 - x.2.2.1).toNat }
    | _ => none
noncomputable def g_free (l : List Stk) (n p : Int) : Prop := vc (env_free l n p) (codeOf Try.f5) (start0 Try.f5 [.list .tmp STy l, .int .i64 n, .int .i64 p]) (exitK (tsOf Try.f5) [.bool] (true, ()))
def g_free_vc (l : List Stk) (n : Int) (p : Int) : Prop :=
  (decide ((30 : Int) < (↑l.length : Int)) = false →
    (decide ((40 : Int) < n) = true → True ∧ (true, ()) = (true, ())) ∧
      (decide ((40 : Int) < n) = false →
        l.length ≤ (1000000000 : Nat) ∧
          ((!decide ((checkF l n).snd = (0 : Int))) = true → True ∧ (true, ()) = (true, ())) ∧
            ((!decide ((checkF l n).snd = (0 : Int))) = false →
              (True ∧ InvO n (1 : Int)) ∧
                ∀ (x : Int × Unit),
                  InvO n x.fst →
                    (decide (x.fst ≤ n) = true →
                        l.length ≤ (1000000000 : Nat) ∧
                          (True ∧ InvI l n p x.fst (atF l x.fst p).fst (atF l x.fst p).snd (0 : Int)) ∧
                            ∀ (x_1 : Int × Int × Int × Unit),
                              InvI l n p x.fst x_1.fst x_1.snd.fst x_1.snd.snd.fst →
                                ((!decide (x_1.fst = (0 : Int))) = true →
                                    (decide (x_1.snd.snd.fst ≤ n) = true →
                                        (decide (x_1.fst = x.fst) = false →
                                            (decide (x_1.fst < (1 : Int)) = false →
                                                (decide (n < x_1.fst) = false →
                                                    (decide (x_1.snd.fst < (0 : Int)) = false →
                                                        (decide ((10000 : Int) < x_1.snd.fst) = true → (false, ()) = (true, ())) ∧
                                                          (decide ((10000 : Int) < x_1.snd.fst) = false →
                                                            l.length ≤ (1000000000 : Nat) ∧
                                                              ((-9223372036854775808 : Int) ≤ x_1.snd.snd.fst + (1 : Int) ∧ x_1.snd.snd.fst + (1 : Int) ≤ (9223372036854775807 : Int)) ∧
                                                                True ∧
                                                                  InvI l n p x.fst (atF l x_1.fst p).fst (atF l x_1.fst p).snd (x_1.snd.snd.fst + (1 : Int)) ∧
                                                                    (n + (1 : Int) - (x_1.snd.snd.fst + (1 : Int))).toNat < (n + (1 : Int) - x_1.snd.snd.fst).toNat)) ∧
                                                      (decide (x_1.snd.fst < (0 : Int)) = !false → (false, ()) = (true, ()))) ∧
                                                  (decide (n < x_1.fst) = !false → (false, ()) = (true, ()))) ∧
                                              (decide (x_1.fst < (1 : Int)) = !false → (false, ()) = (true, ()))) ∧
                                          (decide (x_1.fst = x.fst) = !false → (false, ()) = (true, ()))) ∧
                                      (decide (x_1.snd.snd.fst ≤ n) = false →
                                        ((!decide (x_1.fst = (0 : Int))) = true → (false, ()) = (true, ())) ∧
                                          ((!decide (x_1.fst = (0 : Int))) = false →
                                            ((-9223372036854775808 : Int) ≤ x.fst + (1 : Int) ∧ x.fst + (1 : Int) ≤ (9223372036854775807 : Int)) ∧
                                              True ∧ InvO n (x.fst + (1 : Int)) ∧ (n + (1 : Int) - (x.fst + (1 : Int))).toNat < (n + (1 : Int) - x.fst).toNat))) ∧
                                  ((!decide (x_1.fst = (0 : Int))) = !true →
                                    ((!decide (x_1.fst = (0 : Int))) = true → (false, ()) = (true, ())) ∧
                                      ((!decide (x_1.fst = (0 : Int))) = false →
                                        ((-9223372036854775808 : Int) ≤ x.fst + (1 : Int) ∧ x.fst + (1 : Int) ≤ (9223372036854775807 : Int)) ∧
                                          True ∧ InvO n (x.fst + (1 : Int)) ∧ (n + (1 : Int) - (x.fst + (1 : Int))).toNat < (n + (1 : Int) - x.fst).toNat))) ∧
                      (decide (x.fst ≤ n) = false → True ∧ (true, ()) = (true, ()))))) ∧
  (decide ((30 : Int) < (↑l.length : Int)) = !false → True ∧ (true, ()) = (true, ()))

theorem g_free_eq (l : List Stk) (n p : Int) : g_free l n p = g_free_vc l n p := by kernel_rfl
theorem invO_b {n i : Int} (h : InvO n i) : 1 ≤ i ∧ (i ≤ n + 1 ∨ i = 1) := h
theorem g_free_ok (l : List Stk) (n p : Int) : g_free_vc l n p := by
  unfold g_free_vc
  simp only [decide_eq_true_eq, decide_eq_false_iff_not, Bool.not_true, Bool.not_false, Bool.not_eq_true', Bool.not_eq_false', true_and, and_true, implies_true, not_true_eq_false, not_false_eq_true]
  intro h0 h1
  refine ⟨by omega, fun hck => ⟨⟨by omega, by omega⟩, ?_⟩⟩
  obtain ⟨hf, hE0⟩ := ends_all hck
  have hE := hE0 p
  rintro ⟨i, _⟩ hO hi
  have ho := invO_b hO
  simp only at hi ho ⊢
  refine ⟨by omega, invI_0 hf, ?_⟩
  rintro ⟨a, sh, st, _⟩ hI
  simp only at hI ⊢
  have hs := invI_st hI
  have ha := invI_a hI
  have hne := invI_ne hf hE ho.1 hI
  have hO2 : InvO n (i + 1) := ⟨by omega, by omega⟩
  refine ⟨fun c1 => ⟨fun c2 => ⟨fun c3 => ⟨fun c4 => ⟨fun c5 => ⟨fun c6 => ⟨fun c7 => by omega, fun c7 => ⟨by omega, by omega, invI_s hf hE hI c1, by omega⟩⟩, fun c6 => by omega⟩, fun c5 => by omega⟩, fun c4 => by omega⟩, fun c3 => absurd c3 hne⟩, fun c2 => by omega⟩, fun c1 => ⟨fun c2 => absurd c1 c2, fun c2 => ⟨by omega, hO2, by omega⟩⟩⟩
theorem free_pure (l : List Stk) (n p : Int) : Pure Try.prog 5 [.list .tmp STy l, .int .i64 n, .int .i64 p] (.bool true) :=
  Pure.of_vc (E := env_free l n p) (ts := tsOf Try.f5) (ps := [.bool]) (r := (true, ())) (fn := Try.f5) (c := codeOf Try.f5) (specs_ok (P := Try.prog) rfl [sp_awake, sp_at_, sp_check] [] rfl rfl) mixed Try.func5 rfl rfl (by
    have := g_free_ok l n p
    rw [← g_free_eq] at this
    exact this)
def q_free (l : List Stk) (n p : Int) : Prop × V := (True, (.bool true))
noncomputable def sp_free : FSpec Try.prog where
  f := 5
  run := fun args => match args with
    | [v0, .int .i64 n, .int .i64 p] => (match (asL STy v0 : Option (List Stk)) with | some l => some (q_free l n p) | none => none)
    | _ => none
  ok := fun args pre r h hp => by
    try dsimp only at h
    split at h
    · rename_i v0 n p
      cases h0 : (asL STy v0 : Option (List Stk)) with
      | none => rw [h0] at h; cases h
      | some l =>
      rw [h0] at h
      try dsimp only at h
      have h := Option.some.inj h
      unfold q_free at h
      cases h
      exact (free_pure l n p).weak (.cons (asL_weak h0) (.cons (Weak.refl _) (.cons (Weak.refl _) .nil)))
    · cases h

end Go.Proofs.Ytoiofigknkpieaa
