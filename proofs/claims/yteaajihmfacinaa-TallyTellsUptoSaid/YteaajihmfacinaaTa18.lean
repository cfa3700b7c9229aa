/-
  What a made tally tells is what the document tells: the plain laws.
-/
import Derived.Test.YteaajihmfacinaaTa17
namespace Go.Proofs.Yteaajihmfacinaa.Ta
open Go.Vm
def NumB : List Po → Nat → Prop
  | [], _ => True
  | x :: r, k => x.1 = ((k + 1 : Nat) : Int) ∧ NumB r (k + 1)
theorem NumB.app : ∀ {A B : List Po} {k : Nat}, NumB A k → NumB B (k + A.length) → NumB (A ++ B) k
  | [], B, k, _, h => by simpa using h
  | x :: r, B, k, h, h2 => by
    refine ⟨h.1, NumB.app h.2 ?_⟩
    rw [List.length_cons] at h2
    rwa [show k + 1 + r.length = k + (r.length + 1) by omega]
theorem num_ln (p i : Int) : ∀ (L : List Ln) (k : Nat), NumB (lnGo p i L k) k
  | [], _ => trivial
  | x :: r, k => ⟨rfl, num_ln p i r (k + 1)⟩
theorem num_po : ∀ (N : List En) (i : Int) (k : Nat), NumB (poGo N i k) k
  | [], _, _ => trivial
  | x :: r, i, k => (num_ln x.1 i x.2.2 k).app (by rw [ln_len]; exact num_po r (i + 1) (k + x.2.2.length))
abbrev rwP (x : Po) : Rw := (x.1, x.2.2.2.2.2.1, x.2.2.2.2.2.2)
theorem rows_of (e a p q : Int) : ∀ (P : List Po) (k : Nat), NumB P k → thoseF (rowsG (P.map puP) (k : Int) (e, a, p)) q = (P.filter (atB e a p q)).map rwP
  | [], _, _ => rfl
  | x :: r, k, h => by
    have ih := rows_of e a p q r (k + 1) h.2
    have h1 := h.1
    rw [List.map_cons, rowsG, show (k : Int) + 1 = ((k + 1 : Nat) : Int) by push_cast; rfl]
    by_cases c : atP (puP x) = (e, a, p)
    · rw [if_pos c]
      simp only [atP, puP, Prod.mk.injEq] at c
      by_cases d : q = 0 ∨ x.2.2.2.2.2.1 = q
      · rw [thoseF, List.filter_cons_of_pos (show byP q (rowP ((k + 1 : Nat) : Int) (puP x)) = true from decide_eq_true d), List.filter_cons_of_pos (by simp [atB, c.1, c.2.1, c.2.2, d]), List.map_cons, ← ih, ← h1]
        rfl
      · rw [thoseF, List.filter_cons_of_neg (show ¬ byP q (rowP ((k + 1 : Nat) : Int) (puP x)) = true from fun hh => d (of_decide_eq_true hh)), List.filter_cons_of_neg (by simp only [atB, decide_eq_true_eq]; exact fun h => d h.2.2.2), ← ih]
        rfl
    · rw [if_neg c, ih, List.filter_cons_of_neg]
      simp only [atB, decide_eq_true_eq]
      exact fun h => c (by simp only [atP, puP, Prod.mk.injEq]; exact ⟨h.1, h.2.1, h.2.2.1⟩)
theorem addsD_few (M : List En) : ∀ (d : TD) (L : List Pu), Tells d L → d.e + M.length ≤ 2000 → Tells (addsD d M) (L ++ putsL M) ∧ (addsD d M).e = d.e + M.length := by
  induction M with
  | nil => intro d L h _; exact ⟨by simpa [addsD, putsL] using h, by simp [addsD]⟩
  | cons x r ih =>
    intro d L h hd
    rw [List.length_cons] at hd
    have e1 : addsD d (x :: r) = addsD (addD d x) r := by
      show addsD (if d.e ≥ 2000 then d else addD d x) r = _
      rw [if_neg (by omega)]
    obtain ⟨a1, a2⟩ := ih (addD d x) _ (h.add x) (by show d.e + 1 + _ ≤ _; omega)
    rw [e1]
    refine ⟨?_, ?_⟩
    · rw [List.append_assoc] at a1
      exact a1
    · rw [a2, List.length_cons]
      show d.e + 1 + _ = _
      push_cast
      omega
theorem few_of {N : List En} (h : few24 N = true) : N.length ≤ 30 ∧ ∀ x ∈ N, x.2.2.length ≤ 60 := by
  unfold few24 at h
  simp only [Bool.and_eq_true, decide_eq_true_eq, Bool.not_eq_true', List.any_eq_false, decide_eq_false_iff_not] at h
  exact ⟨h.1, fun x hx => by have := h.2 x hx; omega⟩
def WN (N : List En) : Prop := ∀ x ∈ N, WordI x.1 ∧ ∀ y ∈ x.2.2, WL y
theorem fw_of {N : List En} (hw : WN N) (h : few24 N = true) : FwE N := ⟨Nat.le_trans (few_of h).1 (by decide), fun x hx => ⟨Nat.le_trans ((few_of h).2 x hx) (by decide), hw x hx⟩⟩
theorem made_tells {N : List En} (n : Int) (h : few24 N = true) : Tells (madeF N n) (putsL N) ∧ (madeF N n).e = N.length := by
  have hl := (few_of h).1
  have hc := cutF_in N n
  obtain ⟨a1, a2⟩ := addsD_few (N.drop (cutF N n).toNat) (newD (N.take (cutF N n).toNat)) _ (Tells.new _) (by
    show ((N.take (cutF N n).toNat).length : Int) + _ ≤ _
    rw [List.length_take, List.length_drop]
    omega)
  rw [← puts_app, List.take_append_drop] at a1
  refine ⟨a1, a2.trans ?_⟩
  show ((N.take (cutF N n).toNat).length : Int) + _ = _
  rw [List.length_take, List.length_drop]
  omega
theorem wn_puts {N : List En} (h : WN N) : ∀ u ∈ putsL N, WordI u.1 ∧ WL u.2 := fun u hu => by
  obtain ⟨x, hx, h1, h2⟩ := puts_mem hu
  exact ⟨by rw [h1]; exact (h x hx).1, (h x hx).2 _ h2⟩
theorem made_rd {N : List En} (n : Int) (hw : WN N) (h : few24 N = true) : TRd ⟨(madeF N n).G, (madeF N n).H, (madeF N n).e, (madeF N n).n⟩ := by
  have ht := (made_tells n h).1
  refine ⟨⟨_, ht, wn_puts hw⟩, ?_⟩
  have h1 := (fw_of hw h).lines
  rw [lines_len] at h1
  have h2 : (madeF N n).n = (putsL N).length := ht.n
  show (madeF N n).n ≤ 20000
  omega
theorem those_made {N : List En} (n : Int) (h : few24 N = true) (e a p q : Int) : thoseF (gGet (madeF N n).G (e, a, p)) q = (rthF N e a p q).map rwP := by
  rw [(made_tells n h).1.rows, ← lines_put]
  exact rows_of e a p q (linesF N) 0 (num_po N 0 0)
theorem ids_made {N : List En} (n : Int) (h : few24 N = true) (e a p q : Int) : idsF (madeF N n).G (e, a, p) q = ridF N e a p q := by
  rw [idsF, those_made n h, List.map_map]
  rfl
theorem ams_made {N : List En} (n : Int) (h : few24 N = true) (e a p q : Int) : amsF (madeF N n).G (e, a, p) q = ramF N e a p q := by
  rw [amsF, those_made n h, List.map_map]
  rfl
theorem mem_lines {N : List En} {u : Pu} : u ∈ putsL N ↔ ∃ x ∈ linesF N, puP x = u := by
  rw [← lines_put]
  exact List.mem_map
theorem per_made {N : List En} (n : Int) (h : few24 N = true) (e a p : Int) : p ∈ gGet (madeF N n).H (e, a, 0) ↔ ∃ x ∈ linesF N, x.2.2.2.1 = e ∧ x.2.2.2.2.1 = a ∧ x.2.2.1 = p := by
  have ht := (made_tells n h).1
  rw [ht.per, ht.mem]
  constructor
  · rintro ⟨u, hu, e1⟩
    obtain ⟨x, hx, rfl⟩ := mem_lines.1 hu
    simp only [atP, puP, Prod.mk.injEq] at e1
    exact ⟨x, hx, e1⟩
  · rintro ⟨x, hx, e1⟩
    exact ⟨puP x, mem_lines.2 ⟨x, hx, rfl⟩, by simp only [atP, puP, Prod.mk.injEq]; exact e1⟩
theorem mem_gen {G : List (Sp × List Rw)} {N : List En} {e a p : Int} (hG : gGet G (e, a, p) = (rthF N e a p 0).map rwP) (y : Int) (c : Int) : y ∈ prtP G e a c p ↔ ∃ x ∈ linesF N, x.2.2.2.1 = e ∧ x.2.2.2.2.1 = a ∧ x.2.2.1 = p ∧ p ≤ c ∧ x.2.2.2.2.2.1 ≠ 0 ∧ x.2.2.2.2.2.1 = y := by
  unfold prtP
  rw [hG]
  simp only [List.mem_map, List.mem_filter, decide_eq_true_eq, rthF, atB]
  constructor
  · rintro ⟨r, ⟨⟨x, ⟨hx, h1⟩, rfl⟩, h2⟩, rfl⟩
    exact ⟨x, hx, h1.1, h1.2.1, h1.2.2.1, h2.1, h2.2, rfl⟩
  · rintro ⟨x, hx, h1, h2, h3, h4, h5, rfl⟩
    exact ⟨_, ⟨⟨x, ⟨hx, h1, h2, h3, .inl trivial⟩, rfl⟩, h4, h5⟩, rfl⟩
theorem those_all (l : List Rw) : thoseF l 0 = l := List.filter_eq_self.2 fun r _ => by simp [byP]
theorem rows_made {N : List En} (n : Int) (h : few24 N = true) (e a p : Int) : gGet (madeF N n).G (e, a, p) = (rthF N e a p 0).map rwP := by
  have := those_made n h e a p 0
  rwa [those_all] at this
theorem prt_made {N : List En} (n : Int) (h : few24 N = true) (e a c : Int) : prtR (madeF N n).G (madeF N n).H e a c = rprF (linesF N) e a c := by
  unfold prtR rprF
  refine rises_ext (rises_fold List.Pairwise.nil) (rises_fold List.Pairwise.nil) fun y => ?_
  rw [mem_fold, mem_fold]
  simp only [List.not_mem_nil, false_or, prtG, List.mem_flatMap, List.mem_map, List.mem_filter, upB, decide_eq_true_eq]
  constructor
  · rintro ⟨p, hp, hy⟩
    obtain ⟨x, hx, h1, h2, h3, h4, h5, h6⟩ := (mem_gen (rows_made n h e a p) y c).1 hy
    exact ⟨x, ⟨hx, h1, h2, by omega, h5⟩, h6⟩
  · rintro ⟨x, ⟨hx, h1, h2, h3, h4⟩, rfl⟩
    exact ⟨x.2.2.1, (per_made n h e a _).2 ⟨x, hx, h1, h2, rfl⟩, (mem_gen (rows_made n h e a _) _ c).2 ⟨x, hx, h1, h2, rfl, h3, h4, rfl⟩⟩
end Go.Proofs.Yteaajihmfacinaa.Ta
