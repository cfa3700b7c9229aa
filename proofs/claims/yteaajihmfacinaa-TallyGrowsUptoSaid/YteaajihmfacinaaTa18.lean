/-
  What a made tally tells is what the document tells: the plain laws.
-/
import Derived.Test.YteaajihmfacinaaTa17
namespace Go.Proofs.Yteaajihmfacinaa.Ta
open Go.Vm
def NumB : List Po → Nat → Prop
  | [], _ => True
  | x :: r, k => x.1 = ((k + 1 : Nat) : Int) ∧ NumB r (k + 1)
theorem NumB.app : ∀ {A B : List Po} {k : Nat}, NumB A k → NumB B (k + A.length) → NumB (A ++ B) k
  | [], B, k, _, h => by simpa using h
  | x :: r, B, k, h, h2 => by
    refine ⟨h.1, NumB.app h.2 ?_⟩
    rw [List.length_cons] at h2
    rwa [show k + 1 + r.length = k + (r.length + 1) by omega]
theorem num_ln (p i : Int) : ∀ (L : List Ln) (k : Nat), NumB (lnGo p i L k) k
  | [], _ => trivial
  | x :: r, k => ⟨rfl, num_ln p i r (k + 1)⟩
theorem num_po : ∀ (N : List En) (i : Int) (k : Nat), NumB (poGo N i k) k
  | [], _, _ => trivial
  | x :: r, i, k => (num_ln x.1 i x.2.2 k).app (by rw [ln_len]; exact num_po r (i + 1) (k + x.2.2.length))
abbrev rwP (x : Po) : Rw := (x.1, x.2.2.2.2.2.1, x.2.2.2.2.2.2)
theorem rows_of (e a p q : Int) : ∀ (P : List Po) (k : Nat), NumB P k → thoseF (rowsG (P.map puP) (k : Int) (e, a, p)) q = (P.filter (atB e a p q)).map rwP
  | [], _, _ => rfl
  | x :: r, k, h => by
    have ih := rows_of e a p q r (k + 1) h.2
    have h1 := h.1
    rw [List.map_cons, rowsG, show (k : Int) + 1 = ((k + 1 : Nat) : Int) by push_cast; rfl]
    by_cases c : atP (puP x) = (e, a, p)
    · rw [if_pos c]
      simp only [atP, puP, Prod.mk.injEq] at c
      by_cases d : q = 0 ∨ x.2.2.2.2.2.1 = q
      · rw [thoseF, List.filter_cons_of_pos (show byP q (rowP ((k + 1 : Nat) : Int) (puP x)) = true from decide_eq_true d), List.filter_cons_of_pos (by simp [atB, c.1, c.2.1, c.2.2, d]), List.map_cons, ← ih, ← h1]
        rfl
      · rw [thoseF, List.filter_cons_of_neg (show ¬ byP q (rowP ((k + 1 : Nat) : Int) (puP x)) = true from fun hh => d (of_decide_eq_true hh)), List.filter_cons_of_neg (by simp only [atB, decide_eq_true_eq]; exact fun h => d h.2.2.2), ← ih]
        rfl
    · rw [if_neg c, ih, List.filter_cons_of_neg]
      simp only [atB, decide_eq_true_eq]
      exact fun h => c (by simp only [atP, puP, Prod.mk.injEq]; exact ⟨h.1, h.2.1, h.2.2.1⟩)
theorem addsD_few (M : List En) : ∀ (d : TD) (L : List Pu), Tells d L → d.e + M.length ≤ 2000 → Tells (addsD d M) (L ++ putsL M) ∧ (addsD d M).e = d.e + M.length := by
  induction M with
  | nil => intro d L h _; exact ⟨by simpa [addsD, putsL] using h, by simp [addsD]⟩
  | cons x r ih =>
    intro d L h hd
    rw [List.length_cons] at hd
    have e1 : addsD d (x :: r) = addsD (addD d x) r := by
      show addsD (if d.e ≥ 2000 then d else addD d x) r = _
      rw [if_neg (by omega)]
    obtain ⟨a1, a2⟩ := ih (addD d x) _ (h.add x) (by show d.e + 1 + _ ≤ _; omega)
    rw [e1]
    refine ⟨?_, ?_⟩
    · rw [List.append_assoc] at a1
      exact a1
    · rw [a2, List.length_cons]
      show d.e + 1 + _ = _
      push_cast
      omega
theorem few_of {N : List En} (h : few24 N = true) : N.length ≤ 30 ∧ ∀ x ∈ N, x.2.2.length ≤ 60 := by
  unfold few24 at h
  simp only [Bool.and_eq_true, decide_eq_true_eq, Bool.not_eq_true', List.any_eq_false, decide_eq_false_iff_not] at h
  exact ⟨h.1, fun x hx => by have := h.2 x hx; omega⟩
def WN (N : List En) : Prop := ∀ x ∈ N, WordI x.1 ∧ ∀ y ∈ x.2.2, WL y
theorem fw_of {N : List En} (hw : WN N) (h : few24 N = true) : FwE N := ⟨Nat.le_trans (few_of h).1 (by decide), fun x hx => ⟨Nat.le_trans ((few_of h).2 x hx) (by decide), hw x hx⟩⟩
theorem made_tells {N : List En} (n : Int) (h : few24 N = true) : Tells (madeF N n) (putsL N) ∧ (madeF N n).e = N.length := by
  have hl := (few_of h).1
  have hc := cutF_in N n
  obtain ⟨a1, a2⟩ := addsD_few (N.drop (cutF N n).toNat) (newD (N.take (cutF N n).toNat)) _ (Tells.new _) (by
    show ((N.take (cutF N n).toNat).length : Int) + _ ≤ _
    rw [List.length_take, List.length_drop]
    omega)
  rw [← puts_app, List.take_append_drop] at a1
  refine ⟨a1, a2.trans ?_⟩
  show ((N.take (cutF N n).toNat).length : Int) + _ = _
  rw [List.length_take, List.length_drop]
  omega
theorem wn_puts {N : List En} (h : WN N) : ∀ u ∈ putsL N, WordI u.1 ∧ WL u.2 := fun u hu => by
  obtain ⟨x, hx, h1, h2⟩ := puts_mem hu
  exact ⟨by rw [h1]; exact (h x hx).1, (h x hx).2 _ h2⟩
theorem made_rd {N : List En} (n : Int) (hw : WN N) (h : few24 N = true) : TRd ⟨(madeF N n).G, (madeF N n).H, (madeF N n).e, (madeF N n).n⟩ := by
  have ht := (made_tells n h).1
  refine ⟨⟨_, ht, wn_puts hw⟩, ?_⟩
  have h1 := (fw_of hw h).lines
  rw [lines_len] at h1
  have h2 : (madeF N n).n = (putsL N).length := ht.n
  show (madeF N n).n ≤ 20000
  omega
theorem those_made {N : List En} (n : Int) (h : few24 N = true) (e a p q : Int) : thoseF (gGet (madeF N n).G (e, a, p)) q = (rthF N e a p q).map rwP := by
  rw [(made_tells n h).1.rows, ← lines_put]
  exact rows_of e a p q (linesF N) 0 (num_po N 0 0)
theorem mem_lines {N : List En} {u : Pu} : u ∈ putsL N ↔ ∃ x ∈ linesF N, puP x = u := by
  rw [← lines_put]
  exact List.mem_map
theorem per_made {N : List En} (n : Int) (h : few24 N = true) (e a p : Int) : p ∈ gGet (madeF N n).H (e, a, 0) ↔ ∃ x ∈ linesF N, x.2.2.2.1 = e ∧ x.2.2.2.2.1 = a ∧ x.2.2.1 = p := by
  have ht := (made_tells n h).1
  rw [ht.per, ht.mem]
  constructor
  · rintro ⟨u, hu, e1⟩
    obtain ⟨x, hx, rfl⟩ := mem_lines.1 hu
    simp only [atP, puP, Prod.mk.injEq] at e1
    exact ⟨x, hx, e1⟩
  · rintro ⟨x, hx, e1⟩
    exact ⟨puP x, mem_lines.2 ⟨x, hx, rfl⟩, by simp only [atP, puP, Prod.mk.injEq]; exact e1⟩
theorem flat_filter {α β : Type} (g : α → List β) (P : α → Bool) : ∀ (l : List α), (∀ x ∈ l, P x = false → g x = []) → (l.filter P).flatMap g = l.flatMap g
  | [], _ => rfl
  | x :: r, h => by
    have ih := flat_filter g P r fun y hy => h y (List.mem_cons_of_mem _ hy)
    by_cases c : P x = true
    · rw [List.filter_cons_of_pos c, List.flatMap_cons, List.flatMap_cons, ih]
    · rw [List.filter_cons_of_neg c, List.flatMap_cons, h x List.mem_cons_self (by simpa using c), List.nil_append, ih]
theorem sort_rises {l : List Int} (h : l.Nodup) : Rises (sortF l) := by
  have h1 : (sortF l).Pairwise (fun x y => decide (x ≤ y) = true) := List.pairwise_mergeSort (fun a b c h1 h2 => by simp at *; omega) (fun a b => by simp; omega) l
  have h2 : (sortF l).Nodup := (List.mergeSort_perm l _).nodup_iff.2 h
  show (sortF l).Pairwise (· < ·)
  refine List.Pairwise.imp (fun {a b} h => ?_) (h1.and h2)
  have h3 := h.1
  have h4 := h.2
  simp only [decide_eq_true_eq] at h3
  omega
theorem perN_rises (N : List En) : (perN N).Pairwise (· < ·) := rises_fold List.Pairwise.nil
theorem ps_made {N : List En} (n : Int) (h : few24 N = true) (e a : Int) : psF (madeF N n).H e a = (perN N).filter fun p => decide (p ∈ gGet (madeF N n).H (e, a, 0)) := by
  have ht := (made_tells n h).1
  refine rises_ext (sort_rises (by rw [ht.per]; exact ht.nd e a)) (List.Pairwise.filter _ (perN_rises N)) fun p => ?_
  rw [psF, sortF, (List.mergeSort_perm _ _).mem_iff, List.mem_filter, decide_eq_true_eq]
  refine ⟨fun hp => ⟨?_, hp⟩, fun hp => hp.2⟩
  obtain ⟨x, hx, _, _, h3⟩ := (per_made n h e a p).1 hp
  have hu : puP x ∈ putsL N := mem_lines.2 ⟨x, hx, rfl⟩
  obtain ⟨en, he, h1, _⟩ := puts_mem hu
  rw [perN, mem_fold]
  exact .inr (List.mem_map.2 ⟨en, he, by rw [← h3]; exact h1.symm⟩)
theorem sh_made {N : List En} (n : Int) (h : few24 N = true) (e a q : Int) : shF (madeF N n).G (madeF N n).H e a q = rsF N e a q := by
  have e1 : ∀ p, shP (madeF N n).G e a q p = rzP N e a q p := fun p => by
    rw [shP, those_made n h, List.map_map]
    rfl
  unfold shF rsF
  congr 1
  unfold shZ rZ
  rw [ps_made n h]
  simp only [e1]
  refine flat_filter _ _ _ fun p _ hp => ?_
  have hp : p ∉ gGet (madeF N n).H (e, a, 0) := by simpa using hp
  unfold rzP rthF
  rw [List.filter_eq_nil_iff.2 fun x hx hx2 => hp ((per_made n h e a p).2 ⟨x, hx, ?_⟩)]
  · rfl
  · simp only [atB, decide_eq_true_eq] at hx2
    exact ⟨hx2.1, hx2.2.1, hx2.2.2.1⟩
end Go.Proofs.Yteaajihmfacinaa.Ta
