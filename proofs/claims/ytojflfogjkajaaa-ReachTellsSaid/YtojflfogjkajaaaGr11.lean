/-
  graph.may, at last.
-/
import Derived.Test.YtojflfogjkajaaaGr10
namespace Go.Proofs.Ytojflfogjkajaaa.Gr
open Go Go.RowKit Go.Shelf Go.Proofs
open Go.Vm (GI GraphAt)
attribute [local go_sem] Oper.semAt_some

theorem below_cells {B b : Nat} {a : World} (hb : B ≤ b) : ∀ (vs : List Value) (o : Nat) {w : World}, Below B a w → Below B a (w.setCells b o vs)
  | [], _, _, h => h
  | v :: vs, o, _, h => below_cells hb vs (o + 1) (h.setCell (p := ⟨b, o, none⟩) hb v)
theorem compact_in (n base : Nat) (v : Value) (xs : List Int) (w : World) (hrow : w.ownsRow base 3 1 v xs.length (xs.map (Value.int .i64))) (hxs : xs.length ≤ 1000000000) :
    CallsIn Fence.wide n Try.prog 92 #[v] w fun e w' => ∃ (A : Option Addr) (c : Nat), e = .returned (.slice A (Lib.compact xs).length c) ∧ Below base w w' := by
  refine callsIn_wide.2 ?_
  rcases hrow.2 with ⟨rfl, hz⟩ | ⟨gb, cap, cur, rfl, hbase, hgb, r1, r2, r3, r4⟩
  · have hss : xs = [] := List.eq_nil_of_length_eq_zero hz
    subst hss
    exact (Try.slices_Compact_int_empty none 0 w).mono fun e w' ⟨h1, h2⟩ => ⟨none, 0, h1, h2 ▸ Below.refl _ _⟩
  · refine (Try.slices_Compact_int_cells gb 0 xs.length cap xs w (Nat.le_refl _) (by omega) r1 (fun j hj => ?_) (fun j hj => ?_)).mono ?_
    · have := hrow.cellAt j (by simpa using hj)
      rw [List.getElem?_map, getD_at hj] at this
      simpa using this
    · simp [World.frozen?, hgb]
    · rintro e w' ⟨h1, q, rfl⟩
      rw [List.take_length] at h1
      exact ⟨_, _, h1, below_cells hbase _ _ ((Below.refl _ w).trans ⟨rfl, rfl, rfl, Nat.le_refl _, fun _ _ => rfl⟩)⟩

section
variable (b : Nat) (S : Nat → Prop) (R : GI) (w : World)
theorem values_in (n : Nat) (A : Option Addr) (k c : Nat) : CallsIn Fence.wide n Try.prog 91 #[.slice A k c] w fun e w' => e = .returned (.func (.func 103) #[] #[.pointer (some ⟨w.heap.size, 0, none⟩)]) ∧ w' = w.alloc (.cells #[.slice A k c] 36) := by
  refine callsIn_of_wp Try.func91 rfl trivial ?_ rfl
  simp only [Try.ntmps91, List.size_toArray, List.length_cons, List.length_nil, Nat.reduceAdd, Nat.reduceSub, Array.replicate_succ, Array.replicate_zero, List.push_toArray, List.append_toArray, List.nil_append, List.cons_append]
  gi_wp2
  go_ret
  exact ⟨rfl, rfl⟩
set_option maxRecDepth 100000
set_option maxHeartbeats 2000000
theorem may_in (n : Nat) (hn : 12 ≤ n) (n₀ : Nat) (hn₀ : n₀ ≤ w.heap.size) (u : Value) (v : Int) (l : List Int) (hl : l.length ≤ 1000000000) (h0 : 0 < R.length) (h : GraphAt R w b S) (hL : CAt n₀ w u l) :
    CallsIn Fence.wide n Try.prog 61 #[.pointer (some ⟨b, 0, none⟩), .int .i64 v, u] w fun e w' => e = .returned (.int .i64 (mayF R v l)) ∧ Below w.heap.size w w' := by
  have hn1 : 1 ≤ n := by omega
  refine callsIn_of_wp Try.func61 rfl trivial ?_ rfl
  simp only [Try.ntmps61, List.size_toArray, List.length_cons, List.length_nil, Nat.reduceAdd, Nat.reduceSub, Array.replicate_succ, Array.replicate_zero, List.push_toArray, List.append_toArray, List.nil_append, List.cons_append]
  have hB0 : Below w.heap.size w (w.alloc (.cells #[.pointer (some ⟨b, 0, none⟩)] 26)) := (Below.refl _ w).alloc (Nat.le_refl _) _
  have hp0 : (w.alloc (.cells #[.pointer (some ⟨b, 0, none⟩)] 26)).cell? ⟨w.heap.size, 0, none⟩ = some (.pointer (some ⟨b, 0, none⟩)) := (Boxed.new w 26 (.pointer (some ⟨b, 0, none⟩))).cell
  have hs0 : (w.alloc (.cells #[.pointer (some ⟨b, 0, none⟩)] 26)).heap.size = w.heap.size + 1 := by simp
  have hg0 : GraphAt R (w.alloc (.cells #[.pointer (some ⟨b, 0, none⟩)] 26)) b S := h.keep fun c hc => Below.heap_alloc w _ c (Vm.OK.lt (k := .graph) (d := R) h hc)
  have hL0 := hL.below (hB0.mono hn₀)
  gi_wp2
  obtain ⟨W0, hW0⟩ : ∃ W0, w.alloc (.cells #[.pointer (some ⟨b, 0, none⟩)] 26) = W0 := ⟨_, rfl⟩
  rw [hW0] at hB0 hp0 hs0 hg0 hL0 ⊢
  clear hW0
  have f1 : Fence.wide.fn 52 := trivial
  have f2 : Fence.wide.fn 89 := trivial
  have f3 : Fence.wide.fn 90 := trivial
  have f4 : Fence.wide.fn 57 := trivial
  have f5 : Fence.wide.fn 91 := trivial
  have f6 : Fence.wide.fn 59 := trivial
  have f7 : Fence.wide.fn 92 := trivial
  have hnodes := nodes_in b S R W0 (n - 1) hg0
  have hstr := stranger_in b S R W0 (n - 1) (by omega) w.heap.size v hg0 hp0
  have hany := anyf_in b S R W0 (n - 1) (by omega) w.heap.size n₀ u l hl hg0 hp0 hL0
  have hcon := callsIn_wide (n := n - 1) |>.2 (contains_c hL0 hl v)
  clear hp0 h hL
  refine ⟨trivial, hnodes.mono ?_⟩
  rintro e w' ⟨rfl, rfl⟩
  by_cases hv : isNode R v = true
  · rw [hv] at hstr
    cases ha : l.all (isNode R) with
    | false =>
      rw [ha] at hany
      have hm : mayF R v l = 2 := by rw [mayF, if_neg (by omega), if_pos (by rw [ha, Bool.and_false])]
      gi_wp2_with (first
        | (gi_at_call 89; refine hstr.mono ?_; rintro e w' ⟨rfl, rfl⟩)
        | (gi_at_call 90; refine hany.mono ?_; rintro e w' ⟨rfl, rfl⟩)
        | (gi_at_call 57; refine hcon.mono ?_; rintro e w' ⟨rfl, rfl⟩))
      · go_ret
        exact ⟨by rw [hm]; rfl, hB0⟩
    | true =>
      rw [ha] at hany
      have hva : ¬ (isNode R v && l.all (isNode R)) = false := by rw [hv, ha]; decide
      obtain ⟨A, c, rfl, hcs⟩ := id hL0
      have hsv := fun (W : World) (h1 : W = w'.alloc (.cells #[.slice A l.length c] 36)) => sortedv_in (n - 1) (by omega) w'.heap.size n₀ (.slice A l.length c) l hl W (by rw [h1]; simp) (by rw [h1]; simp; omega) (by rw [h1]; exact (Boxed.new w' 36 _).cell) (by rw [h1]; exact hL0.below (((Below.refl n₀ w').alloc (by omega) _)))
      rw [hs0] at hsv
      cases hcv : l.contains v with
      | true =>
        have hm : mayF R v l = 26 := by rw [mayF, if_neg (by omega), if_neg hva, if_pos hcv]
        rw [hcv] at hcon
        gi_wp2_with (first
          | (gi_at_call 89; refine hstr.mono ?_; rintro e w' ⟨rfl, rfl⟩)
          | (gi_at_call 90; refine hany.mono ?_; rintro e w' ⟨rfl, rfl⟩)
          | (gi_at_call 57; refine hcon.mono ?_; rintro e w' ⟨rfl, rfl⟩))
        go_ret
        exact ⟨by rw [hm]; rfl, hB0⟩
      | false =>
        rw [hcv] at hcon
        have hcv' : ¬ l.contains v = true := by rw [hcv]; decide
        have hfin : ∀ {w2 w3 : World}, Below (w'.alloc (.cells #[.slice A l.length c] 36)).heap.size (w'.alloc (.cells #[.slice A l.length c] 36)) w2 → Below (w'.alloc (.cells #[.slice A l.length c] 36)).heap.size w2 w3 → Below w.heap.size w w3 := fun {w2 w3} h2 h3 =>
          (hB0.trans ((Below.refl _ w').alloc (by omega) _)).trans ((h2.trans h3).mono (by simp; omega))
        gi_wp2_with (first
          | (gi_at_call 89; refine hstr.mono ?_; rintro e w' ⟨rfl, rfl⟩)
          | (gi_at_call 90; refine hany.mono ?_; rintro e w' ⟨rfl, rfl⟩)
          | (gi_at_call 57; refine hcon.mono ?_; rintro e w' ⟨rfl, rfl⟩)
          | (gi_at_call 91; refine (values_in w' (n - 1) A l.length c).mono ?_; rintro e w1 ⟨rfl, rfl⟩)
          | (gi_at_call 59; refine (hsv _ rfl).mono ?_; rintro e w2 ⟨v2, rfl, hr2, hb2⟩)
          | (gi_at_call 92; refine (compact_in (n - 1) _ v2 _ w2 (by rw [List.length_mergeSort]; exact hr2) (by rw [List.length_mergeSort]; exact hl)).mono ?_; rintro e w3 ⟨A3, c3, rfl, hb3⟩))
        · rename_i hlt
          have hm : mayF R v l = 35 := by rw [mayF, if_neg (by omega), if_neg hva, if_neg hcv', if_pos hlt]
          go_ret
          exact ⟨by rw [hm]; rfl, hfin hb2 hb3⟩
        · rename_i hlt
          have hm : mayF R v l = 0 := by rw [mayF, if_neg (by omega), if_neg hva, if_neg hcv', if_neg hlt]
          go_ret
          exact ⟨by rw [hm]; rfl, hfin hb2 hb3⟩
  · have hv : isNode R v = false := by simpa using hv
    rw [hv] at hstr
    have hm : mayF R v l = 2 := by rw [mayF, if_neg (by omega), if_pos (by rw [hv, Bool.false_and])]
    gi_wp2_with (first
        | (gi_at_call 89; refine hstr.mono ?_; rintro e w' ⟨rfl, rfl⟩)
        | (gi_at_call 90; refine hany.mono ?_; rintro e w' ⟨rfl, rfl⟩)
        | (gi_at_call 57; refine hcon.mono ?_; rintro e w' ⟨rfl, rfl⟩))
    go_ret
    exact ⟨by rw [hm]; rfl, hB0⟩
end

end Go.Proofs.Ytojflfogjkajaaa.Gr
