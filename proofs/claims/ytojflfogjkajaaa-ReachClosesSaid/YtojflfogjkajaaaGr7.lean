/-
  graph.link.
-/
import Derived.Test.YtojflfogjkajaaaGr6
namespace Go.Proofs.Ytojflfogjkajaaa.Gr
open Go Go.RowKit Go.Shelf Go.Proofs
open Go.Vm (mapOf MAt LAt GI edgesF readersF GOk GraphAt)
attribute [local go_sem] Oper.semAt_some

theorem wf_int {v : Int} (h : 0 ≤ v ∧ v < 1000000000) : (Lit.int .i64 v).wf = true := by
  have h1 : IntKind.i64.min = -9223372036854775808 := by decide
  have h2 : IntKind.i64.max = 9223372036854775807 := by decide
  simp only [Lit.wf, Bool.and_eq_true, decide_eq_true_eq, h1, h2]
  omega
theorem map_nil (mb : Option Nat) (W : World) : (binOp .eql 87 (.map mb) (.map none)).run Try.prog W = .ok (.bool mb.isNone) W := by
  have : (Op.equal 87 (.map mb) (.map none)).run Try.prog W = .ok mb.isNone W := by
    show (Op.equalIn (9999 + 1) 87 (.map mb) (.map none)).run Try.prog W = _
    generalize 9999 = d
    cases mb <;> simp [Op.equalIn, run_underlying Try.underlying87]
  simp [binOp, this]
theorem heap_set {W : World} {b k : Nat} {cs : Array Value} {t : TypeId} (v : Value) (h : W.heap[b]? = some (.cells cs t (0, 0))) : (W.setCell ⟨b, k, none⟩ v).heap[b]? = some (.cells (cs.setIfInBounds k v) t (0, 0)) := by
  obtain ⟨hlt, hk⟩ := Array.getElem?_eq_some_iff.1 h
  show (W.heap.modify b _)[b]? = _
  rw [Array.getElem?_eq_getElem (by rw [Array.size_modify]; exact hlt), Array.getElem_modify_self, hk]
  rfl
theorem size_set (W : World) (a : Addr) (v : Value) : (W.setCell a v).heap.size = W.heap.size := by
  show (W.heap.modify _ _).size = _
  rw [Array.size_modify]
theorem one_of {l : List Int} {v c : Int} (hv : v ∉ l) (hat : (mapOf l).atKey (.int .i64 v) (.lit (.int .i64 0)) = .lit (.int .i64 c)) : (mapOf l).put (.int .i64 v) (.lit (.int .i64 (wrap64 (c + 1)))) = mapOf (ins v l) := by
  rw [atKey_mapOf hv] at hat
  cases hat
  rw [show wrap64 (0 + 1) = 1 by decide +kernel]
  exact put_mapOf hv
set_option maxRecDepth 100000 in
set_option maxHeartbeats 2000000 in
theorem link_in (n : Nat) (R : GI) (L : Nat → List Int) (b br cr bm cm : Nat) (E : Int) (S : Nat → Prop) (w : World) (v x : Int) (hT : TopAt R w b br cr bm cm E) (hM : MpAt R.length L w bm S) (hx : 0 ≤ x ∧ x < R.length) (hl : R.length ≤ 20000)
    (hv : v ∉ L x.toNat) (hw : 0 ≤ v ∧ v < 1000000000) (hn : (L x.toNat).length ≤ 1000000000) (hbm : S bm) :
    CallsIn Fence.wide n Try.prog 62 #[.pointer (some ⟨b, 0, none⟩), .int .i64 v, .int .i64 x] w fun e w' => (∃ u, e = .returned u) ∧ Stp bm S w w' ∧ MpAt R.length (upd L x.toNat (ins v (L x.toNat))) w' bm (fun c => S c ∨ (w.heap.size ≤ c ∧ c < w'.heap.size)) := by
  obtain ⟨csm, m1, m2, m3⟩ := hM
  have c1 := cell_of hT 1
  simp only [List.getElem?_toArray, List.getElem?_cons_zero, List.getElem?_cons_succ] at c1
  obtain ⟨u, k1, k2⟩ := m2 x.toNat (by omega)
  have hcu : w.cell? ⟨bm, x.toNat, none⟩ = some u := by rw [cell_of m1]; exact k1
  have hfu : w.frozen? ⟨bm, x.toNat, none⟩ = false := by simp [World.frozen?, m1]
  have hwf := wf_int hw
  have hkey : keyOf Try.prog 3 (.int .i64 v) = some (.int .i64 v) := Maps.keyOf_int_mk Try.underlying3 hwf
  have hbne : b ≠ bm := fun e => by subst e; rw [show w.heap[b]? = _ from hT] at m1; cases m1
  refine callsIn_of_wp Try.func62 rfl trivial ?_ rfl
  simp only [Try.ntmps62, List.size_toArray, List.length_cons, List.length_nil, Nat.reduceAdd, Nat.reduceSub, Array.replicate_succ, Array.replicate_zero, List.push_toArray, List.append_toArray, List.nil_append, List.cons_append]
  have hmm := @run_makeMap Try.prog
  have hmn := map_nil
  rcases k2 with ⟨rfl, hL⟩ | ⟨mb, rfl, hmS, hown⟩
  · have hb1 : b < w.heap.size := (Array.getElem?_eq_some_iff.1 hT).1
    have hb2 : bm < w.heap.size := (Array.getElem?_eq_some_iff.1 m1).1
    have hcu1 : (w.alloc (.map #[] 0)).cell? ⟨bm, x.toNat, none⟩ = some (.map none) := cell_kept hcu (World.grownBy_alloc w _ none) (fun r e => by cases e)
    have m1' : (w.alloc (.map #[] 0)).heap[bm]? = some (.cells csm 87 (0, 0)) := heap_up _ m1
    have hT' : TopAt R (w.alloc (.map #[] 0)) b br cr bm cm E := heap_up _ hT
    have hfu1 : (w.alloc (.map #[] 0)).frozen? ⟨bm, x.toNat, none⟩ = false := by simp [World.frozen?, m1']
    obtain ⟨w2, hw2⟩ : ∃ w2, w.setCell ⟨bm, x.toNat, none⟩ (.map (some w.heap.size)) = w2 := ⟨_, rfl⟩
    have hs2 : w2.heap.size = w.heap.size := by rw [← hw2]; exact size_set _ _ _
    have hown0 := World.ownsMap_made (H := Unit) w2 Try.prog 3 (plainElem Try.prog 3)
    rw [hs2] at hown0
    have hown : (w2.alloc (.map #[] 0)).ownsMap Try.prog 3 (plainElem Try.prog 3) w.heap.size 0 (mapOf []) := hown0
    have p1 : w2.heap[bm]? = some (.cells (csm.setIfInBounds x.toNat (.map (some w.heap.size))) 87 (0, 0)) := by rw [← hw2]; exact heap_set _ m1
    have hT2 : TopAt R (w2.alloc (.map #[] 0)) b br cr bm cm E := heap_up _ (by rw [← hw2]; exact (Below.heap_setCell w ⟨bm, x.toNat, none⟩ _ b hbne).trans hT)
    have c12 := cell_of hT2 1
    simp only [List.getElem?_toArray, List.getElem?_cons_zero, List.getElem?_cons_succ] at c12
    have hxs : x.toNat < csm.size := (Array.getElem?_eq_some_iff.1 k1).1
    have hcu2 : (w2.alloc (.map #[] 0)).cell? ⟨bm, x.toNat, none⟩ = some (.map (some w.heap.size)) := by
      rw [cell_of (heap_up _ p1)]
      simp [hxs]
    have hst : Stp bm S w w2 := by rw [← hw2]; exact .cell _
    have hst2 : Stp bm S w2 (w2.alloc (.map #[] 0)) := .below ((Below.refl _ w2).alloc (Nat.le_refl _) _)
    have hmb : (w2.alloc (.map #[] 0)).heap[w.heap.size]? = some (.map #[] 0) := by rw [← hs2]; exact World.alloc_heap_new w2 _
    rw [hL] at hv ⊢
    gi_wp2_with (first
      | (gi_at_lookup; refine wpListIn_lookup_own_int _ rfl _ _ 87 rfl 3 3 .i64 (Maps.int_keyed Try.underlying3) Try.underlying87 Try.underlying3 (Try.zeroValue3 _) w.heap.size _ _ rfl hown _ _ rfl hkey ?_; intro c hat hwc)
      | (gi_at_mapUpdate; refine wpListIn_mapUpdate_own _ rfl _ _ _ 87 rfl 3 3 (Maps.int_keyed Try.underlying3) Try.underlying87 _ w.heap.size _ _ rfl hown (by unfold maxLen; omega) _ _ _ rfl rfl hkey _ [] (plainElem_int Try.underlying3 (wrap64_wf _)) ?_; intro w1 hown1 hgrow1))
    go_end0
    have hst3 : Stp bm (fun c => S c ∨ c = w.heap.size) (w2.alloc (.map #[] 0)) w1 := .map hmb (.inr rfl) hgrow1
    have hall : Stp bm S w w1 := (hst.trans hst2 (fun i _ h => h)).trans hst3 (fun i hi h => h.elim id (fun e => by omega))
    have hs1 : w.heap.size < w1.heap.size := by have := hgrow1.size; simp only [World.size_alloc, hs2] at this; omega
    refine ⟨⟨_, rfl⟩, hall, ?_⟩
    refine (MpAt.turn (w := w2.alloc (.map #[] 0)) (L := L) (i := x.toNat) (S := fun c => S c ∨ (w.heap.size ≤ c ∧ c < w1.heap.size)) (csm := csm.setIfInBounds x.toNat (.map (some w.heap.size))) (heap_up _ p1) (fun i hi => ?_) ?_ (fun i j mb iN jN hi hj => ?_) ?_ (fun c h => h) (.inr ⟨Nat.le_refl _, hs1⟩) (by omega) hgrow1 (tight (n := 0 + 1) (by rw [← one_of hv hat]; exact hown1)))
    · by_cases hix : i = x.toNat
      · subst hix
        exact ⟨.map (some w.heap.size), by simp [hxs], .inr ⟨_, rfl, .inr ⟨Nat.le_refl _, hs1⟩, by rw [hL]; exact hown⟩⟩
      · obtain ⟨u, q1, q2⟩ := m2 i hi
        refine ⟨u, by rw [Array.getElem?_setIfInBounds, if_neg (fun e => hix e.symm)]; exact q1, MAt.mv (fun c es k h => ?_) (fun c h => .inl h) q2⟩
        refine heap_up _ ?_
        rw [← hw2]
        exact (Below.heap_setCell w ⟨bm, x.toNat, none⟩ _ c (fun e => by have e : c = bm := e; subst e; rw [m1] at h; cases h)).trans h
    · omega
    · rw [Array.getElem?_setIfInBounds] at hi hj
      split at hi
      · rename_i ei
        split at hj
        · rename_i ej
          omega
        · rename_i ej
          cases hi
          obtain ⟨u, q1, q2⟩ := m2 j jN
          rw [hj] at q1
          cases q1
          rcases q2 with ⟨q2, _⟩ | ⟨mb, q2, _, q3⟩
          · cases q2
          · cases q2
            exact absurd q3.lt (Nat.lt_irrefl _)
      · rename_i ei
        split at hj
        · rename_i ej
          cases hj
          obtain ⟨u, q1, q2⟩ := m2 i iN
          rw [hi] at q1
          cases q1
          rcases q2 with ⟨q2, _⟩ | ⟨mb, q2, _, q3⟩
          · cases q2
          · cases q2
            exact absurd q3.lt (Nat.lt_irrefl _)
        · exact m3 i j mb iN jN hi hj
    · simp [hxs]
  · obtain ⟨es, clock, hb0, _⟩ := id hown
    have hmbm : mb ≠ bm := fun e => by subst e; rw [m1] at hb0; cases hb0
    gi_wp2_with (first
      | (gi_at_lookup; refine wpListIn_lookup_own_int _ rfl _ _ 87 rfl 3 3 .i64 (Maps.int_keyed Try.underlying3) Try.underlying87 Try.underlying3 (Try.zeroValue3 _) mb _ _ rfl hown _ _ rfl hkey ?_; intro c hat hwc)
      | (gi_at_mapUpdate; refine wpListIn_mapUpdate_own _ rfl _ _ _ 87 rfl 3 3 (Maps.int_keyed Try.underlying3) Try.underlying87 _ mb _ _ rfl hown (by unfold maxLen; omega) _ _ _ rfl rfl hkey _ [] (plainElem_int Try.underlying3 (wrap64_wf _)) ?_; intro w1 hown1 hgrow1))
    go_end0
    refine ⟨⟨_, rfl⟩, .map hb0 hmS hgrow1, ?_⟩
    exact MpAt.turn m1 m2 (by omega) m3 k1 (fun c h => .inl h) (.inl hmS) hmbm hgrow1 (tight (by rw [← one_of hv hat]; exact hown1))

end Go.Proofs.Ytojflfogjkajaaa.Gr
