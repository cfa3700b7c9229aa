/-
  graph: parts of a graph, taken apart and put together.
-/
import Derived.Test.YtojflfogjkajaaaGr12
namespace Go.Proofs.Ytojflfogjkajaaa.Gr
open Go Go.RowKit Go.Shelf Go.Proofs
open Go.Vm (mapOf MAt LAt GI edgesF readersF GOk GraphAt)
theorem MpAt.set {N : Nat} {L : Nat → List Int} {w : World} {bm x k : Nat} {S : Nat → Prop} {cx : Array Value} {t : TypeId} (hx : w.heap[x]? = some (.cells cx t (0, 0))) (hne : bm ≠ x) (u : Value) : MpAt N L w bm S → MpAt N L (w.setCell ⟨x, k, none⟩ u) bm S := by
  rintro ⟨csm, h1, h2, h3⟩
  refine ⟨csm, (Below.heap_setCell w ⟨x, k, none⟩ u bm hne).trans h1, fun i hi => ?_, h3⟩
  obtain ⟨y, k1, k2⟩ := h2 i hi
  exact ⟨y, k1, MAt.mv (fun c es kk h => (Below.heap_setCell w ⟨x, k, none⟩ u c (fun e => by have e : c = x := e; subst e; rw [hx] at h; cases h)).trans h) (fun c h => h) k2⟩
theorem LAt.set {w : World} {x k : Nat} {S : Nat → Prop} {cx : Array Value} {t : TypeId} {v : Value} {l : List Int} (hx : w.heap[x]? = some (.cells cx t (0, 0))) (ht : t ≠ 3) (u : Value) : LAt w S v l → LAt (w.setCell ⟨x, k, none⟩ u) S v l :=
  LAt.kc (Stp.cell (S := S) u).kc (fun cs t' f h => by rw [hx] at h; cases h; exact ht) (fun _ h => h)
theorem RdAt.set {R : GI} {w : World} {br x k : Nat} {S : Nat → Prop} {cx : Array Value} {t : TypeId} (hx : w.heap[x]? = some (.cells cx t (0, 0))) (hne : br ≠ x) (ht : t ≠ 3) (u : Value) : RdAt R w br S → RdAt R (w.setCell ⟨x, k, none⟩ u) br S :=
  RdAt.kc (Stp.cell (S := S) u).kc hne (fun cs t' f h => by rw [hx] at h; cases h; exact ht) (fun _ h => h)
theorem RdAt.put {R : GI} {w : World} {br v : Nat} {S : Nat → Prop} {u : Value} {l : List Int} (hv : v < R.length) (hu : LAt w S u l) : RdAt R w br S → RdAt (R.set v l) (w.setCell ⟨br, v, none⟩ u) br S := by
  rintro ⟨csr, h1, h2⟩
  have hs : v < csr.size := by
    obtain ⟨y, k1, _⟩ := h2 v R[v] (List.getElem?_eq_getElem hv)
    exact (Array.getElem?_eq_some_iff.1 k1).1
  refine ⟨_, heap_set u h1, fun x m hm => ?_⟩
  rw [List.getElem?_set] at hm
  split at hm
  · rename_i e
    subst e
    cases hm
    exact ⟨u, by simp [hs], LAt.set h1 (by decide) u hu⟩
  · rename_i hne
    obtain ⟨y, k1, k2⟩ := h2 x m hm
    exact ⟨y, by rw [Array.getElem?_setIfInBounds, if_neg hne]; exact k1, LAt.set h1 (by decide) u k2⟩
theorem RdAt.below {R : GI} {w w' : World} {br : Nat} {S S' : Nat → Prop} (h : Below w.heap.size w w') (hS : ∀ c, S c → S' c) : RdAt R w br S → RdAt R w' br S' := by
  rintro ⟨csr, h1, h2⟩
  refine ⟨csr, (h.block br (Array.getElem?_eq_some_iff.1 h1).1).trans h1, fun v l hl => ?_⟩
  obtain ⟨u, k1, A, c, e, hc, k2⟩ := h2 v l hl
  refine ⟨u, k1, A, c, e, hc, fun h0 => ?_⟩
  obtain ⟨g, o, cg, e1, e2, e3, e4⟩ := k2 h0
  exact ⟨g, o, cg, e1, hS g e2, (h.block g (Array.getElem?_eq_some_iff.1 e3).1).trans e3, e4⟩
theorem RdAt.grow {R : GI} {w : World} {br : Nat} {S S' : Nat → Prop} (hS : ∀ c, S c → S' c) : RdAt R w br S → RdAt R w br S' := RdAt.below (Below.refl _ _) hS
theorem MpAt.grow {N : Nat} {L : Nat → List Int} {w : World} {bm : Nat} {S S' : Nat → Prop} (hS : ∀ c, S c → S' c) : MpAt N L w bm S → MpAt N L w bm S' := MpAt.below (Below.refl _ _) hS
theorem LAt.new {w : World} {base : Nat} {S : Nat → Prop} {v : Value} {l : List Int} (h : w.ownsRow base 3 1 v l.length (l.map (Value.int .i64))) (hS : ∀ c, base ≤ c → c < w.heap.size → S c) : LAt w S v l := by
  rcases h.2 with ⟨rfl, hz⟩ | ⟨gb, cap, cur, rfl, hbase, hgb, r1, r2, r3, r4⟩
  · exact ⟨none, 0, by rw [hz], by omega, fun h0 => by omega⟩
  · refine ⟨_, _, rfl, r1, fun h0 => ⟨gb, 0, cur, rfl, hS gb hbase (Array.getElem?_eq_some_iff.1 hgb).1, hgb, fun k x hk => ?_⟩⟩
    have hkl := (List.getElem?_eq_some_iff.1 hk).1
    have := h.cellAt k (by simpa using hkl)
    rw [List.getElem?_map, hk, cell_of hgb] at this
    simpa using this
theorem graph_of {R : GI} {w : World} {b br cr bm cm : Nat} {S : Nat → Prop} (ok : GOk R) (hT : TopAt R w b br cr bm cm (edgesF R)) (hR : RdAt R w br S) (hM : MpAt R.length (readersF R) w bm S) (h1 : S br) (h2 : S bm) (h3 : R.length ≤ cr) (h4 : R.length ≤ cm) (hlt : ∀ c, S c → c < w.heap.size) : GraphAt R w b S := by
  obtain ⟨csr, r1, r2⟩ := hR
  obtain ⟨csm, m1, m2, m3⟩ := hM
  exact ⟨ok, hlt, br, cr, bm, cm, csr, csm, hT, h1, h2, r1, m1, h3, h4, r2, m2, m3⟩
theorem graph_apart {R : GI} {w : World} {b : Nat} {S : Nat → Prop} (h : GraphAt R w b S) : ∃ br cr bm cm, TopAt R w b br cr bm cm (edgesF R) ∧ RdAt R w br S ∧ MpAt R.length (readersF R) w bm S ∧ S br ∧ S bm ∧ R.length ≤ cr ∧ R.length ≤ cm := by
  obtain ⟨h1, h2, br, cr, bm, cm, csr, csm, t1, t2, t3, t4, t5, t6, t7, t8, t9, t10⟩ := h
  exact ⟨br, cr, bm, cm, t1, ⟨csr, t4, t8⟩, ⟨csm, t5, t9, t10⟩, t2, t3, t6, t7⟩
theorem top_set {R : GI} {w : World} {b br cr bm cm : Nat} {E : Int} (h : TopAt R w b br cr bm cm E) (E' : Int) : TopAt R (w.setCell ⟨b, 2, none⟩ (.int .i64 E')) b br cr bm cm E' := (heap_set (k := 2) (.int .i64 E') h).trans rfl
structure Frm (b : Nat) (S : Nat → Prop) (w w' : World) : Prop where
  os : w'.os = w.os
  tape : w'.tape = w.tape
  output : w'.output = w.output
  size : w.heap.size ≤ w'.heap.size
  out : ∀ c, c < w.heap.size → c ≠ b → ¬ S c → w'.heap[c]? = w.heap[c]?
theorem Frm.below {b : Nat} {S : Nat → Prop} {w w' : World} (h : Below w.heap.size w w') : Frm b S w w' := ⟨h.os, h.tape, h.output, h.size, fun c hc _ _ => h.block c hc⟩
theorem Frm.trans {b : Nat} {S S' : Nat → Prop} {x y z : World} (h : Frm b S x y) (k : Frm b S' y z) (hS : ∀ i, i < x.heap.size → S' i → S i) : Frm b S x z :=
  ⟨k.os.trans h.os, k.tape.trans h.tape, k.output.trans h.output, Nat.le_trans h.size k.size, fun i hi hb hn => (k.out i (Nat.lt_of_lt_of_le hi h.size) hb (fun e => hn (hS i hi e))).trans (h.out i hi hb hn)⟩
theorem Stp.frm {b bm : Nat} {S : Nat → Prop} {w w' : World} (h : Stp bm S w w') (hS : S bm) : Frm b S w w' := ⟨h.os, h.tape, h.output, h.kc.1, fun c hc _ hn => h.out c hc (fun e => hn (by rw [e]; exact hS)) hn⟩
theorem Frm.cell {b x k : Nat} {S : Nat → Prop} {w : World} (u : Value) (h : x = b ∨ S x) : Frm b S w (w.setCell ⟨x, k, none⟩ u) :=
  ⟨rfl, rfl, rfl, (KeepsWalks.setCell w _ u).size, fun c _ hne hn => Below.heap_setCell w ⟨x, k, none⟩ u c (fun e => by have e : c = x := e; subst e; exact h.elim hne hn)⟩
theorem CAt.stp {n₀ bm : Nat} {S : Nat → Prop} {w w' : World} {A : Option Addr} {c : Nat} {l : List Int} (h : Stp bm S w w') (hn₀ : n₀ ≤ w.heap.size) (hU : ∀ g o, A = some ⟨g, o, none⟩ → 0 < l.length → g ≠ bm ∧ ¬ S g) : CAt n₀ w (.slice A l.length c) l → CAt n₀ w' (.slice A l.length c) l := by
  rintro ⟨A', c', e, k⟩
  cases e
  refine ⟨A, c, rfl, fun h0 => ?_⟩
  obtain ⟨g, o, e1, e2, e3⟩ := k h0
  refine ⟨g, o, e1, e2, fun j hj => ?_⟩
  have hg := h.out g (by omega) (hU g o e1 h0).1 (hU g o e1 h0).2
  have := e3 j hj
  simp only [World.cell?, hg] at this ⊢
  exact this
theorem clone_c {n₀ : Nat} {w : World} {v : Value} {l : List Int} (h : CAt n₀ w v l) (hl : l.length ≤ 1000000000) : Calls Try.prog 58 #[v] w fun e w' => ∃ v', e = .returned v' ∧ w'.ownsRow w.heap.size 3 1 v' l.length (l.map (Value.int .i64)) ∧ Below w.heap.size w w' := by
  obtain ⟨A, c, rfl, hc0⟩ := h
  by_cases h0 : 0 < l.length
  · obtain ⟨g, o, rfl, _, hc⟩ := hc0 h0
    refine (Try.slices_Clone_int g o l.length c l w (Nat.le_refl _) (by omega) hc).mono ?_
    rintro e w' ⟨v', h1, h2, _, h3⟩
    exact ⟨v', h1, by rwa [List.take_length] at h2, h3⟩
  · have e : l = [] := List.eq_nil_of_length_eq_zero (by omega)
    subst e
    cases A with
    | none =>
      refine (Try.slices_Clone_int_nil 0 c w).mono ?_
      rintro e w' ⟨h1, rfl⟩
      exact ⟨_, h1, World.ownsRow_nil _ _ _ _, Below.refl _ _⟩
    | some a =>
      refine (Try.slices_Clone_int_zero a c w).mono ?_
      rintro e w' ⟨v', h1, h2, _, h3⟩
      exact ⟨v', h1, h2, h3⟩
theorem take_mem {l : List Int} {k : Nat} {y : Int} (hy : l[k]? = some y) {z : Int} : z ∈ l.take (k + 1) ↔ z ∈ l.take k ∨ z = y := by
  rw [List.take_add_one, hy, List.mem_append]
  simp
theorem take_not {l : List Int} {k : Nat} {y : Int} (hn : l.Nodup) (hy : l[k]? = some y) : y ∉ l.take k := fun hm => by
  obtain ⟨hk, e⟩ := List.getElem?_eq_some_iff.1 hy
  obtain ⟨j, hj, e2⟩ := List.mem_iff_getElem.1 hm
  rw [List.length_take] at hj
  rw [List.getElem_take] at e2
  have := (List.getElem_inj hn).1 (e2.trans e.symm)
  omega
theorem drop_step {R : GI} {v k : Nat} {l ws : List Int} {y : Int} (hw : R.getD v [] = ws) (hn : ws.Nodup) (hy : ws[k]? = some y) (h0 : 0 ≤ y) :
    (y ∈ l → ∀ i, dropL R v l k i = dropL R v l (k + 1) i) ∧ (y ∉ l → dropL R v l k y.toNat = readersF R y.toNat ∧ ∀ i, upd (dropL R v l k) y.toNat ((readersF R y.toNat).filter fun x => decide (x ≠ (v : Int))) i = dropL R v l (k + 1) i) := by
  have hyt : ((y.toNat : Nat) : Int) = y := Int.toNat_of_nonneg h0
  have hy' := hw ▸ hy
  refine ⟨fun hl i => ?_, fun hl => ⟨?_, fun i => ?_⟩⟩
  · simp only [dropL, take_mem hy']
    by_cases h1 : (i : Int) = y
    · simp [h1, hl]
    · simp [h1]
  · rw [dropL, if_neg]
    rintro ⟨h1, _⟩
    rw [hw, hyt] at h1
    exact take_not hn hy h1
  · simp only [upd, dropL, take_mem hy']
    by_cases h1 : i = y.toNat
    · subst h1
      simp [hyt, hl]
    · have h2 : ¬ (i : Int) = y := by omega
      simp [h1, h2]
theorem add_step {R : GI} {v k : Nat} {l ws : List Int} {y : Int} (hw : R.getD v [] = ws) (hn : l.Nodup) (hy : l[k]? = some y) (h0 : 0 ≤ y) :
    (y ∈ ws → ∀ i, addL R v l k i = addL R v l (k + 1) i) ∧ (y ∉ ws → addL R v l k y.toNat = readersF R y.toNat ∧ ∀ i, upd (addL R v l k) y.toNat (ins v (readersF R y.toNat)) i = addL R v l (k + 1) i) := by
  have hyt : ((y.toNat : Nat) : Int) = y := Int.toNat_of_nonneg h0
  have hd : y ∉ ws → dropL R v l ws.length y.toNat = readersF R y.toNat := fun h => by
    rw [dropL, if_neg]
    rintro ⟨h1, _⟩
    rw [hw, hyt, List.take_length] at h1
    exact h h1
  refine ⟨fun hl i => ?_, fun hl => ⟨?_, fun i => ?_⟩⟩
  · simp only [addL, take_mem hy, hw]
    by_cases h1 : (i : Int) = y
    · simp only [h1, hl, not_true, and_false, if_false]
    · simp only [h1, or_false]
  · rw [addL, if_neg, hw]
    · exact hd hl
    · rintro ⟨h1, _⟩
      rw [hyt] at h1
      exact take_not hn hy h1
  · simp only [upd, addL, take_mem hy, hw]
    by_cases h1 : i = y.toNat
    · subst h1
      simp [hyt, hl, hd hl]
    · have h2 : ¬ (i : Int) = y := by omega
      simp [h1, h2]
end Go.Proofs.Ytojflfogjkajaaa.Gr
