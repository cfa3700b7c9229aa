/-
  graph.may, at last.
-/
import Derived.Deep.OwnRows
import Derived.Test.YtojflfogjkajaaaGr3
import Derived.Maps.OwnIn
import Derived.Carry
import Derived.RangeFuncBox
import Derived.Maps.AppendAt
section
namespace Go.Proofs.Ytojflfogjkajaaa.Gr
open Go Go.RowKit Go.Shelf Go.Proofs
attribute [local go_sem] Oper.semAt_some
theorem heap_up {W : World} {b : Nat} {x : _root_.Go.Obj} (o : _root_.Go.Obj) (h : W.heap[b]? = some x) : (W.alloc o).heap[b]? = some x := (Below.heap_alloc W o b (Array.getElem?_eq_some_iff.1 h).1).trans h
theorem made (z : Value) (n : Nat) : madeCells #[z] n = Array.replicate n z := by
  apply Array.ext'
  simp only [madeCells]
  apply List.ext_getElem?
  intro i
  by_cases hi : i < n
  · simp [hi, Nat.mod_one]
  · simp [hi]
theorem make27 (m : Int) (hm : 1 ≤ m ∧ m ≤ 20000) (W : World) : (Instr.makeSlice 27 (.int .i64 m) (.int .i64 m)).run Try.prog W = .ok (.slice (some ⟨W.heap.size, 0, none⟩) m.toNat m.toNat) (W.alloc (.cells (Array.replicate m.toNat (.slice none 0 0)) 36)) := by
  have := run_make_row' (P := Try.prog) 27 36 (.slice none 0 0) 24 Try.underlying27 (by kernel_rfl) rfl .i64 .i64 m.toNat (by omega) (by omega) W
  rwa [Int.toNat_of_nonneg (by omega), made] at this
theorem make79 (m : Int) (hm : 1 ≤ m ∧ m ≤ 20000) (W : World) : (Instr.makeSlice 79 (.int .i64 m) (.int .i64 m)).run Try.prog W = .ok (.slice (some ⟨W.heap.size, 0, none⟩) m.toNat m.toNat) (W.alloc (.cells (Array.replicate m.toNat (.map none)) 87)) := by
  have := run_make_row' (P := Try.prog) 79 87 (.map none) 8 Try.underlying79 (by kernel_rfl) rfl .i64 .i64 m.toNat (by omega) (by omega) W
  rwa [Int.toNat_of_nonneg (by omega), made] at this
theorem edges_none : ∀ n : Nat, Vm.edgesF (List.replicate n []) = 0
  | 0 => rfl
  | n + 1 => by
    have := edges_none n
    simp only [Vm.edgesF, List.replicate_succ, List.map_cons, List.sum_cons, List.length_nil] at this ⊢
    omega
theorem readers_none (n i : Nat) : Vm.readersF (List.replicate n []) i = [] := by
  unfold Vm.readersF
  rw [List.map_eq_nil_iff, List.filter_eq_nil_iff]
  intro v _
  rw [List.getD_eq_getElem?_getD, List.getElem?_replicate]
  split <;> simp
theorem gok_none (n : Nat) (h : n ≤ 20000) : Vm.GOk (List.replicate n []) := by
  refine ⟨by simpa using h, fun v l hl => ?_⟩
  rw [List.getElem?_replicate] at hl
  split at hl
  · cases hl
    exact ⟨List.nodup_nil, fun x hx => by cases hx⟩
  · cases hl
theorem graph_new {n : Nat} (hn : n ≤ 20000) {W : World} {b br bm : Nat} (h1 : W.heap[b]? = some (.cells #[.slice (some ⟨br, 0, none⟩) n n, .slice (some ⟨bm, 0, none⟩) n n, .int .i64 0] 81 (0, 0)))
    (h2 : W.heap[br]? = some (.cells (Array.replicate n (.slice none 0 0)) 36 (0, 0))) (h3 : W.heap[bm]? = some (.cells (Array.replicate n (.map none)) 87 (0, 0))) : Vm.GraphAt (List.replicate n []) W b (fun c => c = br ∨ c = bm) := by
  refine ⟨gok_none n hn, fun c hc => ?_, br, n, bm, n, _, _, ?_, .inl rfl, .inr rfl, h2, h3, by simp, by simp, fun v l hl => ?_, fun i hi => ?_, fun i j mb _ _ hi _ => ?_⟩
  · rcases hc with rfl | rfl
    · exact (Array.getElem?_eq_some_iff.1 h2).1
    · exact (Array.getElem?_eq_some_iff.1 h3).1
  · rw [h1, edges_none, List.length_replicate]
  · rw [List.getElem?_replicate] at hl
    split at hl
    · rename_i hv
      cases hl
      refine ⟨.slice none 0 0, by simp [hv], none, 0, rfl, Nat.le_refl _, fun h => absurd h (Nat.lt_irrefl _)⟩
    · cases hl
  · rw [List.length_replicate] at hi
    exact ⟨.map none, by simp [hi], .inl ⟨rfl, readers_none n i⟩⟩
  · rw [Array.getElem?_replicate] at hi
    split at hi <;> cases hi
set_option maxRecDepth 100000 in
set_option maxHeartbeats 1000000 in
theorem new_in (n : Nat) (m : Int) (hm : 1 ≤ m ∧ m ≤ 20000) (w : World) :
    CallsIn Fence.wide n Try.prog 26 #[.int .i64 m] w fun e w' => ∃ b S, e = .returned (.tuple #[.pointer (some ⟨b, 0, none⟩), .int .i64 0]) ∧ Vm.GraphAt (List.replicate m.toNat []) w' b S ∧ (∀ c, c = b ∨ S c → w.heap.size ≤ c) ∧ Below w.heap.size w w' := by
  refine callsIn_of_wp Try.func26 rfl trivial ?_ rfl
  simp only [Try.ntmps26, List.size_toArray, List.length_cons, List.length_nil, Nat.reduceAdd, Nat.reduceSub, Array.replicate_succ, Array.replicate_zero, List.push_toArray, List.append_toArray, List.nil_append, List.cons_append]
  have hm1 := make27 m hm
  have hm2 := make79 m hm
  gi_wp2
  gi_region
  · gi_wp2
    go_ret2
    have k0 := World.alloc_heap_new w (.cells (Array.replicate m.toNat (.slice none 0 0)) 36)
    have k1 := World.alloc_heap_new (w.alloc (.cells (Array.replicate m.toNat (.slice none 0 0)) 36)) (.cells (Array.replicate m.toNat (.map none)) 87)
    have k2 := World.alloc_heap_new ((w.alloc (.cells (Array.replicate m.toNat (.slice none 0 0)) 36)).alloc (.cells (Array.replicate m.toNat (.map none)) 87)) (.cells #[.slice (some ⟨w.heap.size, 0, none⟩) m.toNat m.toNat, .slice (some ⟨w.heap.size + 1, 0, none⟩) m.toNat m.toNat, .int .i64 0] 81)
    simp only [World.size_alloc] at k1 k2
    exact ⟨w.heap.size + 1 + 1, _, rfl, graph_new (by omega) (W := World.drew _) k2 (heap_up _ (heap_up _ k0)) (heap_up _ k1), by rintro c (rfl | rfl | rfl) <;> omega,
      ((((Below.refl _ w).alloc (Nat.le_refl _) _).alloc (by simp) _).alloc (by simp; omega) _).drew⟩
  · gi_wp2
    go_ret2
    have k0 := World.alloc_heap_new w (.cells (Array.replicate m.toNat (.map none)) 87)
    have k1 := World.alloc_heap_new (w.alloc (.cells (Array.replicate m.toNat (.map none)) 87)) (.cells (Array.replicate m.toNat (.slice none 0 0)) 36)
    have k2 := World.alloc_heap_new ((w.alloc (.cells (Array.replicate m.toNat (.map none)) 87)).alloc (.cells (Array.replicate m.toNat (.slice none 0 0)) 36)) (.cells #[.slice (some ⟨w.heap.size + 1, 0, none⟩) m.toNat m.toNat, .slice (some ⟨w.heap.size, 0, none⟩) m.toNat m.toNat, .int .i64 0] 81)
    simp only [World.size_alloc] at k1 k2
    exact ⟨w.heap.size + 1 + 1, _, rfl, graph_new (by omega) (W := World.drew _) k2 (heap_up _ k1) (heap_up _ (heap_up _ k0)), by rintro c (rfl | rfl | rfl) <;> omega,
      ((((Below.refl _ w).alloc (Nat.le_refl _) _).alloc (by simp) _).alloc (by simp; omega) _).drew⟩
end Go.Proofs.Ytojflfogjkajaaa.Gr
end
section
namespace Go.Proofs.Ytojflfogjkajaaa.Gr
open Go Go.RowKit Go.Shelf Go.Proofs
open Go.Vm (mapOf MAt LAt)
def ins (x : Int) : List Int → List Int
  | [] => [x]
  | y :: r => if x < y then x :: y :: r else y :: ins x r
theorem mem_ins {x z : Int} : ∀ {l : List Int}, z ∈ ins x l ↔ z = x ∨ z ∈ l
  | [] => by simp [ins]
  | y :: r => by
    unfold ins
    split
    · simp
    · simp only [List.mem_cons, mem_ins (l := r)]
      constructor
      · rintro (h | h | h)
        · exact .inr (.inl h)
        · exact .inl h
        · exact .inr (.inr h)
      · rintro (h | h | h)
        · exact .inr (.inl h)
        · exact .inl h
        · exact .inr (.inr h)
theorem sorted_ins {x : Int} : ∀ {l : List Int}, l.Pairwise (· < ·) → x ∉ l → (ins x l).Pairwise (· < ·)
  | [], _, _ => by simp [ins]
  | y :: r, h, hx => by
    obtain ⟨h1, h2⟩ := List.pairwise_cons.1 h
    unfold ins
    split
    · rename_i hlt
      refine List.pairwise_cons.2 ⟨fun z hz => ?_, h⟩
      rcases List.mem_cons.1 hz with rfl | hz
      · exact hlt
      · have := h1 z hz
        omega
    · rename_i hlt
      refine List.pairwise_cons.2 ⟨fun z hz => ?_, sorted_ins h2 (fun hm => hx (List.mem_cons_of_mem _ hm))⟩
      rcases mem_ins.1 hz with rfl | hz
      · have : z ≠ y := fun e => hx (by rw [e]; exact List.mem_cons_self)
        omega
      · exact h1 z hz
theorem sorted_ext : ∀ {l m : List Int}, l.Pairwise (· < ·) → m.Pairwise (· < ·) → (∀ x, x ∈ l ↔ x ∈ m) → l = m
  | [], [], _, _, _ => rfl
  | [], y :: m, _, _, h => by have := (h y).2 List.mem_cons_self; cases this
  | x :: l, [], _, _, h => by have := (h x).1 List.mem_cons_self; cases this
  | x :: l, y :: m, h1, h2, h => by
    obtain ⟨a1, a2⟩ := List.pairwise_cons.1 h1
    obtain ⟨b1, b2⟩ := List.pairwise_cons.1 h2
    have e : x = y := by
      rcases List.mem_cons.1 ((h x).1 List.mem_cons_self) with e | hx
      · exact e
      · rcases List.mem_cons.1 ((h y).2 List.mem_cons_self) with e | hy
        · exact e.symm
        · have := b1 x hx
          have := a1 y hy
          omega
    subst e
    rw [sorted_ext a2 b2 fun z => ?_]
    constructor
    · intro hz
      rcases List.mem_cons.1 ((h z).1 (List.mem_cons_of_mem _ hz)) with e | hz'
      · have := a1 z hz
        omega
      · exact hz'
    · intro hz
      rcases List.mem_cons.1 ((h z).2 (List.mem_cons_of_mem _ hz)) with e | hz'
      · have := b1 z hz
        omega
      · exact hz'
theorem same_int (x v : Int) : Lit.sameKey (.int .i64 x) (.int .i64 v) = decide (x = v) := by simp [Lit.sameKey]
theorem filt_map (l : List Int) (v : Int) : ((l.map fun x => ((.int .i64 x : Lit), (.lit (.int .i64 1) : DataW Unit))).filter fun p => !p.1.sameKey (.int .i64 v)) = (l.filter fun x => decide (x ≠ v)).map fun x => ((.int .i64 x : Lit), (.lit (.int .i64 1) : DataW Unit)) := by
  rw [List.filter_map]
  congr 1
  apply List.filter_congr
  intro x _
  simp [same_int]
theorem del_mapOf (l : List Int) (v : Int) : (mapOf l).del (.int .i64 v) = mapOf (l.filter fun x => decide (x ≠ v)) := by
  simp only [DataW.del, mapOf]
  rw [filt_map]
theorem ins_map (v : Int) : ∀ l : List Int, DataW.insert ((.int .i64 v : Lit), (.lit (.int .i64 1) : DataW Unit)) (l.map fun x => ((.int .i64 x : Lit), (.lit (.int .i64 1) : DataW Unit))) = (ins v l).map fun x => ((.int .i64 x : Lit), (.lit (.int .i64 1) : DataW Unit))
  | [] => rfl
  | y :: r => by
    simp only [List.map_cons, DataW.insert, ins, Lit.before, decide_eq_true_eq]
    split
    · rfl
    · rw [ins_map v r]; rfl
theorem filt_none {l : List Int} {v : Int} (h : v ∉ l) : (l.filter fun x => decide (x ≠ v)) = l := List.filter_eq_self.2 fun x hx => by
  have : x ≠ v := fun e => h (e ▸ hx)
  simpa using this
theorem put_mapOf {l : List Int} {v : Int} (h : v ∉ l) : (mapOf l).put (.int .i64 v) (.lit (.int .i64 1)) = mapOf (ins v l) := by
  simp only [DataW.put, mapOf]
  rw [filt_map, filt_none h, ins_map]
theorem atKey_mapOf {l : List Int} {v : Int} (h : v ∉ l) (z : DataW Unit) : (mapOf l).atKey (.int .i64 v) z = z := by
  simp only [DataW.atKey, mapOf]
  rw [List.find?_eq_none.2]
  intro p hp
  obtain ⟨x, hx, rfl⟩ := List.mem_map.1 hp
  simp only [same_int, decide_eq_true_eq]
  exact fun e => h (e ▸ hx)
theorem size_mapOf (l : List Int) : Maps.size (mapOf l) = l.length := by simp [Maps.size, mapOf]
theorem tight {w : World} {b n : Nat} {l : List Int} (h : w.ownsMap Try.prog 3 (plainElem Try.prog 3) b n (mapOf l)) : w.ownsMap Try.prog 3 (plainElem Try.prog 3) b l.length (mapOf l) := by
  obtain ⟨es, clock, h1, h2, h3, h4⟩ := h
  refine ⟨es, clock, h1, h2, ?_, h4⟩
  have h5 := size_mapOf l
  rw [h4] at h5
  simp only [Maps.size] at h5
  rw [length_read] at h5
  omega
end Go.Proofs.Ytojflfogjkajaaa.Gr
end
section
namespace Go.Proofs.Ytojflfogjkajaaa.Gr
open Go Go.RowKit Go.Shelf Go.Proofs
open Go.Vm (mapOf MAt LAt GI edgesF readersF GOk GraphAt)
attribute [local go_sem] Oper.semAt_some
def KC (bm : Nat) (w w' : World) : Prop := w.heap.size ≤ w'.heap.size ∧ ∀ c (cs : Array Value) (t : TypeId) (f : Nat × Nat), c ≠ bm → w.heap[c]? = some (_root_.Go.Obj.cells cs t f) → w'.heap[c]? = some (_root_.Go.Obj.cells cs t f)
theorem KC.refl (bm : Nat) (w : World) : KC bm w w := ⟨Nat.le_refl _, fun _ _ _ _ _ h => h⟩
theorem KC.trans {bm : Nat} {a b c : World} (h : KC bm a b) (k : KC bm b c) : KC bm a c := ⟨Nat.le_trans h.1 k.1, fun i cs t f hne e => k.2 i cs t f hne (h.2 i cs t f hne e)⟩
theorem KC.map {bm : Nat} {w w' : World} {mb : Nat} {es : Array MapEntry} {clock : Nat} (hm : w.heap[mb]? = some (.map es clock)) (hg : w.grownBy w' (some mb)) : KC bm w w' :=
  ⟨hg.size, fun c cs t f _ h => (hg.block c (Array.getElem?_eq_some_iff.1 h).1 (fun e => by cases e; rw [hm] at h; cases h)).trans h⟩
theorem KC.below {bm : Nat} {w w' : World} (h : Below w.heap.size w w') : KC bm w w' := ⟨h.size, fun c cs t f _ e => (h.block c (Array.getElem?_eq_some_iff.1 e).1).trans e⟩
structure Stp (bm : Nat) (S : Nat → Prop) (w w' : World) : Prop where
  os : w'.os = w.os
  tape : w'.tape = w.tape
  output : w'.output = w.output
  kc : KC bm w w'
  out : ∀ c, c < w.heap.size → c ≠ bm → ¬ S c → w'.heap[c]? = w.heap[c]?
theorem Stp.refl (bm : Nat) (S : Nat → Prop) (w : World) : Stp bm S w w := ⟨rfl, rfl, rfl, .refl _ _, fun _ _ _ _ => rfl⟩
theorem Stp.trans {bm : Nat} {S S' : Nat → Prop} {a b c : World} (h : Stp bm S a b) (k : Stp bm S' b c) (hS : ∀ i, i < a.heap.size → S' i → S i) : Stp bm S a c :=
  ⟨k.os.trans h.os, k.tape.trans h.tape, k.output.trans h.output, h.kc.trans k.kc, fun i hi hb hn => (k.out i (Nat.lt_of_lt_of_le hi h.kc.1) hb (fun e => hn (hS i hi e))).trans (h.out i hi hb hn)⟩
theorem Stp.below {bm : Nat} {S : Nat → Prop} {w w' : World} (h : Below w.heap.size w w') : Stp bm S w w' := ⟨h.os, h.tape, h.output, .below h, fun c hc _ _ => h.block c hc⟩
theorem Stp.map {bm : Nat} {S : Nat → Prop} {w w' : World} {mb : Nat} {es : Array MapEntry} {clock : Nat} (hm : w.heap[mb]? = some (.map es clock)) (hS : S mb) (hg : w.grownBy w' (some mb)) : Stp bm S w w' :=
  ⟨hg.os, hg.tape, hg.output, .map hm hg, fun c hc _ hn => hg.block c hc (fun e => by cases e; exact hn hS)⟩
theorem Stp.cell {S : Nat → Prop} {bm k : Nat} {w : World} (u : Value) : Stp bm S w (w.setCell ⟨bm, k, none⟩ u) :=
  ⟨rfl, rfl, rfl, ⟨(KeepsWalks.setCell w _ u).size, fun c cs t f hne h => (Below.heap_setCell w ⟨bm, k, none⟩ u c (fun e => hne e)).trans h⟩, fun c _ hne _ => Below.heap_setCell w ⟨bm, k, none⟩ u c (fun e => hne e)⟩
def TopAt (R : GI) (w : World) (b br cr bm cm : Nat) (E : Int) : Prop := w.heap[b]? = some (.cells #[.slice (some ⟨br, 0, none⟩) R.length cr, .slice (some ⟨bm, 0, none⟩) R.length cm, .int .i64 E] 81 (0, 0))
def RdAt (R : GI) (w : World) (br : Nat) (S : Nat → Prop) : Prop := ∃ csr, w.heap[br]? = some (.cells csr 36 (0, 0)) ∧ ∀ (v : Nat) l, R[v]? = some l → ∃ u, csr[v]? = some u ∧ LAt w S u l
def MpAt (N : Nat) (L : Nat → List Int) (w : World) (bm : Nat) (S : Nat → Prop) : Prop :=
  ∃ csm, w.heap[bm]? = some (.cells csm 87 (0, 0)) ∧ (∀ i, i < N → ∃ u, csm[i]? = some u ∧ MAt w S u (L i)) ∧ ∀ (i j : Nat) mb, i < N → j < N → csm[i]? = some (.map (some mb)) → csm[j]? = some (.map (some mb)) → i = j
theorem LAt.kc {w w' : World} {S S' : Nat → Prop} {v : Value} {l : List Int} {bm : Nat} (h : KC bm w w') (hb : ∀ cs t f, w.heap[bm]? = some (_root_.Go.Obj.cells cs t f) → t ≠ 3) (hS : ∀ c, S c → S' c) : LAt w S v l → LAt w' S' v l := by
  rintro ⟨A, c, e, hc, k⟩
  refine ⟨A, c, e, hc, fun h0 => ?_⟩
  obtain ⟨g, o, cg, e1, e2, e3, e4⟩ := k h0
  exact ⟨g, o, cg, e1, hS g e2, h.2 _ _ _ _ (fun e => by subst e; exact hb _ _ _ e3 rfl) e3, e4⟩
theorem RdAt.kc {R : GI} {w w' : World} {br bm : Nat} {S S' : Nat → Prop} (h : KC bm w w') (hne : br ≠ bm) (hb : ∀ cs t f, w.heap[bm]? = some (_root_.Go.Obj.cells cs t f) → t ≠ 3) (hS : ∀ c, S c → S' c) : RdAt R w br S → RdAt R w' br S' := by
  rintro ⟨csr, h1, h2⟩
  exact ⟨csr, h.2 _ _ _ _ hne h1, fun v l hl => let ⟨u, k1, k2⟩ := h2 v l hl; ⟨u, k1, LAt.kc h hb hS k2⟩⟩
theorem TopAt.kc {R : GI} {w w' : World} {b br cr bm cm : Nat} {E : Int} (h : KC bm w w') (hne : b ≠ bm) : TopAt R w b br cr bm cm E → TopAt R w' b br cr bm cm E := fun k => h.2 _ _ _ _ hne k
theorem MpAt.below {N : Nat} {L : Nat → List Int} {w w' : World} {bm : Nat} {S S' : Nat → Prop} (h : Below w.heap.size w w') (hS : ∀ c, S c → S' c) : MpAt N L w bm S → MpAt N L w' bm S' := by
  rintro ⟨csm, h1, h2, h3⟩
  refine ⟨csm, (h.block bm (Array.getElem?_eq_some_iff.1 h1).1).trans h1, fun i hi => ?_, h3⟩
  obtain ⟨u, k1, k2⟩ := h2 i hi
  refine ⟨u, k1, ?_⟩
  rcases k2 with k2 | ⟨mb, e, k2, es, clock, hb, k3⟩
  · exact .inl k2
  · exact .inr ⟨mb, e, hS mb k2, es, clock, (h.block mb (Array.getElem?_eq_some_iff.1 hb).1).trans hb, k3⟩
def upd (L : Nat → List Int) (i : Nat) (l : List Int) (j : Nat) : List Int := if j = i then l else L j
theorem MpAt.turn {N : Nat} {L : Nat → List Int} {w w' : World} {bm mb i : Nat} {S S' : Nat → Prop} {l : List Int} {csm : Array Value} (h1 : w.heap[bm]? = some (.cells csm 87 (0, 0))) (h2 : ∀ i, i < N → ∃ u, csm[i]? = some u ∧ MAt w S u (L i))
    (hiN : i < N) (h3 : ∀ (i j : Nat) mb, i < N → j < N → csm[i]? = some (.map (some mb)) → csm[j]? = some (.map (some mb)) → i = j) (hi : csm[i]? = some (.map (some mb))) (hS : ∀ c, S c → S' c) (hmS : S' mb) (hne : mb ≠ bm)
    (hg : w.grownBy w' (some mb)) (ho : w'.ownsMap Try.prog 3 (plainElem Try.prog 3) mb l.length (mapOf l)) : MpAt N (upd L i l) w' bm S' := by
  refine ⟨csm, (hg.block bm (Array.getElem?_eq_some_iff.1 h1).1 (fun e => by cases e; exact hne rfl)).trans h1, fun j hj => ?_, h3⟩
  obtain ⟨u, k1, k2⟩ := h2 j hj
  refine ⟨u, k1, ?_⟩
  by_cases hji : j = i
  · subst hji
    rw [hi] at k1; cases k1
    rw [upd, if_pos rfl]
    exact .inr ⟨mb, rfl, hmS, ho⟩
  · rw [upd, if_neg hji]
    rcases k2 with k2 | ⟨mb2, rfl, k2, k3⟩
    · exact .inl k2
    · exact .inr ⟨mb2, rfl, hS mb2 k2, k3.kept hg (fun e => by cases e; exact hji (h3 j i mb hj hiN k1 hi))⟩
theorem MpAt.congr {N : Nat} {L L' : Nat → List Int} {w : World} {bm : Nat} {S : Nat → Prop} (h : MpAt N L w bm S) (e : ∀ i, i < N → L i = L' i) : MpAt N L' w bm S := by
  obtain ⟨csm, h1, h2, h3⟩ := h
  exact ⟨csm, h1, fun i hi => by rw [← e i hi]; exact h2 i hi, h3⟩
theorem MAt.mv {w w' : World} {S S' : Nat → Prop} {v : Value} {l : List Int} (hm : ∀ (c : Nat) (es : Array MapEntry) (k : Nat), w.heap[c]? = some (_root_.Go.Obj.map es k) → w'.heap[c]? = some (_root_.Go.Obj.map es k)) (hS : ∀ c, S c → S' c) : MAt w S v l → MAt w' S' v l := by
  rintro (h | ⟨mb, e, h1, es, clock, hb, h2⟩)
  · exact .inl h
  · exact .inr ⟨mb, e, hS mb h1, es, clock, hm _ _ _ hb, h2⟩
end Go.Proofs.Ytojflfogjkajaaa.Gr
end
section
namespace Go.Proofs.Ytojflfogjkajaaa.Gr
open Go Go.RowKit Go.Shelf Go.Proofs
open Go.Vm (mapOf MAt LAt GI edgesF readersF GOk GraphAt)
attribute [local go_sem] Oper.semAt_some
theorem wf_int {v : Int} (h : 0 ≤ v ∧ v < 1000000000) : (Lit.int .i64 v).wf = true := by
  have h1 : IntKind.i64.min = -9223372036854775808 := by decide
  have h2 : IntKind.i64.max = 9223372036854775807 := by decide
  simp only [Lit.wf, Bool.and_eq_true, decide_eq_true_eq, h1, h2]
  omega
theorem map_nil (mb : Option Nat) (W : World) : (binOp .eql 87 (.map mb) (.map none)).run Try.prog W = .ok (.bool mb.isNone) W := by
  have : (Op.equal 87 (.map mb) (.map none)).run Try.prog W = .ok mb.isNone W := by
    show (Op.equalIn (9999 + 1) 87 (.map mb) (.map none)).run Try.prog W = _
    generalize 9999 = d
    cases mb <;> simp [Op.equalIn, run_underlying Try.underlying87]
  simp [binOp, this]
theorem heap_set {W : World} {b k : Nat} {cs : Array Value} {t : TypeId} (v : Value) (h : W.heap[b]? = some (.cells cs t (0, 0))) : (W.setCell ⟨b, k, none⟩ v).heap[b]? = some (.cells (cs.setIfInBounds k v) t (0, 0)) := by
  obtain ⟨hlt, hk⟩ := Array.getElem?_eq_some_iff.1 h
  show (W.heap.modify b _)[b]? = _
  rw [Array.getElem?_eq_getElem (by rw [Array.size_modify]; exact hlt), Array.getElem_modify_self, hk]
  rfl
theorem size_set (W : World) (a : Addr) (v : Value) : (W.setCell a v).heap.size = W.heap.size := by
  show (W.heap.modify _ _).size = _
  rw [Array.size_modify]
theorem one_of {l : List Int} {v c : Int} (hv : v ∉ l) (hat : (mapOf l).atKey (.int .i64 v) (.lit (.int .i64 0)) = .lit (.int .i64 c)) : (mapOf l).put (.int .i64 v) (.lit (.int .i64 (wrap64 (c + 1)))) = mapOf (ins v l) := by
  rw [atKey_mapOf hv] at hat
  cases hat
  rw [show wrap64 (0 + 1) = 1 by decide +kernel]
  exact put_mapOf hv
set_option maxRecDepth 100000 in
set_option maxHeartbeats 2000000 in
theorem link_in (n : Nat) (R : GI) (L : Nat → List Int) (b br cr bm cm : Nat) (E : Int) (S : Nat → Prop) (w : World) (v x : Int) (hT : TopAt R w b br cr bm cm E) (hM : MpAt R.length L w bm S) (hx : 0 ≤ x ∧ x < R.length) (hl : R.length ≤ 20000)
    (hv : v ∉ L x.toNat) (hw : 0 ≤ v ∧ v < 1000000000) (hn : (L x.toNat).length ≤ 1000000000) (hbm : S bm) :
    CallsIn Fence.wide n Try.prog 62 #[.pointer (some ⟨b, 0, none⟩), .int .i64 v, .int .i64 x] w fun e w' => (∃ u, e = .returned u) ∧ Stp bm S w w' ∧ MpAt R.length (upd L x.toNat (ins v (L x.toNat))) w' bm (fun c => S c ∨ (w.heap.size ≤ c ∧ c < w'.heap.size)) := by
  obtain ⟨csm, m1, m2, m3⟩ := hM
  have c1 := cell_of hT 1
  simp only [List.getElem?_toArray, List.getElem?_cons_zero, List.getElem?_cons_succ] at c1
  obtain ⟨u, k1, k2⟩ := m2 x.toNat (by omega)
  have hcu : w.cell? ⟨bm, x.toNat, none⟩ = some u := by rw [cell_of m1]; exact k1
  have hfu : w.frozen? ⟨bm, x.toNat, none⟩ = false := by simp [World.frozen?, m1]
  have hwf := wf_int hw
  have hkey : keyOf Try.prog 3 (.int .i64 v) = some (.int .i64 v) := Maps.keyOf_int_mk Try.underlying3 hwf
  have hbne : b ≠ bm := fun e => by subst e; rw [show w.heap[b]? = _ from hT] at m1; cases m1
  refine callsIn_of_wp Try.func62 rfl trivial ?_ rfl
  simp only [Try.ntmps62, List.size_toArray, List.length_cons, List.length_nil, Nat.reduceAdd, Nat.reduceSub, Array.replicate_succ, Array.replicate_zero, List.push_toArray, List.append_toArray, List.nil_append, List.cons_append]
  have hmm := @run_makeMap Try.prog
  have hmn := map_nil
  rcases k2 with ⟨rfl, hL⟩ | ⟨mb, rfl, hmS, hown⟩
  · have hb1 : b < w.heap.size := (Array.getElem?_eq_some_iff.1 hT).1
    have hb2 : bm < w.heap.size := (Array.getElem?_eq_some_iff.1 m1).1
    have hcu1 : (w.alloc (.map #[] 0)).cell? ⟨bm, x.toNat, none⟩ = some (.map none) := cell_kept hcu (World.grownBy_alloc w _ none) (fun r e => by cases e)
    have m1' : (w.alloc (.map #[] 0)).heap[bm]? = some (.cells csm 87 (0, 0)) := heap_up _ m1
    have hT' : TopAt R (w.alloc (.map #[] 0)) b br cr bm cm E := heap_up _ hT
    have hfu1 : (w.alloc (.map #[] 0)).frozen? ⟨bm, x.toNat, none⟩ = false := by simp [World.frozen?, m1']
    obtain ⟨w2, hw2⟩ : ∃ w2, w.setCell ⟨bm, x.toNat, none⟩ (.map (some w.heap.size)) = w2 := ⟨_, rfl⟩
    have hs2 : w2.heap.size = w.heap.size := by rw [← hw2]; exact size_set _ _ _
    have hown0 := World.ownsMap_made (H := Unit) w2 Try.prog 3 (plainElem Try.prog 3)
    rw [hs2] at hown0
    have hown : (w2.alloc (.map #[] 0)).ownsMap Try.prog 3 (plainElem Try.prog 3) w.heap.size 0 (mapOf []) := hown0
    have p1 : w2.heap[bm]? = some (.cells (csm.setIfInBounds x.toNat (.map (some w.heap.size))) 87 (0, 0)) := by rw [← hw2]; exact heap_set _ m1
    have hT2 : TopAt R (w2.alloc (.map #[] 0)) b br cr bm cm E := heap_up _ (by rw [← hw2]; exact (Below.heap_setCell w ⟨bm, x.toNat, none⟩ _ b hbne).trans hT)
    have c12 := cell_of hT2 1
    simp only [List.getElem?_toArray, List.getElem?_cons_zero, List.getElem?_cons_succ] at c12
    have hxs : x.toNat < csm.size := (Array.getElem?_eq_some_iff.1 k1).1
    have hcu2 : (w2.alloc (.map #[] 0)).cell? ⟨bm, x.toNat, none⟩ = some (.map (some w.heap.size)) := by
      rw [cell_of (heap_up _ p1)]
      simp [hxs]
    have hst : Stp bm S w w2 := by rw [← hw2]; exact .cell _
    have hst2 : Stp bm S w2 (w2.alloc (.map #[] 0)) := .below ((Below.refl _ w2).alloc (Nat.le_refl _) _)
    have hmb : (w2.alloc (.map #[] 0)).heap[w.heap.size]? = some (.map #[] 0) := by rw [← hs2]; exact World.alloc_heap_new w2 _
    rw [hL] at hv ⊢
    gi_wp2_with (first
      | (gi_at_lookup; refine wpListIn_lookup_own_int _ rfl _ _ 87 rfl 3 3 .i64 (Maps.int_keyed Try.underlying3) Try.underlying87 Try.underlying3 (Try.zeroValue3 _) w.heap.size _ _ rfl hown _ _ rfl hkey ?_; intro c hat hwc)
      | (gi_at_mapUpdate; refine wpListIn_mapUpdate_own _ rfl _ _ _ 87 rfl 3 3 (Maps.int_keyed Try.underlying3) Try.underlying87 _ w.heap.size _ _ rfl hown (by unfold maxLen; omega) _ _ _ rfl rfl hkey _ [] (plainElem_int Try.underlying3 (wrap64_wf _)) ?_; intro w1 hown1 hgrow1))
    go_end0
    have hst3 : Stp bm (fun c => S c ∨ c = w.heap.size) (w2.alloc (.map #[] 0)) w1 := .map hmb (.inr rfl) hgrow1
    have hall : Stp bm S w w1 := (hst.trans hst2 (fun i _ h => h)).trans hst3 (fun i hi h => h.elim id (fun e => by omega))
    have hs1 : w.heap.size < w1.heap.size := by have := hgrow1.size; simp only [World.size_alloc, hs2] at this; omega
    refine ⟨⟨_, rfl⟩, hall, ?_⟩
    refine (MpAt.turn (w := w2.alloc (.map #[] 0)) (L := L) (i := x.toNat) (S := fun c => S c ∨ (w.heap.size ≤ c ∧ c < w1.heap.size)) (csm := csm.setIfInBounds x.toNat (.map (some w.heap.size))) (heap_up _ p1) (fun i hi => ?_) ?_ (fun i j mb iN jN hi hj => ?_) ?_ (fun c h => h) (.inr ⟨Nat.le_refl _, hs1⟩) (by omega) hgrow1 (tight (n := 0 + 1) (by rw [← one_of hv hat]; exact hown1)))
    · by_cases hix : i = x.toNat
      · subst hix
        exact ⟨.map (some w.heap.size), by simp [hxs], .inr ⟨_, rfl, .inr ⟨Nat.le_refl _, hs1⟩, by rw [hL]; exact hown⟩⟩
      · obtain ⟨u, q1, q2⟩ := m2 i hi
        refine ⟨u, by rw [Array.getElem?_setIfInBounds, if_neg (fun e => hix e.symm)]; exact q1, MAt.mv (fun c es k h => ?_) (fun c h => .inl h) q2⟩
        refine heap_up _ ?_
        rw [← hw2]
        exact (Below.heap_setCell w ⟨bm, x.toNat, none⟩ _ c (fun e => by have e : c = bm := e; subst e; rw [m1] at h; cases h)).trans h
    · omega
    · rw [Array.getElem?_setIfInBounds] at hi hj
      split at hi
      · rename_i ei
        split at hj
        · rename_i ej
          omega
        · rename_i ej
          cases hi
          obtain ⟨u, q1, q2⟩ := m2 j jN
          rw [hj] at q1
          cases q1
          rcases q2 with ⟨q2, _⟩ | ⟨mb, q2, _, q3⟩
          · cases q2
          · cases q2
            exact absurd q3.lt (Nat.lt_irrefl _)
      · rename_i ei
        split at hj
        · rename_i ej
          cases hj
          obtain ⟨u, q1, q2⟩ := m2 i iN
          rw [hi] at q1
          cases q1
          rcases q2 with ⟨q2, _⟩ | ⟨mb, q2, _, q3⟩
          · cases q2
          · cases q2
            exact absurd q3.lt (Nat.lt_irrefl _)
        · exact m3 i j mb iN jN hi hj
    · simp [hxs]
  · obtain ⟨es, clock, hb0, _⟩ := id hown
    have hmbm : mb ≠ bm := fun e => by subst e; rw [m1] at hb0; cases hb0
    gi_wp2_with (first
      | (gi_at_lookup; refine wpListIn_lookup_own_int _ rfl _ _ 87 rfl 3 3 .i64 (Maps.int_keyed Try.underlying3) Try.underlying87 Try.underlying3 (Try.zeroValue3 _) mb _ _ rfl hown _ _ rfl hkey ?_; intro c hat hwc)
      | (gi_at_mapUpdate; refine wpListIn_mapUpdate_own _ rfl _ _ _ 87 rfl 3 3 (Maps.int_keyed Try.underlying3) Try.underlying87 _ mb _ _ rfl hown (by unfold maxLen; omega) _ _ _ rfl rfl hkey _ [] (plainElem_int Try.underlying3 (wrap64_wf _)) ?_; intro w1 hown1 hgrow1))
    go_end0
    refine ⟨⟨_, rfl⟩, .map hb0 hmS hgrow1, ?_⟩
    exact MpAt.turn m1 m2 (by omega) m3 k1 (fun c h => .inl h) (.inl hmS) hmbm hgrow1 (tight (by rw [← one_of hv hat]; exact hown1))
end Go.Proofs.Ytojflfogjkajaaa.Gr
end
section
namespace Go.Proofs.Ytojflfogjkajaaa.Gr
open Go Go.RowKit Go.Shelf Go.Proofs
attribute [local go_sem] Oper.semAt_some
def CAt (n₀ : Nat) (w : World) (v : Value) (l : List Int) : Prop :=
  ∃ A c, v = .slice A l.length c ∧ (0 < l.length → ∃ g o, A = some ⟨g, o, none⟩ ∧ g < n₀ ∧ ∀ j, j < l.length → w.cell? ⟨g, o + j, none⟩ = some (.int .i64 (l.getD j 0)))
theorem CAt.below {n₀ : Nat} {w w' : World} {v : Value} {l : List Int} (h : Below n₀ w w') : CAt n₀ w v l → CAt n₀ w' v l := by
  rintro ⟨A, c, e, k⟩
  refine ⟨A, c, e, fun h0 => ?_⟩
  obtain ⟨g, o, e1, e2, e3⟩ := k h0
  exact ⟨g, o, e1, e2, fun j hj => (h.cell (p := ⟨g, o + j, none⟩) e2).trans (e3 j hj)⟩
theorem contains_c {n₀ : Nat} {w : World} {v : Value} {l : List Int} (h : CAt n₀ w v l) (hl : l.length ≤ 1000000000) (x : Int) : Calls Try.prog 57 #[v, .int .i64 x] w fun e w' => e = .returned (.bool (l.contains x)) ∧ w' = w := by
  obtain ⟨A, c, rfl, hc0⟩ := h
  by_cases h0 : 0 < l.length
  · obtain ⟨g, o, rfl, _, hc⟩ := hc0 h0
    have := Try.slices_Contains_int g o l.length c l x w (Nat.le_refl _) (by omega) hc
    rwa [List.take_length] at this
  · have e : l = [] := List.eq_nil_of_length_eq_zero (by omega)
    subst e
    exact Try.slices_Contains_int_empty A c x w
set_option maxRecDepth 100000 in
set_option maxHeartbeats 2000000 in
theorem values1_in (F : Fence) (n : Nat) (hf : F.fn 103) (hro : F.round = none) (hn : 1 ≤ n) (l Bn n₀ : Nat) (v : Value) (xs : List Int) (hxs : xs.length ≤ 1000000000) (J Jx : List Int → World → Prop)
    (hY : ∀ pre x W, J pre W → pre.length < xs.length → YieldAt F (n - 1) Try.prog l #[.int .i64 x] W fun e W' =>
      (e = .returned (.bool true) ∧ J (pre ++ [x]) W' ∧ Below n₀ W W') ∨ (e = .returned (.bool false) ∧ Jx (pre ++ [x]) W'))
    (W : World) (hBn : W.cell? ⟨Bn, 0, none⟩ = some v) (hL : CAt n₀ W v xs) (h0 : J [] W) :
    CallsIn F n Try.prog 103 #[.func (.yield l) #[] #[], .pointer (some ⟨Bn, 0, none⟩)] W fun e W' => (∃ v, e = .returned v) ∧
      ((∃ ys, ys = xs ∧ J ys W') ∨ (∃ pre, pre <+: xs ∧ Jx pre W')) := by
  refine callsIn_of_wp Try.func103 rfl hf ?_ hro
  simp only [Try.ntmps103, List.size_toArray, List.length_cons, List.length_nil, Nat.reduceAdd, Nat.reduceSub, Array.replicate_succ, Array.replicate_zero, List.push_toArray, List.append_toArray, List.nil_append, List.cons_append]
  obtain ⟨A, c, rfl, hc⟩ := hL
  gi_wp2
  gi_loopw [7] (fun i wr => ∃ k : Nat, k ≤ xs.length ∧ i = .int .i64 k ∧ J (xs.take k) wr ∧ Below n₀ W wr)
    (fun i _ => xs.length - (intOf i).toNat)
  case atStart =>
    exact ⟨0, Nat.zero_le _, rfl, h0, Below.refl _ _⟩
  case round =>
    obtain ⟨k, hk, rfl, hJs, hB⟩ := hrel
    by_cases hlt : k < xs.length
    · obtain ⟨g, o, rfl, hg, hcell⟩ := hc (by omega)
      obtain ⟨y, hy0⟩ : ∃ y, xs[k]? = some y := ⟨_, List.getElem?_eq_getElem hlt⟩
      have hck : wr.cell? ⟨g, o + k, none⟩ = some (.int .i64 y) := by
        have e := getD_at hlt
        rw [hy0] at e
        rw [Option.some.inj e]
        exact (hB.cell (p := ⟨g, o + k, none⟩) hg).trans (hcell k hlt)
      obtain ⟨fn, tmps, assign, body, hy, hR⟩ := hY (xs.take k) y wr hJs (by rw [List.length_take]; omega)
      have hnext : xs.take k ++ [y] = xs.take (k + 1) := by rw [List.take_add_one, hy0]; rfl
      clear hy0
      gi_wp2
      refine hR.mono ?_
      rintro e W3 (⟨rfl, hJ3, hk3⟩ | ⟨rfl, hJx3⟩)
      · gi_wp2
        go_roundw
        case rel => exact ⟨k + 1, by omega, by simp, by rw [← hnext]; exact hJ3, hB.trans hk3⟩
        case measure => simp [intOf]; omega
      · gi_wp2
        refine bodyPost_ret (results_none rfl _ _ _) rfl ?_
        exact ⟨⟨_, rfl⟩, .inr ⟨_, by rw [hnext]; exact List.take_prefix _ _, hJx3⟩⟩
    · obtain rfl : k = xs.length := by omega
      gi_wp2
      go_end0
      exact ⟨⟨_, rfl⟩, .inl ⟨xs, rfl, by rwa [List.take_length] at hJs⟩⟩
end Go.Proofs.Ytojflfogjkajaaa.Gr
end
section
namespace Go.Proofs.Ytojflfogjkajaaa.Gr
open Go Go.RowKit Go.Shelf Go.Proofs
attribute [local go_sem] Oper.semAt_some
theorem values_stops (F : Fence) (n : Nat) (hf : F.fn 103) (hro : F.round = none) (hn : 1 ≤ n) (Bn n₀ : Nat) (v : Value) (xs : List Int) (hxs : xs.length ≤ 1000000000) (w : World) (hBn : Bn < w.heap.size) (hn₀ : n₀ ≤ w.heap.size)
    (hc : w.cell? ⟨Bn, 0, none⟩ = some v) (hL : CAt n₀ w v xs) :
    SeqStopsK F n Try.prog 103 #[.pointer (some ⟨Bn, 0, none⟩)] (fun x : Int => #[Value.int .i64 x]) (Below n₀) (fun ys => ys = xs) (fun pre => pre <+: xs) xs.length w := fun l J Jx W hW _ _ hY h0 =>
  values1_in F n hf hro hn l Bn n₀ v xs hxs J Jx hY W ((hW.cell (p := ⟨Bn, 0, none⟩) hBn).trans hc) (hL.below (hW.mono hn₀)) h0
theorem info3 : (Try.prog.info? 3).map (fun i => (i.zero, i.size, i.bytes)) = some (some (.int .i64 0), 1, 8) := by kernel_rfl
set_option maxRecDepth 100000 in
set_option maxHeartbeats 2000000 in
theorem append_in (F : Fence) (n : Nat) (h102 : F.fn 102) (h103 : F.fn 103) (hro : F.round = none) (hn : 3 ≤ n) (Bn n₀ : Nat) (u : Value) (xs : List Int) (hxs : xs.length ≤ 1000000000) (w : World) (hBn : Bn < w.heap.size) (hn₀ : n₀ ≤ w.heap.size)
    (hc : w.cell? ⟨Bn, 0, none⟩ = some u) (hL : CAt n₀ w u xs) :
    CallsIn F n Try.prog 102 #[.slice none 0 0, .func (.func 103) #[] #[.pointer (some ⟨Bn, 0, none⟩)]] w fun e W' => ∃ v, e = .returned v ∧ W'.ownsRow w.heap.size 3 1 v xs.length (xs.map (Value.int .i64)) ∧ Below w.heap.size w W' := by
  have h1 : 1 ≤ n := by omega
  obtain ⟨i0, hi, hz0, hz1, hz2⟩ := info_parts info3
  refine callsIn_of_wp_marks Try.func102 rfl h102 ?_ hro
  simp only [Try.ntmps102, List.size_toArray, List.length_cons, List.length_nil, Nat.reduceAdd, Nat.reduceSub, Array.replicate_succ, Array.replicate_zero, List.push_toArray, List.append_toArray, List.nil_append, List.cons_append]
  gi_wp2
  have bO := Boxed.new w 36 (.slice none 0 0)
  have hB0 : Below w.heap.size w (w.alloc (.cells #[.slice none 0 0] 36)) := (Below.refl _ w).alloc (Nat.le_refl _) _
  have hsz : (w.alloc (.cells #[.slice none 0 0] 36)).heap.size = w.heap.size + 1 := by simp
  have hc0 := (hB0.cell (p := ⟨Bn, 0, none⟩) hBn).trans hc
  obtain ⟨W0, hW0⟩ : ∃ W0, w.alloc (.cells #[.slice none 0 0] 36) = W0 := ⟨_, rfl⟩
  rw [hW0] at bO hB0 hsz hc0 ⊢
  clear hW0
  have hL0 : CAt n₀ W0 u xs := hL.below (hB0.mono hn₀)
  refine wpIn_rangeFunc_ownG hro h1 (gf := 103) (lb := #[.pointer (some ⟨Bn, 0, none⟩)]) rfl h103 (enters_of Try.func103 (by kernel_rfl) rfl)
    (values_stops F (n - 1) h103 hro (by omega) Bn n₀ u xs hxs W0 (by omega) (by omega) hc0 hL0) belowK_t (belowK_b (by omega)) (Below.refl _ _) (fun _ => rfl)
    (fun pre W => (∃ v, Boxed W w.heap.size 36 v ∧ W.ownsRow w.heap.size 3 1 v pre.length (pre.map (Value.int .i64)) ∧ True) ∧ Below w.heap.size w W)
    (fun _ _ _ => False)
    (OwnFrom.and (Own.from (holdsRow_own w.heap.size w.heap.size 36 3 1 (fun pre : List Int => pre.length) (fun pre => pre.map (Value.int .i64)) (fun _ _ => True)) _) (ownFrom_below (Nat.le_refl _) (by omega)))
    (fun _ _ _ _ _ hs _ _ => hs)
    ⟨⟨_, bO, World.ownsRow_nil _ _ _ _, trivial⟩, hB0⟩
    (fun x => { tmps := #[.slice none 0 0, .func (.func 103) #[] #[.pointer (some ⟨Bn, 0, none⟩)], .pointer (some ⟨w.heap.size, 0, none⟩), undef, .slice none 0 0, .int .i64 x, .func (.func 103) #[] #[.pointer (some ⟨Bn, 0, none⟩)], .int .i64 x, undef, undef, undef, undef, undef], defers := [] }) ?assign ?body ?done ?stop
  case assign =>
    intro l x W K hK
    gi_wp2
    exact hK
  case body =>
    rintro l pre x W ⟨⟨v, hv, hrow, _⟩, hB⟩ hlt
    have hcv := hv.cell
    gi_wp2_with (gi_at_builtin; refine wpListIn_append_own _ rfl _ _ 36 rfl w.heap.size 3 i0 (.int .i64 0) 1 8 Try.underlying36 hi hz0 hz1 hz2 rfl (by decide) _ _ _ rfl (hrow.alloc _) ⟨W.heap.size, 0, none⟩ 1 1 [.int .i64 x] rfl rfl (cell_one_new _ _ _) (by simp [Value.oneCell']) (by unfold maxLen; omega) (by omega) (by have := hB.size; simp; omega) ?_; intro v' w1 hown' hgrow _; obtain ⟨g', cap', rfl⟩ := ownsRow_succ hown'; obtain ⟨hv1, hv2, hr2, hk2, hb2⟩ := hv.appended (by decide) hrow hB.size (Nat.le_refl _) hown' hgrow; have hc1 := hv1.cell; have hf1 := hv1.frozen)
    exact ⟨hk2.from _, hb2.mono hn₀, ⟨_, hv2, by simpa using hr2, trivial⟩, hB.trans hb2⟩
  case done =>
    rintro D ys W hD rfl ⟨⟨v, hv, hrow, _⟩, hB⟩ hK
    have hcv := hv.cell
    gi_wp2
    refine ⟨by simp, .inl ⟨_, _, rfl, run_takeDeferred hK, ?_⟩⟩
    exact ⟨_, results_tmp rfl _ _ _, v, rfl, ownsRow_putObj hrow _ hK rfl, hB.trans (belowK_b (w := w) (Nat.le_refl _) W D _ _ (by omega) hK rfl rfl)⟩
  case stop =>
    rintro D c pre W _ _ h _
    exact h.elim
set_option maxHeartbeats 1000000 in
theorem sortedv_in (n : Nat) (hn : 8 ≤ n) (Bn n₀ : Nat) (u : Value) (xs : List Int) (hxs : xs.length ≤ 1000000000) (w : World) (hBn : Bn < w.heap.size) (hn₀ : n₀ ≤ w.heap.size)
    (hc : w.cell? ⟨Bn, 0, none⟩ = some u) (hL : CAt n₀ w u xs) :
    CallsIn Fence.wide n Try.prog 59 #[.func (.func 103) #[] #[.pointer (some ⟨Bn, 0, none⟩)]] w fun e W' => ∃ v, e = .returned v ∧ W'.ownsRow w.heap.size 3 1 v xs.length ((xs.mergeSort fun x y => decide (x ≤ y)).map (Value.int .i64)) ∧ Below w.heap.size w W' := by
  have hcol : CallsIn Fence.wide (n - 1) Try.prog 87 #[.func (.func 103) #[] #[.pointer (some ⟨Bn, 0, none⟩)]] w fun e W' => ∃ v, e = .returned v ∧ W'.ownsRow w.heap.size 3 1 v xs.length (xs.map (Value.int .i64)) ∧ Below w.heap.size w W' := by
    have hn1 : 1 ≤ n - 1 := by omega
    have hf : Fence.wide.fn 102 := trivial
    refine callsIn_of_wp Try.func87 rfl trivial ?_ rfl
    simp only [Try.ntmps87, List.size_toArray, List.length_cons, List.length_nil, Nat.reduceAdd, Nat.reduceSub, Array.replicate_succ, Array.replicate_zero, List.push_toArray, List.append_toArray, List.nil_append, List.cons_append]
    gi_wp2_with (gi_at_call 102; refine (append_in Fence.wide (n - 1 - 1) trivial trivial rfl (by omega) Bn n₀ u xs hxs w hBn hn₀ hc hL).mono ?_; rintro e w' ⟨v, rfl, hr, hb⟩)
    go_ret
    exact ⟨_, rfl, hr, hb⟩
  have hn1 : 1 ≤ n := by omega
  have hf1 : Fence.wide.fn 87 := trivial
  have hf2 : Fence.wide.fn 78 := trivial
  refine callsIn_of_wp Try.func59 rfl trivial ?_ rfl
  simp only [Try.ntmps59, List.size_toArray, List.length_cons, List.length_nil, Nat.reduceAdd, Nat.reduceSub, Array.replicate_succ, Array.replicate_zero, List.push_toArray, List.append_toArray, List.nil_append, List.cons_append]
  gi_wp2_with (gi_at_call 87; refine hcol.mono ?_; rintro e W ⟨v, rfl, hrow, hb⟩)
  rcases hrow.2 with ⟨rfl, hz⟩ | ⟨gb, cap, cur, rfl, hbase, hgb, r1, r2, r3, r4⟩
  · have hss : xs = [] := List.eq_nil_of_length_eq_zero hz
    subst hss
    gi_wp2_with (gi_at_call 78; refine ((sorts (n - 1)).2 none 0 W).mono ?_; rintro e w' ⟨rfl, rfl⟩)
    go_ret
    exact ⟨_, rfl, by rw [List.mergeSort_nil]; exact hrow, hb⟩
  · have hH : Go.Sort.Holds encZ W gb 0 xs.toArray := holds_of_block_i hgb (by simpa using r4)
    have hgl : gb < W.heap.size := (Array.getElem?_eq_some_iff.1 hgb).1
    have cS := (sorts (n - 1)).1 gb 0 cap xs W hH hgl (by omega)
    gi_wp2_with (gi_at_call 78; refine cS.mono ?_; rintro e w' ⟨rfl, nn, os, rfl⟩)
    go_ret
    exact ⟨_, rfl, ownsRow_sorted_i (by simp) hbase hgb r1 r2 r3, hb.grown (grownBy_sorted_i _) hb.size (fun j hj => by cases hj; exact hbase)⟩
end Go.Proofs.Ytojflfogjkajaaa.Gr
end
section
namespace Go.Proofs.Ytojflfogjkajaaa.Gr
open Go Go.RowKit Go.Shelf Go.Proofs
open Go.Vm (GI GraphAt)
attribute [local go_sem] Oper.semAt_some
def isNode (R : GI) (x : Int) : Bool := decide (0 ≤ x ∧ x < R.length)
def mayF (R : GI) (v : Int) (l : List Int) : Int :=
  if R.length = 0 then 1 else if (isNode R v && l.all (isNode R)) = false then 2 else if l.contains v = true then 26 else if (Lib.compact (l.mergeSort fun x y => decide (x ≤ y))).length < l.length then 35 else 0
section
variable (b : Nat) (S : Nat → Prop) (R : GI) (w : World)
set_option maxRecDepth 100000
set_option maxHeartbeats 1000000
theorem stranger_in (n : Nat) (hn : 2 ≤ n) (Bp : Nat) (x : Int) (h : GraphAt R w b S) (hp : w.cell? ⟨Bp, 0, none⟩ = some (.pointer (some ⟨b, 0, none⟩))) :
    CallsIn Fence.wide n Try.prog 89 #[.int .i64 x, .pointer (some ⟨Bp, 0, none⟩)] w fun e w' => e = .returned (.bool (!isNode R x)) ∧ w' = w := by
  have hn1 : 1 ≤ n := by omega
  have hf1 : Fence.wide.fn 56 := trivial
  have hnode : CallsIn Fence.wide (n - 1) Try.prog 56 #[.pointer (some ⟨b, 0, none⟩), .int .i64 x] w fun e w' => e = .returned (.bool (isNode R x)) ∧ w' = w := node_in b S R w (n - 1) x h
  refine callsIn_of_wp Try.func89 rfl trivial ?_ rfl
  simp only [Try.ntmps89, List.size_toArray, List.length_cons, List.length_nil, Nat.reduceAdd, Nat.reduceSub, Array.replicate_succ, Array.replicate_zero, List.push_toArray, List.append_toArray, List.nil_append, List.cons_append]
  gi_wp2_with (gi_at_call 56; refine hnode.mono ?_; rintro e w' ⟨rfl, rfl⟩)
  go_ret
  exact ⟨rfl, rfl⟩
theorem index_in (n : Nat) (hn : 3 ≤ n) (Bp n₀ : Nat) (u : Value) (l : List Int) (hl : l.length ≤ 1000000000) (h : GraphAt R w b S) (hp : w.cell? ⟨Bp, 0, none⟩ = some (.pointer (some ⟨b, 0, none⟩))) (hL : CAt n₀ w u l) :
    CallsIn Fence.wide n Try.prog 80 #[u, .func (.func 89) #[] #[.pointer (some ⟨Bp, 0, none⟩)]] w fun e w' => ∃ r : Int, e = .returned (.int .i64 r) ∧ w' = w ∧ decide (0 ≤ r) = !l.all (isNode R) := by
  have hn1 : 1 ≤ n := by omega
  have hf1 : Fence.wide.fn 89 := trivial
  obtain ⟨A, c, rfl, hc⟩ := hL
  refine callsIn_of_wp Try.func80 rfl trivial ?_ rfl
  simp only [Try.ntmps80, List.size_toArray, List.length_cons, List.length_nil, Nat.reduceAdd, Nat.reduceSub, Array.replicate_succ, Array.replicate_zero, List.push_toArray, List.append_toArray, List.nil_append, List.cons_append]
  gi_wp2
  gi_loop [8] (fun i => ∃ k : Nat, k ≤ l.length ∧ i = .int .i64 k ∧ ∀ x ∈ l.take k, isNode R x = true) (fun i => l.length - (intOf i).toNat)
  case atStart =>
    exact ⟨0, Nat.zero_le _, rfl, fun x hx => by simp at hx⟩
  case round =>
    obtain ⟨k, hk, rfl, hall⟩ := hrel
    by_cases hlt : k < l.length
    · obtain ⟨g, o, rfl, hg, hcell⟩ := hc (by omega)
      obtain ⟨y, hy0⟩ : ∃ y, l[k]? = some y := ⟨_, List.getElem?_eq_getElem hlt⟩
      have hck : w.cell? ⟨g, o + k, none⟩ = some (.int .i64 y) := by
        have e := getD_at hlt
        rw [hy0] at e
        rw [Option.some.inj e]
        exact hcell k hlt
      have hnext : l.take k ++ [y] = l.take (k + 1) := by rw [List.take_add_one, hy0]; rfl
      have hmem : y ∈ l := List.mem_of_getElem? hy0
      clear hy0 hcell hc
      have hst := stranger_in b S R w (n - 1) (by omega) Bp y h hp
      by_cases hnode : isNode R y = true
      · rw [hnode] at hst
        gi_wp2_with (gi_at_call 89; refine hst.mono ?_; rintro e w' ⟨rfl, rfl⟩)
        go_round
        case rel =>
          refine ⟨k + 1, by omega, by simp, fun x hx => ?_⟩
          rw [← hnext, List.mem_append, List.mem_singleton] at hx
          rcases hx with hx | rfl
          · exact hall x hx
          · exact hnode
        case measure => simp [intOf]; omega
      · have hnode : isNode R y = false := by simpa using hnode
        rw [hnode] at hst
        gi_wp2_with (gi_at_call 89; refine hst.mono ?_; rintro e w' ⟨rfl, rfl⟩)
        refine bodyPost_ret (results_tmp rfl _ _ _) rfl ⟨_, rfl, rfl, ?_⟩
        have : l.all (isNode R) = false := by
          rw [← Bool.not_eq_true, List.all_eq_true]
          intro ha
          have := ha y hmem
          rw [hnode] at this
          cases this
        rw [this]
        simp
    · obtain rfl : k = l.length := by omega
      gi_wp2
      go_ret
      refine ⟨_, rfl, rfl, ?_⟩
      rw [List.take_length] at hall
      have : l.all (isNode R) = true := List.all_eq_true.2 hall
      rw [this]
      rfl
theorem anyf_in (n : Nat) (hn : 4 ≤ n) (Bp n₀ : Nat) (u : Value) (l : List Int) (hl : l.length ≤ 1000000000) (h : GraphAt R w b S) (hp : w.cell? ⟨Bp, 0, none⟩ = some (.pointer (some ⟨b, 0, none⟩))) (hL : CAt n₀ w u l) :
    CallsIn Fence.wide n Try.prog 90 #[u, .func (.func 89) #[] #[.pointer (some ⟨Bp, 0, none⟩)]] w fun e w' => e = .returned (.bool (!l.all (isNode R))) ∧ w' = w := by
  have hn1 : 1 ≤ n := by omega
  have hf1 : Fence.wide.fn 80 := trivial
  have hi := index_in b S R w (n - 1) (by omega) Bp n₀ u l hl h hp hL
  refine callsIn_of_wp Try.func90 rfl trivial ?_ rfl
  simp only [Try.ntmps90, List.size_toArray, List.length_cons, List.length_nil, Nat.reduceAdd, Nat.reduceSub, Array.replicate_succ, Array.replicate_zero, List.push_toArray, List.append_toArray, List.nil_append, List.cons_append]
  gi_wp2_with (gi_at_call 80; refine hi.mono ?_; rintro e w' ⟨r, rfl, rfl, hr⟩)
  go_ret
  exact ⟨rfl, rfl⟩
end
end Go.Proofs.Ytojflfogjkajaaa.Gr
end
section
namespace Go.Proofs.Ytojflfogjkajaaa.Gr
open Go Go.RowKit Go.Shelf Go.Proofs
open Go.Vm (GI GraphAt)
attribute [local go_sem] Oper.semAt_some
theorem below_cells {B b : Nat} {a : World} (hb : B ≤ b) : ∀ (vs : List Value) (o : Nat) {w : World}, Below B a w → Below B a (w.setCells b o vs)
  | [], _, _, h => h
  | v :: vs, o, _, h => below_cells hb vs (o + 1) (h.setCell (p := ⟨b, o, none⟩) hb v)
theorem compact_in (n base : Nat) (v : Value) (xs : List Int) (w : World) (hrow : w.ownsRow base 3 1 v xs.length (xs.map (Value.int .i64))) (hxs : xs.length ≤ 1000000000) :
    CallsIn Fence.wide n Try.prog 92 #[v] w fun e w' => ∃ (A : Option Addr) (c : Nat), e = .returned (.slice A (Lib.compact xs).length c) ∧ Below base w w' := by
  refine callsIn_wide.2 ?_
  rcases hrow.2 with ⟨rfl, hz⟩ | ⟨gb, cap, cur, rfl, hbase, hgb, r1, r2, r3, r4⟩
  · have hss : xs = [] := List.eq_nil_of_length_eq_zero hz
    subst hss
    exact (Try.slices_Compact_int_empty none 0 w).mono fun e w' ⟨h1, h2⟩ => ⟨none, 0, h1, h2 ▸ Below.refl _ _⟩
  · refine (Try.slices_Compact_int_cells gb 0 xs.length cap xs w (Nat.le_refl _) (by omega) r1 (fun j hj => ?_) (fun j hj => ?_)).mono ?_
    · have := hrow.cellAt j (by simpa using hj)
      rw [List.getElem?_map, getD_at hj] at this
      simpa using this
    · simp [World.frozen?, hgb]
    · rintro e w' ⟨h1, q, rfl⟩
      rw [List.take_length] at h1
      exact ⟨_, _, h1, below_cells hbase _ _ ((Below.refl _ w).trans ⟨rfl, rfl, rfl, Nat.le_refl _, fun _ _ => rfl⟩)⟩
section
variable (b : Nat) (S : Nat → Prop) (R : GI) (w : World)
theorem values_in (n : Nat) (A : Option Addr) (k c : Nat) : CallsIn Fence.wide n Try.prog 91 #[.slice A k c] w fun e w' => e = .returned (.func (.func 103) #[] #[.pointer (some ⟨w.heap.size, 0, none⟩)]) ∧ w' = w.alloc (.cells #[.slice A k c] 36) := by
  refine callsIn_of_wp Try.func91 rfl trivial ?_ rfl
  simp only [Try.ntmps91, List.size_toArray, List.length_cons, List.length_nil, Nat.reduceAdd, Nat.reduceSub, Array.replicate_succ, Array.replicate_zero, List.push_toArray, List.append_toArray, List.nil_append, List.cons_append]
  gi_wp2
  go_ret
  exact ⟨rfl, rfl⟩
set_option maxRecDepth 100000
set_option maxHeartbeats 2000000
theorem may_in (n : Nat) (hn : 12 ≤ n) (n₀ : Nat) (hn₀ : n₀ ≤ w.heap.size) (u : Value) (v : Int) (l : List Int) (hl : l.length ≤ 1000000000) (h0 : 0 < R.length) (h : GraphAt R w b S) (hL : CAt n₀ w u l) :
    CallsIn Fence.wide n Try.prog 61 #[.pointer (some ⟨b, 0, none⟩), .int .i64 v, u] w fun e w' => e = .returned (.int .i64 (mayF R v l)) ∧ Below w.heap.size w w' := by
  have hn1 : 1 ≤ n := by omega
  refine callsIn_of_wp Try.func61 rfl trivial ?_ rfl
  simp only [Try.ntmps61, List.size_toArray, List.length_cons, List.length_nil, Nat.reduceAdd, Nat.reduceSub, Array.replicate_succ, Array.replicate_zero, List.push_toArray, List.append_toArray, List.nil_append, List.cons_append]
  have hB0 : Below w.heap.size w (w.alloc (.cells #[.pointer (some ⟨b, 0, none⟩)] 26)) := (Below.refl _ w).alloc (Nat.le_refl _) _
  have hp0 : (w.alloc (.cells #[.pointer (some ⟨b, 0, none⟩)] 26)).cell? ⟨w.heap.size, 0, none⟩ = some (.pointer (some ⟨b, 0, none⟩)) := (Boxed.new w 26 (.pointer (some ⟨b, 0, none⟩))).cell
  have hs0 : (w.alloc (.cells #[.pointer (some ⟨b, 0, none⟩)] 26)).heap.size = w.heap.size + 1 := by simp
  have hg0 : GraphAt R (w.alloc (.cells #[.pointer (some ⟨b, 0, none⟩)] 26)) b S := h.keep fun c hc => Below.heap_alloc w _ c (Vm.OK.lt (k := .graph) (d := R) h hc)
  have hL0 := hL.below (hB0.mono hn₀)
  gi_wp2
  obtain ⟨W0, hW0⟩ : ∃ W0, w.alloc (.cells #[.pointer (some ⟨b, 0, none⟩)] 26) = W0 := ⟨_, rfl⟩
  rw [hW0] at hB0 hp0 hs0 hg0 hL0 ⊢
  clear hW0
  have f1 : Fence.wide.fn 52 := trivial
  have f2 : Fence.wide.fn 89 := trivial
  have f3 : Fence.wide.fn 90 := trivial
  have f4 : Fence.wide.fn 57 := trivial
  have f5 : Fence.wide.fn 91 := trivial
  have f6 : Fence.wide.fn 59 := trivial
  have f7 : Fence.wide.fn 92 := trivial
  have hnodes := nodes_in b S R W0 (n - 1) hg0
  have hstr := stranger_in b S R W0 (n - 1) (by omega) w.heap.size v hg0 hp0
  have hany := anyf_in b S R W0 (n - 1) (by omega) w.heap.size n₀ u l hl hg0 hp0 hL0
  have hcon := callsIn_wide (n := n - 1) |>.2 (contains_c hL0 hl v)
  clear hp0 h hL
  refine ⟨trivial, hnodes.mono ?_⟩
  rintro e w' ⟨rfl, rfl⟩
  by_cases hv : isNode R v = true
  · rw [hv] at hstr
    cases ha : l.all (isNode R) with
    | false =>
      rw [ha] at hany
      have hm : mayF R v l = 2 := by rw [mayF, if_neg (by omega), if_pos (by rw [ha, Bool.and_false])]
      gi_wp2_with (first
        | (gi_at_call 89; refine hstr.mono ?_; rintro e w' ⟨rfl, rfl⟩)
        | (gi_at_call 90; refine hany.mono ?_; rintro e w' ⟨rfl, rfl⟩)
        | (gi_at_call 57; refine hcon.mono ?_; rintro e w' ⟨rfl, rfl⟩))
      · go_ret
        exact ⟨by rw [hm]; rfl, hB0⟩
    | true =>
      rw [ha] at hany
      have hva : ¬ (isNode R v && l.all (isNode R)) = false := by rw [hv, ha]; decide
      obtain ⟨A, c, rfl, hcs⟩ := id hL0
      have hsv := fun (W : World) (h1 : W = w'.alloc (.cells #[.slice A l.length c] 36)) => sortedv_in (n - 1) (by omega) w'.heap.size n₀ (.slice A l.length c) l hl W (by rw [h1]; simp) (by rw [h1]; simp; omega) (by rw [h1]; exact (Boxed.new w' 36 _).cell) (by rw [h1]; exact hL0.below (((Below.refl n₀ w').alloc (by omega) _)))
      rw [hs0] at hsv
      cases hcv : l.contains v with
      | true =>
        have hm : mayF R v l = 26 := by rw [mayF, if_neg (by omega), if_neg hva, if_pos hcv]
        rw [hcv] at hcon
        gi_wp2_with (first
          | (gi_at_call 89; refine hstr.mono ?_; rintro e w' ⟨rfl, rfl⟩)
          | (gi_at_call 90; refine hany.mono ?_; rintro e w' ⟨rfl, rfl⟩)
          | (gi_at_call 57; refine hcon.mono ?_; rintro e w' ⟨rfl, rfl⟩))
        go_ret
        exact ⟨by rw [hm]; rfl, hB0⟩
      | false =>
        rw [hcv] at hcon
        have hcv' : ¬ l.contains v = true := by rw [hcv]; decide
        have hfin : ∀ {w2 w3 : World}, Below (w'.alloc (.cells #[.slice A l.length c] 36)).heap.size (w'.alloc (.cells #[.slice A l.length c] 36)) w2 → Below (w'.alloc (.cells #[.slice A l.length c] 36)).heap.size w2 w3 → Below w.heap.size w w3 := fun {w2 w3} h2 h3 =>
          (hB0.trans ((Below.refl _ w').alloc (by omega) _)).trans ((h2.trans h3).mono (by simp; omega))
        gi_wp2_with (first
          | (gi_at_call 89; refine hstr.mono ?_; rintro e w' ⟨rfl, rfl⟩)
          | (gi_at_call 90; refine hany.mono ?_; rintro e w' ⟨rfl, rfl⟩)
          | (gi_at_call 57; refine hcon.mono ?_; rintro e w' ⟨rfl, rfl⟩)
          | (gi_at_call 91; refine (values_in w' (n - 1) A l.length c).mono ?_; rintro e w1 ⟨rfl, rfl⟩)
          | (gi_at_call 59; refine (hsv _ rfl).mono ?_; rintro e w2 ⟨v2, rfl, hr2, hb2⟩)
          | (gi_at_call 92; refine (compact_in (n - 1) _ v2 _ w2 (by rw [List.length_mergeSort]; exact hr2) (by rw [List.length_mergeSort]; exact hl)).mono ?_; rintro e w3 ⟨A3, c3, rfl, hb3⟩))
        · rename_i hlt
          have hm : mayF R v l = 35 := by rw [mayF, if_neg (by omega), if_neg hva, if_neg hcv', if_pos hlt]
          go_ret
          exact ⟨by rw [hm]; rfl, hfin hb2 hb3⟩
        · rename_i hlt
          have hm : mayF R v l = 0 := by rw [mayF, if_neg (by omega), if_neg hva, if_neg hcv', if_neg hlt]
          go_ret
          exact ⟨by rw [hm]; rfl, hfin hb2 hb3⟩
  · have hv : isNode R v = false := by simpa using hv
    rw [hv] at hstr
    have hm : mayF R v l = 2 := by rw [mayF, if_neg (by omega), if_pos (by rw [hv, Bool.false_and])]
    gi_wp2_with (first
        | (gi_at_call 89; refine hstr.mono ?_; rintro e w' ⟨rfl, rfl⟩)
        | (gi_at_call 90; refine hany.mono ?_; rintro e w' ⟨rfl, rfl⟩)
        | (gi_at_call 57; refine hcon.mono ?_; rintro e w' ⟨rfl, rfl⟩))
    go_ret
    exact ⟨by rw [hm]; rfl, hB0⟩
end
end Go.Proofs.Ytojflfogjkajaaa.Gr
end
