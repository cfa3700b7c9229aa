/-
  graph.New.
-/
import Derived.Deep.OwnRows
import Derived.Test.YtojflfogjkajaaaGr3
namespace Go.Proofs.Ytojflfogjkajaaa.Gr
open Go Go.RowKit Go.Shelf Go.Proofs
attribute [local go_sem] Oper.semAt_some

theorem heap_up {W : World} {b : Nat} {x : _root_.Go.Obj} (o : _root_.Go.Obj) (h : W.heap[b]? = some x) : (W.alloc o).heap[b]? = some x := (Below.heap_alloc W o b (Array.getElem?_eq_some_iff.1 h).1).trans h
theorem made (z : Value) (n : Nat) : madeCells #[z] n = Array.replicate n z := by
  apply Array.ext'
  simp only [madeCells]
  apply List.ext_getElem?
  intro i
  by_cases hi : i < n
  · simp [hi, Nat.mod_one]
  · simp [hi]
theorem make27 (m : Int) (hm : 1 ≤ m ∧ m ≤ 20000) (W : World) : (Instr.makeSlice 27 (.int .i64 m) (.int .i64 m)).run Try.prog W = .ok (.slice (some ⟨W.heap.size, 0, none⟩) m.toNat m.toNat) (W.alloc (.cells (Array.replicate m.toNat (.slice none 0 0)) 36)) := by
  have := run_make_row' (P := Try.prog) 27 36 (.slice none 0 0) 24 Try.underlying27 (by kernel_rfl) rfl .i64 .i64 m.toNat (by omega) (by omega) W
  rwa [Int.toNat_of_nonneg (by omega), made] at this
theorem make79 (m : Int) (hm : 1 ≤ m ∧ m ≤ 20000) (W : World) : (Instr.makeSlice 79 (.int .i64 m) (.int .i64 m)).run Try.prog W = .ok (.slice (some ⟨W.heap.size, 0, none⟩) m.toNat m.toNat) (W.alloc (.cells (Array.replicate m.toNat (.map none)) 87)) := by
  have := run_make_row' (P := Try.prog) 79 87 (.map none) 8 Try.underlying79 (by kernel_rfl) rfl .i64 .i64 m.toNat (by omega) (by omega) W
  rwa [Int.toNat_of_nonneg (by omega), made] at this
theorem edges_none : ∀ n : Nat, Vm.edgesF (List.replicate n []) = 0
  | 0 => rfl
  | n + 1 => by
    have := edges_none n
    simp only [Vm.edgesF, List.replicate_succ, List.map_cons, List.sum_cons, List.length_nil] at this ⊢
    omega
theorem readers_none (n i : Nat) : Vm.readersF (List.replicate n []) i = [] := by
  unfold Vm.readersF
  rw [List.map_eq_nil_iff, List.filter_eq_nil_iff]
  intro v _
  rw [List.getD_eq_getElem?_getD, List.getElem?_replicate]
  split <;> simp
theorem gok_none (n : Nat) (h : n ≤ 20000) : Vm.GOk (List.replicate n []) := by
  refine ⟨by simpa using h, fun v l hl => ?_⟩
  rw [List.getElem?_replicate] at hl
  split at hl
  · cases hl
    exact ⟨List.nodup_nil, fun x hx => by cases hx⟩
  · cases hl
theorem graph_new {n : Nat} (hn : n ≤ 20000) {W : World} {b br bm : Nat} (h1 : W.heap[b]? = some (.cells #[.slice (some ⟨br, 0, none⟩) n n, .slice (some ⟨bm, 0, none⟩) n n, .int .i64 0] 81 (0, 0)))
    (h2 : W.heap[br]? = some (.cells (Array.replicate n (.slice none 0 0)) 36 (0, 0))) (h3 : W.heap[bm]? = some (.cells (Array.replicate n (.map none)) 87 (0, 0))) : Vm.GraphAt (List.replicate n []) W b (fun c => c = br ∨ c = bm) := by
  refine ⟨gok_none n hn, fun c hc => ?_, br, n, bm, n, _, _, ?_, .inl rfl, .inr rfl, h2, h3, by simp, by simp, fun v l hl => ?_, fun i hi => ?_, fun i j mb _ _ hi _ => ?_⟩
  · rcases hc with rfl | rfl
    · exact (Array.getElem?_eq_some_iff.1 h2).1
    · exact (Array.getElem?_eq_some_iff.1 h3).1
  · rw [h1, edges_none, List.length_replicate]
  · rw [List.getElem?_replicate] at hl
    split at hl
    · rename_i hv
      cases hl
      refine ⟨.slice none 0 0, by simp [hv], none, 0, rfl, Nat.le_refl _, fun h => absurd h (Nat.lt_irrefl _)⟩
    · cases hl
  · rw [List.length_replicate] at hi
    exact ⟨.map none, by simp [hi], .inl ⟨rfl, readers_none n i⟩⟩
  · rw [Array.getElem?_replicate] at hi
    split at hi <;> cases hi
set_option maxRecDepth 100000 in
set_option maxHeartbeats 1000000 in
theorem new_in (n : Nat) (m : Int) (hm : 1 ≤ m ∧ m ≤ 20000) (w : World) :
    CallsIn Fence.wide n Try.prog 26 #[.int .i64 m] w fun e w' => ∃ b S, e = .returned (.tuple #[.pointer (some ⟨b, 0, none⟩), .int .i64 0]) ∧ Vm.GraphAt (List.replicate m.toNat []) w' b S ∧ (∀ c, c = b ∨ S c → w.heap.size ≤ c) ∧ Below w.heap.size w w' := by
  refine callsIn_of_wp Try.func26 rfl trivial ?_ rfl
  simp only [Try.ntmps26, List.size_toArray, List.length_cons, List.length_nil, Nat.reduceAdd, Nat.reduceSub, Array.replicate_succ, Array.replicate_zero, List.push_toArray, List.append_toArray, List.nil_append, List.cons_append]
  have hm1 := make27 m hm
  have hm2 := make79 m hm
  gi_wp2
  gi_region
  · gi_wp2
    go_ret2
    have k0 := World.alloc_heap_new w (.cells (Array.replicate m.toNat (.slice none 0 0)) 36)
    have k1 := World.alloc_heap_new (w.alloc (.cells (Array.replicate m.toNat (.slice none 0 0)) 36)) (.cells (Array.replicate m.toNat (.map none)) 87)
    have k2 := World.alloc_heap_new ((w.alloc (.cells (Array.replicate m.toNat (.slice none 0 0)) 36)).alloc (.cells (Array.replicate m.toNat (.map none)) 87)) (.cells #[.slice (some ⟨w.heap.size, 0, none⟩) m.toNat m.toNat, .slice (some ⟨w.heap.size + 1, 0, none⟩) m.toNat m.toNat, .int .i64 0] 81)
    simp only [World.size_alloc] at k1 k2
    exact ⟨w.heap.size + 1 + 1, _, rfl, graph_new (by omega) (W := World.drew _) k2 (heap_up _ (heap_up _ k0)) (heap_up _ k1), by rintro c (rfl | rfl | rfl) <;> omega,
      ((((Below.refl _ w).alloc (Nat.le_refl _) _).alloc (by simp) _).alloc (by simp; omega) _).drew⟩
  · gi_wp2
    go_ret2
    have k0 := World.alloc_heap_new w (.cells (Array.replicate m.toNat (.map none)) 87)
    have k1 := World.alloc_heap_new (w.alloc (.cells (Array.replicate m.toNat (.map none)) 87)) (.cells (Array.replicate m.toNat (.slice none 0 0)) 36)
    have k2 := World.alloc_heap_new ((w.alloc (.cells (Array.replicate m.toNat (.map none)) 87)).alloc (.cells (Array.replicate m.toNat (.slice none 0 0)) 36)) (.cells #[.slice (some ⟨w.heap.size + 1, 0, none⟩) m.toNat m.toNat, .slice (some ⟨w.heap.size, 0, none⟩) m.toNat m.toNat, .int .i64 0] 81)
    simp only [World.size_alloc] at k1 k2
    exact ⟨w.heap.size + 1 + 1, _, rfl, graph_new (by omega) (W := World.drew _) k2 (heap_up _ k1) (heap_up _ (heap_up _ k0)), by rintro c (rfl | rfl | rfl) <;> omega,
      ((((Below.refl _ w).alloc (Nat.le_refl _) _).alloc (by simp) _).alloc (by simp; omega) _).drew⟩

end Go.Proofs.Ytojflfogjkajaaa.Gr
