/-
  graph.Readers.
-/
import Derived.Test.YtojflfogjkajaaaItr
namespace Go.Proofs.Ytojflfogjkajaaa.Gr
open Go Go.RowKit Go.Shelf Go.Proofs
attribute [local go_sem] Oper.semAt_some
theorem sorts (m : Nat) : AnyZI.SortsIn Try.prog itr Fence.wide m :=
  ⟨fun blk off cap ss W hH hblk hlen => callsIn_wide.2 (Try.slices_Sort_int blk off cap ss W hH hblk hlen), fun p cap W => callsIn_wide.2 (Try.slices_Sort_int_none p cap W)⟩
theorem keys_mapOf (l : List Int) : intKeys (Vm.mapOf l) = l := by
  simp [intKeys, Vm.mapOf, Function.comp_def, Go.intOf]
theorem readers_sorted (R : Vm.GI) (i : Nat) : (Vm.readersF R i).Pairwise (· < ·) := by
  unfold Vm.readersF
  rw [List.pairwise_map]
  exact (List.Pairwise.filter _ List.pairwise_lt_range).imp (by intro a b h; omega)
theorem sorted_of_perm {l m : List Int} (hl : l.Pairwise (· < ·)) (h : m.Perm l) : (m.mergeSort fun x y => decide (x ≤ y)) = l := by
  have h1 := List.mergeSort_perm m (fun x y => decide (x ≤ y))
  have h2 : (m.mergeSort fun x y => decide (x ≤ y)).Pairwise (fun x y => decide (x ≤ y) = true) := List.pairwise_mergeSort (by intro a b c; simp; omega) (by intro a b; simp; omega) m
  refine List.Perm.eq_of_pairwise (le := fun x y => decide (x ≤ y)) ?_ h2 (hl.imp (by intro a b h; simp; omega)) (h1.trans h)
  intro a b _ _ p q
  simp at p q
  omega
theorem keys_sorted {w : World} {S : Nat → Prop} {u : Value} {l : List Int} (h : Vm.MAt w S u l) (hl : l.Pairwise (· < ·)) (hlen : l.length ≤ 1000000000) : ∃ mb, u = .map mb ∧ ∀ n, 6 ≤ n →
    CallsIn Fence.wide n Try.prog 59 #[.func (.func 88) #[] #[.pointer (some ⟨w.heap.size, 0, none⟩)]] (w.alloc (.cells #[.map mb] 87)) fun e w' =>
      ∃ v, e = .returned v ∧ w'.ownsRow (w.alloc (.cells #[.map mb] 87)).heap.size 3 1 v l.length (l.map (Value.int .i64)) ∧ Below (w.alloc (.cells #[.map mb] 87)).heap.size (w.alloc (.cells #[.map mb] 87)) w' := by
  have e9 : ∀ args w, (callFunc (itr.f 9) args).run Try.prog w = .ok (.enter (itr.f 9) args) w := enters_of Try.func78 (by kernel_rfl) rfl
  have eg : ∀ args w, (callFunc 88 args).run Try.prog w = .ok (.enter 88 args) w := enters_of Try.func88 (by kernel_rfl) rfl
  rcases h with ⟨rfl, rfl⟩ | ⟨mb, rfl, hS, hown⟩
  · refine ⟨none, rfl, fun n hn => ?_⟩
    refine (AnyZI.sorted_in lays6 Fence.wide n trivial trivial trivial trivial rfl (by omega) (sorts _) e9 88 _ trivial eg _ 0 (by unfold maxLen; omega) (by omega) _
      (AnyZI.keys_gives_nil lays10 Fence.wide (n - 1 - 1 - 1) trivial rfl w.heap.size _ (by simp) (by rw [World.cell?_alloc_at _ _ _ _ rfl]; rfl))).mono ?_
    rintro e w' ⟨v, ss, rfl, rfl, h1, _, h2⟩
    rw [List.mergeSort_nil] at h1
    exact ⟨v, rfl, h1, h2⟩
  · refine ⟨some mb, rfl, fun n hn => ?_⟩
    refine (AnyZI.sorted_in lays6 Fence.wide n trivial trivial trivial trivial rfl (by omega) (sorts _) e9 88 _ trivial eg _ _ ?_ ?_ _
      (AnyZI.keys_gives lays10 Fence.wide (n - 1 - 1 - 1) trivial rfl (by omega) w.heap.size mb _ _ _ (by simp) (by rw [World.cell?_alloc_at _ _ _ _ rfl]; rfl) (hown.alloc _))).mono ?_
    · simp only [Maps.size, Vm.mapOf, List.length_map]; unfold maxLen; omega
    · simp only [Maps.size, Vm.mapOf, List.length_map]; omega
    rintro e w' ⟨v, ss, rfl, hp, h1, _, h2⟩
    rw [keys_mapOf] at hp
    rw [sorted_of_perm hl hp] at h1
    refine ⟨v, rfl, ?_, h2⟩
    rw [hp.length_eq] at h1
    exact h1
theorem rd_len (R : Vm.GI) (h : R.length ≤ 20000) (i : Nat) : (Vm.readersF R i).length ≤ 1000000000 := by
  unfold Vm.readersF
  rw [List.length_map]
  have := List.length_filter_le (fun v => (R.getD v []).contains (i : Int)) (List.range R.length)
  rw [List.length_range] at this
  omega
section
variable (b : Nat) (S : Nat → Prop) (R : Vm.GI) (w : World)
set_option maxRecDepth 100000
set_option maxHeartbeats 1000000
theorem readers_in (n : Nat) (hn : 8 ≤ n) (v : Int) (h : Vm.GraphAt R w b S) :
    CallsIn Fence.wide n Try.prog 24 #[.pointer (some ⟨b, 0, none⟩), .int .i64 v] w fun e w' => ∃ u, e = .returned u ∧ w'.ownsRow w.heap.size 3 1 u (rdsF R v).length ((rdsF R v).map (Value.int .i64)) ∧ Below w.heap.size w w' := by
  have hg := h
  obtain ⟨h1, h2, br, cr, bm, cm, csr, csm, t1, t2, t3, t4, t5, t6, t7, t8, t9, t10⟩ := h
  have c1 := cell_of t1 1
  simp only [List.getElem?_toArray, List.getElem?_cons_zero, List.getElem?_cons_succ] at c1
  have hn1 : 1 ≤ n := by omega
  have hf1 : Fence.wide.fn 56 := trivial
  have hf2 : Fence.wide.fn 60 := trivial
  have hf3 : Fence.wide.fn 59 := trivial
  refine callsIn_of_wp Try.func24 rfl trivial ?_ rfl
  simp only [Try.ntmps24, List.size_toArray, List.length_cons, List.length_nil, Nat.reduceAdd, Nat.reduceSub, Array.replicate_succ, Array.replicate_zero, List.push_toArray, List.append_toArray, List.nil_append, List.cons_append]
  by_cases hv : 0 ≤ v ∧ v < R.length
  · obtain ⟨u, k1, k2⟩ := t9 v.toNat (by omega)
    have hcv : w.cell? ⟨bm, v.toNat, none⟩ = some u := by rw [cell_of t5]; exact k1
    obtain ⟨mb, rfl, hs⟩ := keys_sorted k2 (readers_sorted R _) (rd_len R h1.1 _)
    have hB0 : Below w.heap.size w (w.alloc (.cells #[.map mb] 87)) := (Below.refl _ w).alloc (Nat.le_refl _) _
    have hk : CallsIn Fence.wide (n - 1) Try.prog 60 #[.map mb] w fun e w' => e = .returned (.func (.func 88) #[] #[.pointer (some ⟨w.heap.size, 0, none⟩)]) ∧ w' = w.alloc (.cells #[.map mb] 87) := AnyZI.keys_in lays7 Fence.wide (n - 1) trivial rfl mb w
    gi_wp2_with (first
      | (gi_at_call 56; refine (node_in b S R w (n - 1) v hg).mono ?_; rintro e w' ⟨rfl, rfl⟩)
      | (gi_at_call 60; refine hk.mono ?_; rintro e w' ⟨rfl, rfl⟩)
      | (gi_at_call 59; refine (hs (n - 1) (by omega)).mono ?_; rintro e w' ⟨v', rfl, ho, hb⟩))
    go_ret
    refine ⟨_, rfl, ?_, hB0.trans (hb.mono (by simp))⟩
    rw [rdsF, if_pos hv]
    exact ho.mono (by simp)
  · gi_wp2_with (first
      | (gi_at_call 56; refine (node_in b S R w (n - 1) v hg).mono ?_; rintro e w' ⟨rfl, rfl⟩))
    go_ret
    refine ⟨_, rfl, ?_, Below.refl _ _⟩
    rw [rdsF, if_neg hv]
    exact World.ownsRow_nil _ _ _ _
end
end Go.Proofs.Ytojflfogjkajaaa.Gr
