/-
  journal.Each's closure: the lines, one by one: a range over a function: its contract.
-/
import Derived.RangeFuncNested
import Derived.RangeFuncBound
import Derived.RangeFuncCalls
import Derived.RangeFuncLeaves
import Derived.Shelf.Abstract
import Derived.Shelf.RegionOpen
import Derived.WalkKit
import Derived.OwnWalkIn
import Derived.TacticsInMore
import Derived.LoopNIn
import Derived.LoopIn
import Derived.Test.YtgjpehgnagfghaaGreatBks7
namespace Go.Proofs.YtgjpehgnagfghaaGreat.Bks
open Go Go.RowKit Go.Shelf Go.Proofs
attribute [local go_sem] Oper.semAt_some
def LinesAt (n₀ : Nat) (W : World) (v : Value) (L : List Ln) : Prop :=
  ∃ A cap, v = .slice A L.length cap ∧ (0 < L.length → ∃ b o, A = some ⟨b, o, none⟩ ∧ b < n₀ ∧ ∀ (k : Nat) x, L[k]? = some x → W.cell? ⟨b, o + k * 4, none⟩ = some (.int .i64 x.1) ∧ W.cell? ⟨b, o + k * 4 + 1, none⟩ = some (.int .i64 x.2.1) ∧ W.cell? ⟨b, o + k * 4 + 2, none⟩ = some (.int .i64 x.2.2.1) ∧ W.cell? ⟨b, o + k * 4 + 3, none⟩ = some (.int .i64 x.2.2.2))
def EntsAt (n₀ : Nat) (W : World) (v : Value) (N : List En) : Prop :=
  ∃ A cap, v = .slice A N.length cap ∧ (0 < N.length → ∃ b o, A = some ⟨b, o, none⟩ ∧ b < n₀ ∧ ∀ (j : Nat) x, N[j]? = some x → W.cell? ⟨b, o + j * 3, none⟩ = some (.int .i64 x.1) ∧ W.cell? ⟨b, o + j * 3 + 1, none⟩ = some (.int .i64 x.2.1) ∧ ∃ u, W.cell? ⟨b, o + j * 3 + 2, none⟩ = some u ∧ LinesAt n₀ W u x.2.2)
theorem cell_up {W : World} {a : Addr} {v : Value} (o : _root_.Go.Obj) (h : W.cell? a = some v) : (W.alloc o).cell? a = some v := cell_kept h (World.grownBy_alloc W o none) (fun r e => by cases e)
theorem cell_past {W : World} {b k : Nat} (h : W.heap.size ≤ b) : W.cell? ⟨b, k, none⟩ = none := by
  simp [World.cell?, Array.getElem?_eq_none h]
def Kc (n₀ n₁ : Nat) (W W' : World) : Prop := W.heap.size ≤ W'.heap.size ∧ (∀ b, b < n₀ → ∀ k v, W.cell? ⟨b, k, none⟩ = some v → W'.cell? ⟨b, k, none⟩ = some v) ∧
  ∀ b, n₁ ≤ b → ∀ cur t f, t ≠ 63 → W.heap[b]? = some (.cells cur t f) → W'.heap[b]? = some (.cells cur t f)
theorem Kc.refl (n₀ n₁ : Nat) (W : World) : Kc n₀ n₁ W W := ⟨Nat.le_refl _, fun _ _ _ _ h => h, fun _ _ _ _ _ _ h => h⟩
theorem Kc.trans {n₀ n₁ : Nat} {A B C : World} (h : Kc n₀ n₁ A B) (g : Kc n₀ n₁ B C) : Kc n₀ n₁ A C := ⟨Nat.le_trans h.1 g.1, fun b hb k v e => g.2.1 b hb k v (h.2.1 b hb k v e), fun b hb cur t f ht e => g.2.2 b hb cur t f ht (h.2.2 b hb cur t f ht e)⟩
theorem Kc.low {n₀ n₁ : Nat} {A B : World} (h : Kc n₀ n₁ A B) {b k : Nat} {v : Value} (hb : b < n₀) (e : A.cell? ⟨b, k, none⟩ = some v) : B.cell? ⟨b, k, none⟩ = some v := h.2.1 b hb k v e
theorem heap_up {W : World} {b : Nat} {x : _root_.Go.Obj} (o : _root_.Go.Obj) (h : W.heap[b]? = some x) : (W.alloc o).heap[b]? = some x := (Below.heap_alloc W o b (Array.getElem?_eq_some_iff.1 h).1).trans h
theorem Kc.alloc {n₀ n₁ : Nat} {A B : World} (h : Kc n₀ n₁ A B) (os : _root_.Go.Obj) : Kc n₀ n₁ A (B.alloc os) := ⟨by have := h.1; simp; omega, fun b hb k v e => cell_up _ (h.2.1 b hb k v e), fun b hb cur t f ht e => heap_up _ (h.2.2 b hb cur t f ht e)⟩
def OwnBx (W : World) (b : Nat) (v : Value) : Prop := ∃ cur t f, t ≠ 63 ∧ W.heap[b]? = some (.cells cur t f) ∧ W.cell? ⟨b, 0, none⟩ = some v
theorem OwnBx.up {W : World} {b : Nat} {v : Value} (o : _root_.Go.Obj) : OwnBx W b v → OwnBx (W.alloc o) b v := fun ⟨cur, t, f, h1, h2, h3⟩ => ⟨cur, t, f, h1, heap_up _ h2, cell_up _ h3⟩
theorem OwnBx.kept {n₀ n₁ : Nat} {A B : World} {b : Nat} {v : Value} (h : Kc n₀ n₁ A B) (hb : n₁ ≤ b) : OwnBx A b v → OwnBx B b v := fun ⟨cur, t, f, h1, h2, h3⟩ => by
  have e := h.2.2 b hb cur t f h1 h2
  refine ⟨cur, t, f, h1, e, ?_⟩
  simp only [World.cell?, e, h2] at h3 ⊢
  exact h3
theorem LinesAt.keep {n₀ n₁ : Nat} {A B : World} (h : Kc n₀ n₁ A B) {v : Value} {L : List Ln} : LinesAt n₀ A v L → LinesAt n₀ B v L := by
  rintro ⟨p, cap, e, hc⟩
  refine ⟨p, cap, e, fun h0 => ?_⟩
  obtain ⟨b, o, e2, hb, hx⟩ := hc h0
  refine ⟨b, o, e2, hb, fun k x hk => ?_⟩
  obtain ⟨a1, a2, a3, a4⟩ := hx k x hk
  exact ⟨h.low hb a1, h.low hb a2, h.low hb a3, h.low hb a4⟩
theorem EntsAt.keep {n₀ n₁ : Nat} {A B : World} (h : Kc n₀ n₁ A B) {v : Value} {N : List En} : EntsAt n₀ A v N → EntsAt n₀ B v N := by
  rintro ⟨p, cap, e, hc⟩
  refine ⟨p, cap, e, fun h0 => ?_⟩
  obtain ⟨b, o, e2, hb, hx⟩ := hc h0
  refine ⟨b, o, e2, hb, fun k x hk => ?_⟩
  obtain ⟨a1, a2, u, a3, a4⟩ := hx k x hk
  exact ⟨h.low hb a1, h.low hb a2, u, h.low hb a3, a4.keep h⟩
abbrev encP (x : Po) : Array Value := #[.agg #[.int .i64 x.1, .int .i64 x.2.1, .int .i64 x.2.2.1, .int .i64 x.2.2.2.1, .int .i64 x.2.2.2.2.1, .int .i64 x.2.2.2.2.2.1, .int .i64 x.2.2.2.2.2.2]]
set_option maxRecDepth 100000 in
set_option maxHeartbeats 4000000 in
theorem each1_in (F : Fence) (n : Nat) (hf : F.fn 93) (hro : F.round = none) (hn : 1 ≤ n) (l Bn n₀ n₁ : Nat) (v : Value) (N : List En) (hN : N.length ≤ 1000000) (hi : InE N) (J Jx : List Po → World → Prop)
    (hY : ∀ pre x W, J pre W → pre.length < (linesF N).length → YieldAt F (n - 1) Tryz.prog l (encP x) W fun e W' =>
      (e = .returned (.bool true) ∧ J (pre ++ [x]) W' ∧ Kc n₀ n₁ W W') ∨ (e = .returned (.bool false) ∧ Jx (pre ++ [x]) W'))
    (hJ : ∀ ps W os, n₁ ≤ W.heap.size → J ps W → J ps (W.alloc os))
    (W : World) (h1 : n₁ ≤ W.heap.size) (h01 : n₀ ≤ n₁) (hBn : W.cell? ⟨Bn, 0, none⟩ = some v) (hL : EntsAt n₀ W v N) (h0 : J [] W) :
    CallsIn F n Tryz.prog 93 #[.func (.yield l) #[] #[], .pointer (some ⟨Bn, 0, none⟩)] W fun e W' => (∃ v, e = .returned v) ∧
      ((∃ ys, ys = linesF N ∧ J ys W') ∨ (∃ pre, pre <+: linesF N ∧ Jx pre W')) := by
  refine callsIn_of_wp Tryz.func93 rfl hf ?_ hro
  simp only [Tryz.ntmps93, List.size_toArray, List.length_cons, List.length_nil, Nat.reduceAdd, Nat.reduceSub, Array.replicate_succ, Array.replicate_zero, List.push_toArray, List.append_toArray, List.nil_append, List.cons_append]
  obtain ⟨A, cap, rfl, hc⟩ := hL
  gi_wp2
  gi_loopw [3, 10] (fun id i wr => ∃ (j : Nat) (pre : List Po), j ≤ N.length ∧ i = .int .i64 j ∧ id = .int .i64 pre.length ∧ pre.length ≤ 1000 * j ∧ linesF N = pre ++ poGo (N.drop j) j pre.length ∧ J pre wr ∧ Kc n₀ n₁ W wr)
    (fun _ i _ => N.length - (intOf i).toNat)
  case atStart =>
    exact ⟨0, [], Nat.zero_le _, rfl, rfl, Nat.zero_le _, rfl, h0, Kc.refl _ _ _⟩
  case round =>
    obtain ⟨j, pre, hj, rfl, rfl, hpl, hlin, hJs, hk⟩ := hrel
    by_cases hlt : j < N.length
    · obtain ⟨b, o, rfl, hb, hx⟩ := hc (by omega)
      have hnj : N[j]? = some N[j] := List.getElem?_eq_getElem hlt
      generalize N[j] = x at hnj
      obtain ⟨c1, c2, u, c3, hln⟩ := hx j x hnj
      obtain ⟨A2, cap2, rfl, hc2⟩ := hln
      replace c1 := hk.low hb c1
      replace c2 := hk.low hb c2
      replace c3 := hk.low hb c3
      have hxn := (ine_at hi hnj).2
      have hw1 : n₁ ≤ wr.heap.size := Nat.le_trans h1 hk.1
      gi_wp2
      gi_loopw [3, 18] (fun id k wq => ∃ (m : Nat) (pr : List Po), m ≤ x.2.2.length ∧ k = .int .i64 m ∧ id = .int .i64 pr.length ∧ pr.length ≤ 1000 * j + m ∧ linesF N = pr ++ (lnGo x.1 j (x.2.2.drop m) pr.length ++ poGo (N.drop (j + 1)) (j + 1) (pr.length + (x.2.2.length - m))) ∧ J pr wq ∧ Kc n₀ n₁ W wq ∧ OwnBx wq wr.heap.size (.int .i64 x.1))
        (fun _ k _ => x.2.2.length - (intOf k).toNat)
      case atStart =>
        refine ⟨0, pre, Nat.zero_le _, rfl, rfl, by omega, ?_, hJ _ _ _ hw1 hJs, hk.alloc _, ?_⟩
        · rw [hlin]
          have := po_next (N := N) (i := (j : Int)) (n := pre.length) (by omega) hnj
          rw [Int.toNat_natCast] at this
          rw [this, show ((j : Int) + 1).toNat = j + 1 by omega]
          rfl
        · exact ⟨_, _, _, by decide, World.alloc_heap_new _ _, by rw [World.cell?_alloc_at _ _ _ _ rfl]; rfl⟩
      case round =>
        obtain ⟨m, pr, hm, rfl, rfl, hpl2, hlin2, hJ2, hk2, hbx⟩ := hrel
        obtain ⟨cur0, t0, f0, _, _, hcp⟩ := id hbx
        by_cases hlt2 : m < x.2.2.length
        · have hnm : x.2.2[m]? = some x.2.2[m] := List.getElem?_eq_getElem hlt2
          generalize x.2.2[m] = y at hnm
          obtain ⟨b2, o2, rfl, hb2, hx2⟩ := hc2 (by omega)
          obtain ⟨d1, d2, d3, d4⟩ := hx2 m y hnm
          replace d1 := hk2.low hb2 d1
          replace d2 := hk2.low hb2 d2
          replace d3 := hk2.low hb2 d3
          replace d4 := hk2.low hb2 d4
          have hstep := ln_next (p := x.1) (i := (j : Int)) (k := (m : Int)) (n := pr.length) (by omega) hnm
          rw [Int.toNat_natCast, show ((m : Int) + 1).toNat = m + 1 by omega] at hstep
          have hlen : pr.length < (linesF N).length := by
            rw [hlin2, hstep]
            simp only [List.length_append, List.length_cons]
            omega
          obtain ⟨fn, tmps, assign, body, hy, hR⟩ := hY pr ((pr.length : Int) + 1, (j : Int) + 1, x.1, y) _ (hJ pr _ (.cells #[.int .i64 y.1, .int .i64 y.2.1, .int .i64 y.2.2.1, .int .i64 y.2.2.2] 55) (Nat.le_trans h1 hk2.1) hJ2) hlen
          have hcp2 := cell_up (.cells #[.int .i64 y.1, .int .i64 y.2.1, .int .i64 y.2.2.1, .int .i64 y.2.2.2] 55) hcp
          try dsimp only [encP] at hy
          gi_wp2
          refine hR.mono ?_
          rintro e W3 (⟨rfl, hJ3, hk3⟩ | ⟨rfl, hJx3⟩)
          · gi_wp2
            refine ⟨⟨m + 1, pr ++ [((pr.length : Int) + 1, (j : Int) + 1, x.1, y)], by omega, by simp, by simp, by simp; omega, ?_, hJ3, (hk2.alloc _).trans hk3, (hbx.up _).kept hk3 hw1⟩, by simp [intOf]; omega⟩
            rw [hlin2, hstep, List.length_append, List.length_singleton, List.append_assoc, show pr.length + 1 + (x.2.2.length - (m + 1)) = pr.length + (x.2.2.length - m) by omega]
            rfl
          · gi_wp2
            refine bodyPost_ret (results_none rfl _ _ _) rfl ?_
            refine ⟨⟨_, rfl⟩, .inr ⟨pr ++ [((pr.length : Int) + 1, (j : Int) + 1, x.1, y)], ⟨lnGo x.1 j (x.2.2.drop (m + 1)) (pr.length + 1) ++ poGo (N.drop (j + 1)) (j + 1) (pr.length + (x.2.2.length - m)), ?_⟩, hJx3⟩⟩
            rw [hlin2, hstep, List.append_assoc]
            rfl
        · obtain rfl : m = x.2.2.length := by omega
          gi_wp2
          refine ⟨⟨j + 1, pr, by omega, by simp, rfl, by omega, ?_, hJ2, hk2⟩, by simp [intOf]; omega⟩
          rw [hlin2, List.drop_length, lnGo, List.nil_append, Nat.sub_self, Nat.add_zero]
          simp
    · obtain rfl : j = N.length := by omega
      gi_wp2
      go_end0
      refine ⟨⟨_, rfl⟩, .inl ⟨pre, ?_, hJs⟩⟩
      rw [hlin, List.drop_length]
      exact (List.append_nil _).symm
theorem each_stops (F : Fence) (n : Nat) (hf : F.fn 93) (hro : F.round = none) (hn : 1 ≤ n) (Bn n₀ : Nat) (v : Value) (N : List En) (hN : N.length ≤ 1000000) (hi : InE N) (w : World) (hBn : Bn < w.heap.size) (hn₀ : n₀ ≤ w.heap.size)
    (hc : w.cell? ⟨Bn, 0, none⟩ = some v) (hL : EntsAt n₀ w v N) :
    SeqStopsK F n Tryz.prog 93 #[.pointer (some ⟨Bn, 0, none⟩)] encP (Kc n₀ w.heap.size) (fun ys => ys = linesF N) (fun pre => pre <+: linesF N) (linesF N).length w := fun l J Jx W hW hJ _ hY h0 => by
  have hK : Kc n₀ w.heap.size w W := ⟨hW.size, fun b hb k v h => (by
    rcases Nat.lt_or_ge b w.heap.size with hlt | hge
    · exact (hW.cell (p := ⟨b, k, none⟩) hlt).trans h
    · rw [cell_past hge] at h; cases h), fun b hb cur t f _ h => absurd (Array.getElem?_eq_some_iff.1 h).1 (Nat.not_lt.2 hb)⟩
  exact each1_in F n hf hro hn l Bn n₀ w.heap.size v N hN hi J Jx hY (fun ps W' os _ h => hJ ps _ _ none h (World.grownBy_alloc W' os none) (fun r e => by cases e)) W hW.size hn₀ ((hW.cell (p := ⟨Bn, 0, none⟩) hBn).trans hc) (hL.keep hK) h0
set_option maxHeartbeats 1000000 in
theorem each_in (F : Fence) (n : Nat) (hf : F.fn 42) (hro : F.round = none) (A : Option Addr) (len cap : Nat) (w : World) :
    CallsIn F n Tryz.prog 42 #[.slice A len cap] w fun e w' => e = .returned (.func (.func 93) #[] #[.pointer (some ⟨w.heap.size, 0, none⟩)]) ∧ w' = w.alloc (.cells #[.slice A len cap] 27) := by
  refine callsIn_of_wp Tryz.func42 rfl hf ?_ hro
  simp only [Tryz.ntmps42, List.size_toArray, List.length_cons, List.length_nil, Nat.reduceAdd, Nat.reduceSub, Array.replicate_succ, Array.replicate_zero, List.push_toArray, List.append_toArray, List.nil_append, List.cons_append]
  gi_wp2
  go_ret
  exact ⟨rfl, rfl⟩
end Go.Proofs.YtgjpehgnagfghaaGreat.Bks
