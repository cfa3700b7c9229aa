/-
  journal.Each's closure: the lines, one by one: a range over a function: its contract.
-/
import Derived.RangeFuncNested
import Derived.RangeFuncBound
import Derived.RangeFuncCalls
import Derived.RangeFuncLeaves
import Derived.Shelf.Abstract
import Derived.Shelf.RegionOpen
import Derived.WalkKit
import Derived.OwnWalkIn
import Derived.TacticsInMore
import Derived.LoopNIn
import Derived.LoopIn
import Derived.Test.YteaajihmfacinaaTa4
namespace Go.Proofs.Yteaajihmfacinaa.Ta
open Go Go.RowKit Go.Shelf Go.Proofs
open Go.Vm (Sp Rw GrpAt gblk rwC inC)
attribute [local go_sem] Oper.semAt_some
abbrev Po := Int × Int × Int × Ln
def lnGo (p i : Int) : List Ln → Nat → List Po
  | [], _ => []
  | x :: r, k => (((k + 1 : Nat) : Int), i + 1, p, x) :: lnGo p i r (k + 1)
def poGo : List En → Int → Nat → List Po
  | [], _, _ => []
  | x :: r, i, k => lnGo x.1 i x.2.2 k ++ poGo r (i + 1) (k + x.2.2.length)
def linesF (N : List En) : List Po := poGo N 0 0
theorem ln_next {p i k : Int} {L : List Ln} {n : Nat} {x : Ln} (h0 : 0 ≤ k) (hx : L[k.toNat]? = some x) : lnGo p i (L.drop k.toNat) n = (((n + 1 : Nat) : Int), i + 1, p, x) :: lnGo p i (L.drop (k + 1).toNat) (n + 1) := by
  obtain ⟨h1, h2⟩ := List.getElem?_eq_some_iff.1 hx
  rw [List.drop_eq_getElem_cons h1, h2, show (k + 1).toNat = k.toNat + 1 by omega]
  rfl
theorem po_next {N : List En} {i : Int} {n : Nat} {x : En} (h0 : 0 ≤ i) (hx : N[i.toNat]? = some x) : poGo (N.drop i.toNat) i n = lnGo x.1 i x.2.2 n ++ poGo (N.drop (i + 1).toNat) (i + 1) (n + x.2.2.length) := by
  obtain ⟨h1, h2⟩ := List.getElem?_eq_some_iff.1 hx
  rw [List.drop_eq_getElem_cons h1, h2, show (i + 1).toNat = i.toNat + 1 by omega]
  rfl
theorem ln_len (p i : Int) : ∀ (L : List Ln) (k : Nat), (lnGo p i L k).length = L.length
  | [], _ => rfl
  | x :: r, k => by rw [lnGo, List.length_cons, ln_len p i r, List.length_cons]
theorem po_len : ∀ (N : List En) (i : Int) (k : Nat), (poGo N i k).length = (putsL N).length
  | [], _, _ => rfl
  | x :: r, i, k => by
    rw [poGo, List.length_append, ln_len, po_len r]
    simp [putsL, lnP]
theorem lines_len (N : List En) : (linesF N).length = (putsL N).length := po_len N 0 0
def LinesAt (n₀ : Nat) (W : World) (v : Value) (L : List Ln) : Prop :=
  ∃ A cap, v = .slice A L.length cap ∧ (0 < L.length → ∃ b o, A = some ⟨b, o, none⟩ ∧ b < n₀ ∧ ∀ (k : Nat) x, L[k]? = some x → W.cell? ⟨b, o + k * 4, none⟩ = some (.int .i64 x.1) ∧ W.cell? ⟨b, o + k * 4 + 1, none⟩ = some (.int .i64 x.2.1) ∧ W.cell? ⟨b, o + k * 4 + 2, none⟩ = some (.int .i64 x.2.2.1) ∧ W.cell? ⟨b, o + k * 4 + 3, none⟩ = some (.int .i64 x.2.2.2))
def EntsAt (n₀ : Nat) (W : World) (v : Value) (N : List En) : Prop :=
  ∃ A cap, v = .slice A N.length cap ∧ (0 < N.length → ∃ b o, A = some ⟨b, o, none⟩ ∧ b < n₀ ∧ ∀ (j : Nat) x, N[j]? = some x → W.cell? ⟨b, o + j * 3, none⟩ = some (.int .i64 x.1) ∧ W.cell? ⟨b, o + j * 3 + 1, none⟩ = some (.int .i64 x.2.1) ∧ ∃ u, W.cell? ⟨b, o + j * 3 + 2, none⟩ = some u ∧ LinesAt n₀ W u x.2.2)
theorem cell_up {W : World} {a : Addr} {v : Value} (o : _root_.Go.Obj) (h : W.cell? a = some v) : (W.alloc o).cell? a = some v := cell_kept h (World.grownBy_alloc W o none) (fun r e => by cases e)
theorem cell_past {W : World} {b k : Nat} (h : W.heap.size ≤ b) : W.cell? ⟨b, k, none⟩ = none := by
  simp [World.cell?, Array.getElem?_eq_none h]
structure KK (n₀ n₁ : Nat) (K : World → World → Prop) (Fre : World → Nat → Prop) (Wf : World → Prop) : Prop where
  refl : ∀ W, K W W
  trans : ∀ {A B C}, K A B → K B C → K A C
  size : ∀ {A B}, K A B → A.heap.size ≤ B.heap.size
  low : ∀ {A B}, K A B → ∀ {b k : Nat} {v}, b < n₀ → A.cell? ⟨b, k, none⟩ = some v → B.cell? ⟨b, k, none⟩ = some v
  own : ∀ {A B}, K A B → ∀ {b cur t f}, n₁ ≤ b → Fre A b → A.heap[b]? = some (.cells cur t f) → B.heap[b]? = some (.cells cur t f) ∧ Fre B b
  wf : ∀ {A B}, K A B → Wf A → Wf B
  alloc : ∀ {W : World} (o : _root_.Go.Obj), n₁ ≤ W.heap.size → K W (W.alloc o)
  new : ∀ {W : World} (o : _root_.Go.Obj), n₁ ≤ W.heap.size → Wf W → Fre (W.alloc o) W.heap.size
theorem heap_up {W : World} {b : Nat} {x : _root_.Go.Obj} (o : _root_.Go.Obj) (h : W.heap[b]? = some x) : (W.alloc o).heap[b]? = some x := (Below.heap_alloc W o b (Array.getElem?_eq_some_iff.1 h).1).trans h
section
variable {n₀ n₁ : Nat} {K : World → World → Prop} {Fre : World → Nat → Prop} {Wf : World → Prop}
def OwnBx (Fre : World → Nat → Prop) (W : World) (b : Nat) (v : Value) : Prop := Fre W b ∧ ∃ cur t f, W.heap[b]? = some (.cells cur t f) ∧ W.cell? ⟨b, 0, none⟩ = some v
theorem OwnBx.kept (hk : KK n₀ n₁ K Fre Wf) {A B : World} {b : Nat} {v : Value} (h : K A B) (hb : n₁ ≤ b) : OwnBx Fre A b v → OwnBx Fre B b v := fun ⟨hf, cur, t, f, h2, h3⟩ => by
  obtain ⟨e, hf'⟩ := hk.own h hb hf h2
  refine ⟨hf', cur, t, f, e, ?_⟩
  simp only [World.cell?, e, h2] at h3 ⊢
  exact h3
theorem LinesAt.keep (hk : KK n₀ n₁ K Fre Wf) {A B : World} (h : K A B) {v : Value} {L : List Ln} : LinesAt n₀ A v L → LinesAt n₀ B v L := by
  rintro ⟨p, cap, e, hc⟩
  refine ⟨p, cap, e, fun h0 => ?_⟩
  obtain ⟨b, o, e2, hb, hx⟩ := hc h0
  refine ⟨b, o, e2, hb, fun k x hk' => ?_⟩
  obtain ⟨a1, a2, a3, a4⟩ := hx k x hk'
  exact ⟨hk.low h hb a1, hk.low h hb a2, hk.low h hb a3, hk.low h hb a4⟩
theorem EntsAt.keep (hk : KK n₀ n₁ K Fre Wf) {A B : World} (h : K A B) {v : Value} {N : List En} : EntsAt n₀ A v N → EntsAt n₀ B v N := by
  rintro ⟨p, cap, e, hc⟩
  refine ⟨p, cap, e, fun h0 => ?_⟩
  obtain ⟨b, o, e2, hb, hx⟩ := hc h0
  refine ⟨b, o, e2, hb, fun k x hk' => ?_⟩
  obtain ⟨a1, a2, u, a3, a4⟩ := hx k x hk'
  exact ⟨hk.low h hb a1, hk.low h hb a2, u, hk.low h hb a3, a4.keep hk h⟩
abbrev encP (x : Po) : Array Value := #[.agg #[.int .i64 x.1, .int .i64 x.2.1, .int .i64 x.2.2.1, .int .i64 x.2.2.2.1, .int .i64 x.2.2.2.2.1, .int .i64 x.2.2.2.2.2.1, .int .i64 x.2.2.2.2.2.2]]
set_option maxRecDepth 100000 in
set_option maxHeartbeats 4000000 in
theorem each1_in (F : Fence) (n : Nat) (hf : F.fn 59) (hro : F.round = none) (hn : 1 ≤ n) (l Bn : Nat) (v : Value) (N : List En) (hN : N.length ≤ 4611686018427387904) (hT : (linesF N).length ≤ 4611686018427387904) (hkk : KK n₀ n₁ K Fre Wf) (J Jx : List Po → World → Prop)
    (hY : ∀ pre x W, J pre W → pre ++ [x] <+: linesF N → YieldAt F (n - 1) Try.prog l (encP x) W fun e W' =>
      (e = .returned (.bool true) ∧ J (pre ++ [x]) W' ∧ K W W') ∨ (e = .returned (.bool false) ∧ Jx (pre ++ [x]) W'))
    (hJ : ∀ ps W os, n₁ ≤ W.heap.size → J ps W → J ps (W.alloc os))
    (W : World) (hwf : Wf W) (h1 : n₁ ≤ W.heap.size) (h01 : n₀ ≤ n₁) (hBn : W.cell? ⟨Bn, 0, none⟩ = some v) (hL : EntsAt n₀ W v N) (h0 : J [] W) :
    CallsIn F n Try.prog 59 #[.func (.yield l) #[] #[], .pointer (some ⟨Bn, 0, none⟩)] W fun e W' => (∃ v, e = .returned v) ∧
      ((∃ ys, ys = linesF N ∧ J ys W') ∨ (∃ pre, pre <+: linesF N ∧ Jx pre W')) := by
  refine callsIn_of_wp Try.func59 rfl hf ?_ hro
  simp only [Try.ntmps59, List.size_toArray, List.length_cons, List.length_nil, Nat.reduceAdd, Nat.reduceSub, Array.replicate_succ, Array.replicate_zero, List.push_toArray, List.append_toArray, List.nil_append, List.cons_append]
  obtain ⟨A, cap, rfl, hc⟩ := hL
  gi_wp2
  gi_loopw [3, 10] (fun id i wr => ∃ (j : Nat) (pre : List Po), j ≤ N.length ∧ i = .int .i64 j ∧ id = .int .i64 pre.length ∧ pre.length ≤ (linesF N).length ∧ linesF N = pre ++ poGo (N.drop j) j pre.length ∧ J pre wr ∧ K W wr)
    (fun _ i _ => N.length - (intOf i).toNat)
  case atStart =>
    exact ⟨0, [], Nat.zero_le _, rfl, rfl, Nat.zero_le _, rfl, h0, hkk.refl _⟩
  case round =>
    obtain ⟨j, pre, hj, rfl, rfl, hpl, hlin, hJs, hk⟩ := hrel
    by_cases hlt : j < N.length
    · obtain ⟨b, o, rfl, hb, hx⟩ := hc (by omega)
      have hnj : N[j]? = some N[j] := List.getElem?_eq_getElem hlt
      generalize N[j] = x at hnj
      obtain ⟨c1, c2, u, c3, hln⟩ := hx j x hnj
      obtain ⟨A2, cap2, rfl, hc2⟩ := hln
      replace c1 := hkk.low hk hb c1
      replace c2 := hkk.low hk hb c2
      replace c3 := hkk.low hk hb c3
      have hxn : x.2.2.length ≤ (linesF N).length := by
        have hp := po_next (N := N) (i := (j : Int)) (n := pre.length) (by omega) hnj
        rw [Int.toNat_natCast] at hp
        rw [hlin, hp]
        simp only [List.length_append, ln_len]
        omega
      have hw1 : n₁ ≤ wr.heap.size := Nat.le_trans h1 (hkk.size hk)
      gi_wp2
      gi_loopw [3, 18] (fun id k wq => ∃ (m : Nat) (pr : List Po), m ≤ x.2.2.length ∧ k = .int .i64 m ∧ id = .int .i64 pr.length ∧ pr.length ≤ (linesF N).length ∧ linesF N = pr ++ (lnGo x.1 j (x.2.2.drop m) pr.length ++ poGo (N.drop (j + 1)) (j + 1) (pr.length + (x.2.2.length - m))) ∧ J pr wq ∧ K W wq ∧ OwnBx Fre wq wr.heap.size (.int .i64 x.1))
        (fun _ k _ => x.2.2.length - (intOf k).toNat)
      case atStart =>
        refine ⟨0, pre, Nat.zero_le _, rfl, rfl, hpl, ?_, hJ _ _ _ hw1 hJs, hkk.trans hk (hkk.alloc _ hw1), ?_⟩
        · rw [hlin]
          have := po_next (N := N) (i := (j : Int)) (n := pre.length) (by omega) hnj
          rw [Int.toNat_natCast] at this
          rw [this, show ((j : Int) + 1).toNat = j + 1 by omega]
          rfl
        · exact ⟨hkk.new _ hw1 (hkk.wf hk hwf), _, _, _, World.alloc_heap_new _ _, by rw [World.cell?_alloc_at _ _ _ _ rfl]; rfl⟩
      case round =>
        obtain ⟨m, pr, hm, rfl, rfl, hpl2, hlin2, hJ2, hk2, hbx⟩ := hrel
        obtain ⟨_, cur0, t0, f0, _, hcp⟩ := id hbx
        by_cases hlt2 : m < x.2.2.length
        · have hnm : x.2.2[m]? = some x.2.2[m] := List.getElem?_eq_getElem hlt2
          generalize x.2.2[m] = y at hnm
          obtain ⟨b2, o2, rfl, hb2, hx2⟩ := hc2 (by omega)
          obtain ⟨d1, d2, d3, d4⟩ := hx2 m y hnm
          replace d1 := hkk.low hk2 hb2 d1
          replace d2 := hkk.low hk2 hb2 d2
          replace d3 := hkk.low hk2 hb2 d3
          replace d4 := hkk.low hk2 hb2 d4
          have hstep := ln_next (p := x.1) (i := (j : Int)) (k := (m : Int)) (n := pr.length) (by omega) hnm
          rw [Int.toNat_natCast, show ((m : Int) + 1).toNat = m + 1 by omega] at hstep
          have hpx : pr ++ [((pr.length : Int) + 1, (j : Int) + 1, x.1, y)] <+: linesF N := by
            refine ⟨lnGo x.1 j (x.2.2.drop (m + 1)) (pr.length + 1) ++ poGo (N.drop (j + 1)) (j + 1) (pr.length + (x.2.2.length - m)), ?_⟩
            rw [hlin2, hstep, List.append_assoc]
            rfl
          have hlen : pr.length < (linesF N).length := by
            have := hpx.length_le
            simp only [List.length_append, List.length_cons, List.length_nil] at this
            omega
          obtain ⟨fn, tmps, assign, body, hy, hR⟩ := hY pr ((pr.length : Int) + 1, (j : Int) + 1, x.1, y) _ (hJ pr _ (.cells #[.int .i64 y.1, .int .i64 y.2.1, .int .i64 y.2.2.1, .int .i64 y.2.2.2] 38) (Nat.le_trans h1 (hkk.size hk2)) hJ2) hpx
          have hw2 := Nat.le_trans h1 (hkk.size hk2)
          have hcp2 := cell_up (.cells #[.int .i64 y.1, .int .i64 y.2.1, .int .i64 y.2.2.1, .int .i64 y.2.2.2] 38) hcp
          try dsimp only [encP] at hy
          gi_wp2
          refine hR.mono ?_
          rintro e W3 (⟨rfl, hJ3, hk3⟩ | ⟨rfl, hJx3⟩)
          · gi_wp2
            refine ⟨⟨m + 1, pr ++ [((pr.length : Int) + 1, (j : Int) + 1, x.1, y)], by omega, by simp, by simp, by simp; omega, ?_, hJ3, hkk.trans (hkk.trans hk2 (hkk.alloc _ hw2)) hk3, OwnBx.kept hkk hk3 hw1 (OwnBx.kept hkk (hkk.alloc _ hw2) hw1 hbx)⟩, by simp [intOf]; omega⟩
            rw [hlin2, hstep, List.length_append, List.length_singleton, List.append_assoc, show pr.length + 1 + (x.2.2.length - (m + 1)) = pr.length + (x.2.2.length - m) by omega]
            rfl
          · gi_wp2
            refine bodyPost_ret (results_none rfl _ _ _) rfl ?_
            refine ⟨⟨_, rfl⟩, .inr ⟨pr ++ [((pr.length : Int) + 1, (j : Int) + 1, x.1, y)], ⟨lnGo x.1 j (x.2.2.drop (m + 1)) (pr.length + 1) ++ poGo (N.drop (j + 1)) (j + 1) (pr.length + (x.2.2.length - m)), ?_⟩, hJx3⟩⟩
            rw [hlin2, hstep, List.append_assoc]
            rfl
        · obtain rfl : m = x.2.2.length := by omega
          gi_wp2
          refine ⟨⟨j + 1, pr, by omega, by simp, rfl, hpl2, ?_, hJ2, hk2⟩, by simp [intOf]; omega⟩
          rw [hlin2, List.drop_length, lnGo, List.nil_append, Nat.sub_self, Nat.add_zero]
          simp
    · obtain rfl : j = N.length := by omega
      gi_wp2
      go_end0
      refine ⟨⟨_, rfl⟩, .inl ⟨pre, ?_, hJs⟩⟩
      rw [hlin, List.drop_length]
      exact (List.append_nil _).symm
abbrev PoIn (N : List En) := { x : Po // x ∈ linesF N }
abbrev poV {N : List En} (L : List (PoIn N)) : List Po := L.map (·.1)
theorem each_stops (hkk : KK n₀ n₁ K Fre Wf) (F : Fence) (n : Nat) (hf : F.fn 59) (hro : F.round = none) (hn : 1 ≤ n) (Bn : Nat) (v : Value) (N : List En) (hN : N.length ≤ 4611686018427387904) (hT : (linesF N).length ≤ 4611686018427387904) (w : World) (hBn : Bn < w.heap.size) (hn₀ : n₀ ≤ n₁) (hn1 : n₁ ≤ w.heap.size)
    (hst : ∀ W, Below w.heap.size w W → K w W ∧ Wf W) (hc : w.cell? ⟨Bn, 0, none⟩ = some v) (hL : EntsAt n₀ w v N) :
    SeqStopsK F n Try.prog 59 #[.pointer (some ⟨Bn, 0, none⟩)] (fun x : PoIn N => encP x.1) K (fun ys => poV ys = linesF N) (fun pre => poV pre <+: linesF N) (linesF N).length w := fun l J Jx W hW hJ _ hY h0 => by
  obtain ⟨hK, hwf⟩ := hst W hW
  refine (each1_in F n hf hro hn l Bn v N hN hT hkk (fun pre W => ∃ p : List (PoIn N), poV p = pre ∧ J p W) (fun pre W => ∃ p : List (PoIn N), poV p = pre ∧ Jx p W) ?_ ?_ W hwf (Nat.le_trans hn1 hW.size) hn₀ ((hW.cell (p := ⟨Bn, 0, none⟩) hBn).trans hc) (hL.keep hkk hK) ⟨[], rfl, h0⟩).mono ?_
  · rintro pre x W1 ⟨p, rfl, hp⟩ hpx
    have hlen : p.length < (linesF N).length := by
      have := hpx.length_le
      simp only [poV, List.length_append, List.length_map, List.length_cons, List.length_nil] at this
      omega
    obtain ⟨fn, tmps, assign, body, hy, hR⟩ := hY p ⟨x, hpx.subset (by simp)⟩ W1 hp hlen
    refine ⟨fn, tmps, assign, body, hy, hR.mono ?_⟩
    rintro e W' (⟨h1, h2, h3⟩ | ⟨h1, h2⟩)
    · exact .inl ⟨h1, ⟨_, by simp [poV], h2⟩, h3⟩
    · exact .inr ⟨h1, ⟨_, by simp [poV], h2⟩⟩
  · rintro ps W' os _ ⟨p, hp, h⟩
    exact ⟨p, hp, hJ _ _ _ none h (World.grownBy_alloc W' os none) (fun r e => by cases e)⟩
  · rintro e W' ⟨h1, h2⟩
    refine ⟨h1, ?_⟩
    rcases h2 with ⟨ys, h2, p, rfl, h3⟩ | ⟨pre, h2, p, rfl, h3⟩
    · exact .inl ⟨p, h2, h3⟩
    · exact .inr ⟨p, h2, h3⟩
theorem ln_put {p i : Int} : ∀ (L : List Ln) (k : Nat), (lnGo p i L k).map (fun x => ((x.2.2.1, x.2.2.2) : Pu)) = lnP p L
  | [], _ => rfl
  | x :: r, k => by
    have := ln_put (p := p) (i := i) r (k + 1)
    simp only [lnGo, lnP, List.map_cons] at this ⊢
    rw [this]
theorem po_put : ∀ (N : List En) (i : Int) (k : Nat), (poGo N i k).map (fun x => ((x.2.2.1, x.2.2.2) : Pu)) = putsL N
  | [], _, _ => rfl
  | x :: r, i, k => by
    have := po_put r (i + 1) (k + x.2.2.length)
    rw [poGo, List.map_append, ln_put, this]
    rfl
abbrev puP (x : Po) : Pu := (x.2.2.1, x.2.2.2)
theorem lines_put (N : List En) : (linesF N).map puP = putsL N := po_put N 0 0
end
set_option maxHeartbeats 1000000 in
theorem each_in (F : Fence) (n : Nat) (hf : F.fn 45) (hro : F.round = none) (A : Option Addr) (len cap : Nat) (w : World) :
    CallsIn F n Try.prog 45 #[.slice A len cap] w fun e w' => e = .returned (.func (.func 59) #[] #[.pointer (some ⟨w.heap.size, 0, none⟩)]) ∧ w' = w.alloc (.cells #[.slice A len cap] 22) := by
  refine callsIn_of_wp Try.func45 rfl hf ?_ hro
  simp only [Try.ntmps45, List.size_toArray, List.length_cons, List.length_nil, Nat.reduceAdd, Nat.reduceSub, Array.replicate_succ, Array.replicate_zero, List.push_toArray, List.append_toArray, List.nil_append, List.cons_append]
  gi_wp2
  go_ret
  exact ⟨rfl, rfl⟩
end Go.Proofs.Yteaajihmfacinaa.Ta
