/-
  journal.Lines: slices.Collect of a range over a function.
-/
import Derived.Maps.AppendAt
import Derived.Deep.Onto
import Derived.Laws.OwnMore
import Derived.Test.YtgjpehgnagfghaaGreatUse1
namespace Go.Proofs.YtgjpehgnagfghaaGreat.Bks
open Go Go.RowKit Go.Shelf Go.Proofs
attribute [local go_sem] Oper.semAt_some
def cellsP (x : Po) : List Value := [.int .i64 x.1, .int .i64 x.2.1, .int .i64 x.2.2.1, .int .i64 x.2.2.2.1, .int .i64 x.2.2.2.2.1, .int .i64 x.2.2.2.2.2.1, .int .i64 x.2.2.2.2.2.2]
def flatP (l : List Po) : List Value := l.flatMap cellsP
theorem flatP_snoc (l : List Po) (x : Po) : flatP (l ++ [x]) = flatP l ++ cellsP x := by simp [flatP]
theorem info63 : (Tryz.prog.info? 63).map (fun i => (i.zero, i.size, i.bytes)) = some (some (.agg #[.int .i64 0, .int .i64 0, .int .i64 0, .int .i64 0, .int .i64 0, .int .i64 0, .int .i64 0]), 7, 56) := by kernel_rfl
theorem cells_new (w : World) (xs : List Value) (t : TypeId) : ∀ j u, xs[j]? = some u → (w.alloc (.cells xs.toArray t)).cell? ((⟨w.heap.size, 0, none⟩ : Addr).add j) = some u := by
  intro j u hj
  rw [show (⟨w.heap.size, 0, none⟩ : Addr).add j = ⟨w.heap.size, j, none⟩ by simp [Addr.add]; omega, World.cell?_alloc_at _ _ _ _ rfl]
  simpa using hj
theorem Kc.weak {n₀ n₁ n : Nat} {A B : World} (h : Kc n₀ n₁ A B) (hn : n ≤ n₀) : Kc n n₁ A B := ⟨h.1, fun b hb => h.2.1 b (by omega), h.2.2⟩
theorem Kc.appended {n₀ n₁ B : Nat} {W w1 : World} {v v' : Value} {k : Nat} {xs : List Value} {tmp : _root_.Go.Obj} (hB : B < n₁) (hn : n₀ ≤ W.heap.size)
    (hrow : W.ownsRow n₀ 63 7 v k xs) (hgrow : (W.alloc tmp).grownBy w1 v.ownBlock) (hbel : Below n₀ W (w1.setCell ⟨B, 0, none⟩ v')) : Kc n₀ n₁ W (w1.setCell ⟨B, 0, none⟩ v') := by
  refine ⟨hbel.size, fun b hb k v h => ?_, fun b hb cur t f ht h => ?_⟩
  · rcases Nat.lt_or_ge b W.heap.size with hlt | hge
    · exact (hbel.cell (p := ⟨b, k, none⟩) hb).trans h
    · omega
  · have h1 := heap_up tmp h
    have hne : some b ≠ v.ownBlock := by
      rcases hrow.2 with ⟨rfl, _⟩ | ⟨g, cap, cur', rfl, _, hgb, _⟩
      · simp [Value.ownBlock]
      · intro e
        obtain rfl : b = g := by simpa [Value.ownBlock] using e
        rw [hgb] at h; cases h
        exact ht rfl
    have h2 := (hgrow.block b (Array.getElem?_eq_some_iff.1 h1).1 hne).trans h1
    exact ((Below.heap_setCell w1 ⟨B, 0, none⟩ v' b (by simp; omega))).trans h2
set_option maxRecDepth 100000 in
set_option maxHeartbeats 4000000 in
theorem seq_in (F : Fence) (n : Nat) (h95 : F.fn 95) (h93 : F.fn 93) (hro : F.round = none) (hn : 3 ≤ n) (Bn n₀ : Nat) (u : Value) (N : List En) (hN : N.length ≤ 1000000) (hi : InE N) (w : World) (hBn : Bn < w.heap.size) (hn₀ : n₀ ≤ w.heap.size)
    (hc : w.cell? ⟨Bn, 0, none⟩ = some u) (hL : EntsAt n₀ w u N) (hlen : (linesF N).length ≤ 1000000000) :
    CallsIn F n Tryz.prog 95 #[.slice none 0 0, .func (.func 93) #[] #[.pointer (some ⟨Bn, 0, none⟩)]] w fun e W' => ∃ v, e = .returned v ∧ W'.ownsRow w.heap.size 63 7 v (linesF N).length (flatP (linesF N)) ∧ Below w.heap.size w W' := by
  have h1 : 1 ≤ n := by omega
  obtain ⟨i0, hi0, hz0, hz1, hz2⟩ := info_parts info63
  refine callsIn_of_wp_marks Tryz.func95 rfl h95 ?_ hro
  simp only [Tryz.ntmps95, List.size_toArray, List.length_cons, List.length_nil, Nat.reduceAdd, Nat.reduceSub, Array.replicate_succ, Array.replicate_zero, List.push_toArray, List.append_toArray, List.nil_append, List.cons_append]
  gi_wp2
  have bO := Boxed.new w 60 (.slice none 0 0)
  have hB0 : Below w.heap.size w (w.alloc (.cells #[.slice none 0 0] 60)) := (Below.refl _ w).alloc (Nat.le_refl _) _
  have hsz : (w.alloc (.cells #[.slice none 0 0] 60)).heap.size = w.heap.size + 1 := by simp
  have hc0 := cell_up (.cells #[.slice none 0 0] 60) hc
  obtain ⟨W0, hW0⟩ : ∃ W0, w.alloc (.cells #[.slice none 0 0] 60) = W0 := ⟨_, rfl⟩
  rw [hW0] at bO hB0 hsz hc0 ⊢
  clear hW0
  have hL0 : EntsAt n₀ W0 u N := hL.keep (n₁ := w.heap.size) (Kc.below (hB0) (Nat.le_refl _))
  refine wpIn_rangeFunc_ownH hro h1 (gf := 93) (lb := #[.pointer (some ⟨Bn, 0, none⟩)]) rfl h93 (enters_of Tryz.func93 (by kernel_rfl) rfl)
    (each_stops F (n - 1) h93 hro (by omega) Bn n₀ u N hN hi W0 (by omega) (by omega) hc0 hL0) (fun h g => Kc.trans h g) (fun W l o o' _ hl ho _ => Kc.put o' hl ho) (Below.refl _ _) (fun _ => rfl)
    (fun pre W => (∃ v, Boxed W w.heap.size 60 v ∧ W.ownsRow w.heap.size 63 7 v pre.length (flatP pre) ∧ True) ∧ Below w.heap.size w W)
    (fun _ _ _ => False)
    (OwnFrom.and (Own.from (holdsRow_own w.heap.size w.heap.size 60 63 7 (fun pre : List Po => pre.length) (fun pre => flatP pre) (fun _ _ => True)) _) (ownFrom_below (Nat.le_refl _) (by omega)))
    (fun _ _ _ _ _ hs _ _ => hs)
    ⟨⟨_, bO, World.ownsRow_nil _ _ _ _, trivial⟩, hB0⟩
    (fun x a' W => ∃ Bx, (W.cell? ⟨Bx, 0, none⟩ = some (.int .i64 x.1) ∧ W.cell? ⟨Bx, 1, none⟩ = some (.int .i64 x.2.1) ∧ W.cell? ⟨Bx, 2, none⟩ = some (.int .i64 x.2.2.1) ∧ W.cell? ⟨Bx, 3, none⟩ = some (.int .i64 x.2.2.2.1) ∧ W.cell? ⟨Bx, 4, none⟩ = some (.int .i64 x.2.2.2.2.1) ∧ W.cell? ⟨Bx, 5, none⟩ = some (.int .i64 x.2.2.2.2.2.1) ∧ W.cell? ⟨Bx, 6, none⟩ = some (.int .i64 x.2.2.2.2.2.2)) ∧
      a' = { tmps := #[.slice none 0 0, .func (.func 93) #[] #[.pointer (some ⟨Bn, 0, none⟩)], .pointer (some ⟨w.heap.size, 0, none⟩), undef, .slice none 0 0, .pointer (some ⟨Bx, 0, none⟩), .func (.func 93) #[] #[.pointer (some ⟨Bn, 0, none⟩)], .agg #[.int .i64 x.1, .int .i64 x.2.1, .int .i64 x.2.2.1, .int .i64 x.2.2.2.1, .int .i64 x.2.2.2.2.1, .int .i64 x.2.2.2.2.2.1, .int .i64 x.2.2.2.2.2.2], undef, undef, undef, undef, undef], defers := [] })
    (fun x a' _ X Y row hs hg hr => by obtain ⟨Bx, ⟨k0, k1, k2, k3, k4, k5, k6⟩, h3⟩ := hs; exact ⟨Bx, ⟨cell_kept k0 hg (fun r e => (hr r e).2), cell_kept k1 hg (fun r e => (hr r e).2), cell_kept k2 hg (fun r e => (hr r e).2), cell_kept k3 hg (fun r e => (hr r e).2), cell_kept k4 hg (fun r e => (hr r e).2), cell_kept k5 hg (fun r e => (hr r e).2), cell_kept k6 hg (fun r e => (hr r e).2)⟩, h3⟩)
    ?assign ?body ?done ?stop
  case assign =>
    rintro l pre x W K ⟨⟨v, hv, hrow, _⟩, hB1⟩ hK
    gi_wp2
    refine hK _ _ ((KeepsOthers.alloc _ _).from _) ((Kc.refl _ _ W).alloc _) ⟨⟨v, hv.alloc _, hrow.alloc _, trivial⟩, hB1.alloc hB1.size _⟩ ⟨W.heap.size, ⟨?_, ?_, ?_, ?_, ?_, ?_, ?_⟩, rfl⟩ <;> (rw [World.cell?_alloc_at _ _ _ _ rfl]; rfl)
  case body =>
    rintro l pre x a' W hl ⟨r, hr⟩ ⟨⟨v, hv, hrow, _⟩, hB⟩ ⟨Bx, ⟨k0, k1, k2, k3, k4, k5, k6⟩, rfl⟩ hlt
    have hcv := hv.cell
    gi_wp2_with (gi_at_builtin; refine wpListIn_append_own _ rfl _ _ 60 rfl w.heap.size 63 i0 _ 7 56 Tryz.underlying60 hi0 hz0 hz1 hz2 rfl (by decide) _ _ _ rfl (hrow.alloc _) ⟨W.heap.size, 0, none⟩ 1 1 (cellsP x) rfl rfl (cells_new _ _ _) (by simp [Value.oneCell', cellsP]) (by unfold maxLen; omega) (by omega) (by have := hB.size; simp; omega) ?_; intro v' w1 hown' hgrow _; obtain ⟨g', cap', rfl⟩ := ownsRow_succ hown'; obtain ⟨hv1, hv2, hr2, hk2, hb2⟩ := hv.appended (by decide) hrow hB.size (Nat.le_refl _) hown' hgrow; have hc1 := hv1.cell; have hf1 := hv1.frozen)
    exact ⟨hk2.from _, (Kc.appended (n₀ := w.heap.size) (n₁ := W0.heap.size) (by omega) hB.size hrow hgrow hb2).weak hn₀, ⟨_, hv2, by rw [flatP_snoc]; simpa using hr2, trivial⟩, hB.trans hb2⟩
  case done =>
    rintro D ys W hD rfl ⟨⟨v, hv, hrow, _⟩, hB⟩ hK
    have hcv := hv.cell
    gi_wp2
    refine ⟨by simp, .inl ⟨_, _, rfl, run_takeDeferred hK, ?_⟩⟩
    exact ⟨_, results_tmp rfl _ _ _, v, rfl, ownsRow_putObj hrow _ hK rfl, hB.trans (belowK_b (w := w) (Nat.le_refl _) W D _ _ (by omega) hK rfl rfl)⟩
  case stop =>
    rintro D c pre W _ _ h _
    exact h.elim
set_option maxHeartbeats 1000000 in
theorem lines_in (F : Fence) (n : Nat) (h20 : F.fn 20) (h42 : F.fn 42) (h73 : F.fn 73) (h95 : F.fn 95) (h93 : F.fn 93) (hro : F.round = none) (hn : 6 ≤ n) (A : Option Addr) (cap : Nat) (N : List En) (hN : N.length ≤ 1000000) (hi : InE N) (w : World) (hL : EntsAt w.heap.size w (.slice A N.length cap) N) :
    CallsIn F n Tryz.prog 20 #[.slice A N.length cap] w fun e W' => ∃ v, e = .returned v ∧ W'.ownsRow w.heap.size 63 7 v (linesF N).length (flatP (linesF N)) ∧ Below w.heap.size w W' := by
  have hcol : ∀ W Bn, Bn < W.heap.size → w.heap.size ≤ W.heap.size → W.cell? ⟨Bn, 0, none⟩ = some (.slice A N.length cap) → EntsAt w.heap.size W (.slice A N.length cap) N →
      CallsIn F (n - 1) Tryz.prog 73 #[.func (.func 93) #[] #[.pointer (some ⟨Bn, 0, none⟩)]] W fun e W' => ∃ v, e = .returned v ∧ W'.ownsRow W.heap.size 63 7 v (linesF N).length (flatP (linesF N)) ∧ Below W.heap.size W W' := by
    intro W Bn h1 h2 h3 h4
    have hn1 : 1 ≤ n - 1 := by omega
    refine callsIn_of_wp Tryz.func73 rfl h73 ?_ hro
    simp only [Tryz.ntmps73, List.size_toArray, List.length_cons, List.length_nil, Nat.reduceAdd, Nat.reduceSub, Array.replicate_succ, Array.replicate_zero, List.push_toArray, List.append_toArray, List.nil_append, List.cons_append]
    gi_wp2_with (gi_at_call 95; refine (seq_in F (n - 1 - 1) h95 h93 hro (by omega) Bn w.heap.size _ N hN hi W h1 h2 h3 h4 (Nat.le_trans (lines_len hi) (by omega))).mono ?_; rintro e w' ⟨v, rfl, hr, hb⟩)
    go_ret
    exact ⟨_, rfl, hr, hb⟩
  have hn1 : 1 ≤ n := by omega
  refine callsIn_of_wp Tryz.func20 rfl h20 ?_ hro
  simp only [Tryz.ntmps20, List.size_toArray, List.length_cons, List.length_nil, Nat.reduceAdd, Nat.reduceSub, Array.replicate_succ, Array.replicate_zero, List.push_toArray, List.append_toArray, List.nil_append, List.cons_append]
  have hB0 : Below w.heap.size w (w.alloc (.cells #[.slice A N.length cap] 27)) := (Below.refl _ w).alloc (Nat.le_refl _) _
  have hL0 : EntsAt w.heap.size (w.alloc (.cells #[.slice A N.length cap] 27)) (.slice A N.length cap) N := hL.keep (n₁ := w.heap.size) (Kc.below hB0 (Nat.le_refl _))
  gi_wp2_with (first
    | (gi_at_call 42; refine (each_in F (n - 1) h42 hro _ _ _ _).mono ?_; rintro e w' ⟨rfl, rfl⟩)
    | (gi_at_call 73; refine (hcol _ w.heap.size (by simp) hB0.size (by rw [World.cell?_alloc_at _ _ _ _ rfl]; rfl) hL0).mono ?_; rintro e w' ⟨v, rfl, hr, hb⟩))
  go_ret
  exact ⟨_, rfl, hr.mono (by simp), hB0.trans (hb.mono (by simp))⟩
open Go.Vm in
theorem pure_calls2 {P : Program} {f : FuncId} {args : List V} {r : V} (h : ∀ (F : Fr) (w : World) (vs : List Value), Vm.Ground F w → RepL ⟨w, [], fun _ => none, F⟩ args vs →
    Calls P f vs.toArray w fun e w' => ∃ u, e = .returned u ∧ RowKit.Below w.heap.size w w' ∧ ((∀ b, w.heap.size ≤ b → ¬ F.any b) → Rep ⟨w', [], fun _ => none, F⟩ r u)) (ho : own [] 60 r = some r) (hi : ids [] 60 r = []) : Pure P f args r := by
  intro F w vs hF hr
  refine (h F w vs hF hr).mono fun e w' ⟨u, he, hb, hru⟩ => ⟨u, he, hb, [], fun _ => none, r, ⟨fun id o h => by simp [Store.get] at h, fun i j o o' b h => by simp [Store.get] at h, fun id o b h => by simp [Store.get] at h, fun b hb' => hF.out b (Nat.le_trans hb.size hb'), fun b hb' => hF.out b hb', ⟨fun e he => by simp [hF.pin] at he, fun e he => ⟨(hb.block _ (hF.lt he)).trans (hF.gnd e he), fun h => absurd (hF.lt he) (Nat.not_lt.2 h)⟩⟩⟩, hru hF.out, ho, by rw [hi]; exact .nil⟩
theorem flat_at : ∀ (l : List Po) (i j : Nat) (x : Po) (u : Value), l[i]? = some x → (cellsP x)[j]? = some u → (flatP l)[i * 7 + j]? = some u
  | [], i, j, x, u, h, _ => by simp at h
  | y :: l, 0, j, x, u, h, hu => by
    obtain rfl : y = x := by simpa using h
    have hj : j < 7 := by simpa [cellsP] using (List.getElem?_eq_some_iff.1 hu).1
    rw [show flatP (y :: l) = cellsP y ++ flatP l from rfl, List.getElem?_append_left (by simp [cellsP]; omega), show 0 * 7 + j = j by omega]
    exact hu
  | y :: l, i + 1, j, x, u, h, hu => by
    rw [show flatP (y :: l) = cellsP y ++ flatP l from rfl, List.getElem?_append_right (by simp [cellsP]; omega), show (i + 1) * 7 + j - (cellsP y).length = i * 7 + j by simp [cellsP]; omega]
    exact flat_at l i j x u (by simpa using h) hu
open Go.Vm in
theorem lines_rep {F : Fr} {w0 w : World} {v : Value} {l : List Po} (h : w.ownsRow w0.heap.size 63 7 v l.length (flatP l)) (hF : ∀ b, w0.heap.size ≤ b → ¬ F.any b) : Rep ⟨w, [], fun _ => none, F⟩ (.list .part PoT l) v := by
  have hx := h.2
  rcases hx with ⟨rfl, hn⟩ | ⟨g, cap, cur, rfl, hb, hg, hcap, _⟩
  · exact .list ⟨hn.symm, Nat.le_refl _, fun h => absurd h (Nat.lt_irrefl _)⟩ (fun h => by cases h)
  · refine .list ⟨rfl, hcap, fun _ => ⟨g, 0, rfl, ⟨⟨⟨(Array.getElem?_eq_some_iff.1 hg).1, fun _ _ hg => by simp [Store.get] at hg⟩, fun k => hF g hb (.inr k)⟩, fun _ k => hF g hb (.inl k)⟩, fun i x hx => ⟨cellsP x, ?_, fun j u hu => ?_⟩⟩⟩ (fun h => by cases h)
    · exact ⟨[_], _, rfl, rfl, [_], _, rfl, rfl, [_], _, rfl, rfl, [_], _, rfl, rfl, [_], _, rfl, rfl, [_], _, rfl, rfl, rfl⟩
    · have hi : i < List.length (α := Po) l := (List.getElem?_eq_some_iff.1 hx).1
      have hj : j < 7 := by simpa [cellsP] using (List.getElem?_eq_some_iff.1 hu).1
      have := h.cellAt (i * 7 + j) (by omega)
      rw [flat_at l i j x u hx hu] at this
      rw [show 0 + i * PoT.cells + j = i * 7 + j by simp [Ty.cells]]
      exact this
theorem lines_pure (N : List En) (h : N.length ≤ 1000000 ∧ InE N) : Vm.Pure Tryz.prog 20 [.list .tmp EnT N] (.list .part PoT (linesF N)) := by
  refine pure_calls2 (fun F w vs hF hr => ?_) rfl rfl
  obtain ⟨u1, r1, rfl, a1, hr⟩ := hr.cons_inv
  rw [hr.nil_inv]
  have hE := ents_of a1
  obtain ⟨A', cap, rfl, _⟩ := id hE
  refine (callsIn_wide (n := 9)).1 ((lines_in Fence.wide 9 trivial trivial trivial trivial trivial rfl (by omega) A' cap N h.1 h.2 w hE).mono ?_)
  rintro e w' ⟨v, rfl, hv, hb⟩
  exact ⟨v, rfl, hb, fun hf => lines_rep hv hf⟩
open Go.Vm
noncomputable def sp_lines : FSpec Tryz.prog where
 f := 20
 run := fun
  | [v0] => (asL EnT v0 : Option (List En)).bind fun N => some (N.length ≤ 1000000 ∧ InE N, .list .part PoT (linesF N))
  | _ => none
 ok := fun args pre r h hp => by
  split at h
  · rename_i v0
    obtain ⟨N, h0, h⟩ := Option.bind_eq_some_iff.1 h
    exact of_q h hp fun h => (lines_pure N h).weak (.cons (asL_weak h0) .nil)
  · cases h
end Go.Proofs.YtgjpehgnagfghaaGreat.Bks
