/-
  journal.Lines: slices.Collect of a range over a function.
-/
import Derived.Maps.AppendAt
import Derived.Deep.Onto
import Derived.Laws.OwnMore
import Derived.Maps.OwnIn
import Derived.Test.YteaajihmfacinaaTa18
namespace Go.Proofs.Yteaajihmfacinaa.Ta
open Go Go.RowKit Go.Shelf Go.Proofs
attribute [local go_sem] Oper.semAt_some
def cellsP (x : Po) : List Value := [.int .i64 x.1, .int .i64 x.2.1, .int .i64 x.2.2.1, .int .i64 x.2.2.2.1, .int .i64 x.2.2.2.2.1, .int .i64 x.2.2.2.2.2.1, .int .i64 x.2.2.2.2.2.2]
def flatP (l : List Po) : List Value := l.flatMap cellsP
theorem flatP_snoc (l : List Po) (x : Po) : flatP (l ++ [x]) = flatP l ++ cellsP x := by simp [flatP]
theorem infoP : (Try.prog.info? 62).map (fun i => (i.zero, i.size, i.bytes)) = some (some (.agg #[.int .i64 0, .int .i64 0, .int .i64 0, .int .i64 0, .int .i64 0, .int .i64 0, .int .i64 0]), 7, 56) := by kernel_rfl
theorem cells_new (w : World) (xs : List Value) (t : TypeId) : ∀ j u, xs[j]? = some u → (w.alloc (.cells xs.toArray t)).cell? ((⟨w.heap.size, 0, none⟩ : Addr).add j) = some u := by
  intro j u hj
  rw [show (⟨w.heap.size, 0, none⟩ : Addr).add j = ⟨w.heap.size, j, none⟩ by simp [Addr.add]; omega, World.cell?_alloc_at _ _ _ _ rfl]
  simpa using hj
def OwnB (B0 : Nat) (t : TypeId) (W : World) (c : Nat) : Prop := ∃ v, W.heap[B0]? = some (.cells #[v] t (0, 0)) ∧ v.ownBlock = some c
theorem OwnB.same {B0 : Nat} {t : TypeId} {W W' : World} (h : W'.heap[B0]? = W.heap[B0]?) (c : Nat) : OwnB B0 t W' c ↔ OwnB B0 t W c := by
  unfold OwnB
  rw [h]
structure KR (n₀ n₁ B0 : Nat) (t : TypeId) (A B : World) : Prop where
  size : A.heap.size ≤ B.heap.size
  low : ∀ {b k : Nat} {v}, b < n₀ → A.cell? ⟨b, k, none⟩ = some v → B.cell? ⟨b, k, none⟩ = some v
  wf : (∀ c, OwnB B0 t A c → c < A.heap.size) → ∀ c, OwnB B0 t B c → c < B.heap.size
  own : ∀ {b cur ty f}, n₁ ≤ b → ¬ OwnB B0 t A b → A.heap[b]? = some (.cells cur ty f) → B.heap[b]? = some (.cells cur ty f) ∧ ¬ OwnB B0 t B b
theorem kk_rows (n₀ n₁ B0 : Nat) (t : TypeId) (h0 : B0 < n₁) : KK n₀ n₁ (KR n₀ n₁ B0 t) (fun W c => ¬ OwnB B0 t W c) (fun W => ∀ c, OwnB B0 t W c → c < W.heap.size) where
  refl W := ⟨Nat.le_refl _, fun _ h => h, fun h => h, fun _ h e => ⟨e, h⟩⟩
  trans h g := ⟨Nat.le_trans h.size g.size, fun hb e => g.low hb (h.low hb e), fun hw => g.wf (h.wf hw), fun hb hn e => (fun k => g.own hb k.2 k.1) (h.own hb hn e)⟩
  size h := h.size
  low h _ _ _ hb e := h.low hb e
  own h _ _ _ _ hb hn e := h.own hb hn e
  wf h hw := h.wf hw
  alloc {W} o hW := by
    have s := OwnB.same (B0 := B0) (t := t) (W := W) (W' := W.alloc o) (Below.heap_alloc W o B0 (by omega))
    refine ⟨by simp, fun _ e => cell_up o e, fun hw c hc => ?_, fun _ hn e => ⟨heap_up o e, fun hc => hn ((s _).1 hc)⟩⟩
    have := hw c ((s c).1 hc)
    simp
    omega
  new {W} o hW hw hc := by
    have s := OwnB.same (B0 := B0) (t := t) (W := W) (W' := W.alloc o) (Below.heap_alloc W o B0 (by omega))
    exact absurd (hw _ ((s _).1 hc)) (Nat.lt_irrefl _)
theorem KR.put {n₀ n₁ B0 : Nat} {t : TypeId} {W : World} {l : Nat} {o : _root_.Go.Obj} (o' : _root_.Go.Obj) (h0 : B0 < n₁) (h1 : n₀ ≤ n₁) (hln : n₁ ≤ l) (hl : W.heap[l]? = some o) (ho : o.isCells = false) : KR n₀ n₁ B0 t W (W.putObj l o') := by
  have hne : ∀ k, k < n₁ → (W.putObj l o').heap[k]? = W.heap[k]? := fun k hk => World.putObj_heap_other (by omega)
  have hs := fun c => OwnB.same (t := t) (hne B0 h0) c
  refine ⟨by rw [World.putObj_size]; exact Nat.le_refl _, fun {b k v} hb hv => (World.cell?_of_block (a := ⟨b, k, none⟩) (hne b (by omega))).trans hv, fun hw c hc => by rw [World.putObj_size]; exact hw c ((hs c).1 hc), fun {b cur t f} hb hn he => ⟨(World.putObj_heap_other (fun e => ?_)).trans he, fun hc => hn ((hs b).1 hc)⟩⟩
  subst e
  rw [he] at hl
  cases hl
  cases ho
theorem EntsAt.up {n₀ : Nat} {A B : World} (h : Below n₀ A B) {v : Value} {N : List En} (hL : EntsAt n₀ A v N) : EntsAt n₀ B v N := by
  have lk : ∀ {b k : Nat} {u : Value}, b < n₀ → A.cell? ⟨b, k, none⟩ = some u → B.cell? ⟨b, k, none⟩ = some u := fun {b k u} hb e => (h.cell (p := ⟨b, k, none⟩) hb).trans e
  obtain ⟨p, cap, e, hc⟩ := hL
  refine ⟨p, cap, e, fun h0 => ?_⟩
  obtain ⟨b, o, e2, hb, hx⟩ := hc h0
  refine ⟨b, o, e2, hb, fun k x hk' => ?_⟩
  obtain ⟨a1, a2, u, a3, a4⟩ := hx k x hk'
  refine ⟨lk hb a1, lk hb a2, u, lk hb a3, ?_⟩
  obtain ⟨p2, cap2, e3, hc2⟩ := a4
  refine ⟨p2, cap2, e3, fun h1 => ?_⟩
  obtain ⟨b2, o2, e4, hb2, hx2⟩ := hc2 h1
  refine ⟨b2, o2, e4, hb2, fun j y hj => ?_⟩
  obtain ⟨c1, c2, c3, c4⟩ := hx2 j y hj
  exact ⟨lk hb2 c1, lk hb2 c2, lk hb2 c3, lk hb2 c4⟩
theorem KR.appended {n₀ n₁ n B0 : Nat} {t e : TypeId} {W w1 : World} {v v' : Value} {k : Nat} {xs : List Value} {tmp : _root_.Go.Obj} (hB : B0 < n₁) (hn : n ≤ W.heap.size) (h0 : n₀ ≤ n) (hv : Boxed W B0 t v) (hv2 : Boxed (w1.setCell ⟨B0, 0, none⟩ v') B0 t v')
    (hr2 : (w1.setCell ⟨B0, 0, none⟩ v').ownsRow n e 7 v' k xs) (hgrow : (W.alloc tmp).grownBy w1 v.ownBlock) (hob : v'.ownBlock = v.ownBlock ∨ v'.ownBlock = some (W.alloc tmp).heap.size) (hbel : Below n W (w1.setCell ⟨B0, 0, none⟩ v')) : KR n₀ n₁ B0 t W (w1.setCell ⟨B0, 0, none⟩ v') := by
  refine ⟨hbel.size, fun {b k v} hb hh => (hbel.cell (p := ⟨b, k, none⟩) (by show b < n; omega)).trans hh, fun _ c hc => ?_, fun {b cur ty f} hb hnot he => ?_⟩
  · obtain ⟨u, h1, h2⟩ := hc
    have hv2 : (w1.setCell ⟨B0, 0, none⟩ v').heap[B0]? = some (.cells #[v'] t (0, 0)) := hv2
    rw [hv2] at h1
    cases h1
    rcases hr2.2 with ⟨rfl, _⟩ | ⟨g, cap, cur, rfl, _, hg, _⟩
    · simp [Value.ownBlock] at h2
    · obtain rfl : g = c := by simpa [Value.ownBlock] using h2
      exact (Array.getElem?_eq_some_iff.1 hg).1
  · have hlt := (Array.getElem?_eq_some_iff.1 he).1
    have h1 := heap_up tmp he
    have hne : v.ownBlock ≠ some b := fun q => hnot ⟨v, hv, q⟩
    have h2 := (hgrow.block b (Array.getElem?_eq_some_iff.1 h1).1 (fun q => hne q.symm)).trans h1
    refine ⟨(Below.heap_setCell w1 ⟨B0, 0, none⟩ v' b (by show b ≠ B0; omega)).trans h2, fun hc => ?_⟩
    obtain ⟨u, h3, h4⟩ := hc
    have hv2 : (w1.setCell ⟨B0, 0, none⟩ v').heap[B0]? = some (.cells #[v'] t (0, 0)) := hv2
    rw [hv2] at h3
    cases h3
    rcases hob with h5 | h5
    · rw [h5] at h4
      exact hne h4
    · rw [h5] at h4
      have : (W.alloc tmp).heap.size = b := Option.some.inj h4
      simp at this
      omega
set_option maxRecDepth 100000 in
set_option maxHeartbeats 4000000 in
theorem seq_in (F : Fence) (n : Nat) (h95 : F.fn 58) (h93 : F.fn 59) (hro : F.round = none) (hn : 3 ≤ n) (Bn n₀ : Nat) (u : Value) (N : List En) (hN : N.length ≤ 4611686018427387904) (w : World) (hBn : Bn < w.heap.size) (hn₀ : n₀ ≤ w.heap.size)
    (hc : w.cell? ⟨Bn, 0, none⟩ = some u) (hL : EntsAt n₀ w u N) (hlen : (linesF N).length ≤ 1000000000) :
    CallsIn F n Try.prog 58 #[.slice none 0 0, .func (.func 59) #[] #[.pointer (some ⟨Bn, 0, none⟩)]] w fun e W' => ∃ v, e = .returned v ∧ W'.ownsRow w.heap.size 62 7 v (linesF N).length (flatP (linesF N)) ∧ Below w.heap.size w W' := by
  have h1 : 1 ≤ n := by omega
  obtain ⟨i0, hi0, hz0, hz1, hz2⟩ := info_parts infoP
  refine callsIn_of_wp_marks Try.func58 rfl h95 ?_ hro
  simp only [Try.ntmps58, List.size_toArray, List.length_cons, List.length_nil, Nat.reduceAdd, Nat.reduceSub, Array.replicate_succ, Array.replicate_zero, List.push_toArray, List.append_toArray, List.nil_append, List.cons_append]
  gi_wp2
  have bO := Boxed.new w 58 (.slice none 0 0)
  have hB0 : Below w.heap.size w (w.alloc (.cells #[.slice none 0 0] 58)) := (Below.refl _ w).alloc (Nat.le_refl _) _
  have hsz : (w.alloc (.cells #[.slice none 0 0] 58)).heap.size = w.heap.size + 1 := by simp
  have hc0 := cell_up (.cells #[.slice none 0 0] 58) hc
  obtain ⟨W0, hW0⟩ : ∃ W0, w.alloc (.cells #[.slice none 0 0] 58) = W0 := ⟨_, rfl⟩
  rw [hW0] at bO hB0 hsz hc0 ⊢
  clear hW0
  have hwf0 : ∀ W, Below (w.heap.size + 1) W0 W → ∀ c, ¬ OwnB w.heap.size 58 W c := by
    rintro W hB c ⟨v, h1, h2⟩
    rw [hB.block _ (by omega), show W0.heap[w.heap.size]? = _ from bO] at h1
    cases h1
    simp [Value.ownBlock] at h2
  have hK0 : ∀ W, Below W0.heap.size W0 W → KR n₀ (w.heap.size + 1) w.heap.size 58 W0 W ∧ ∀ c, OwnB w.heap.size 58 W c → c < W.heap.size := fun W hB =>
    ⟨⟨hB.size, fun {b k v} hb hv => (hB.cell (p := ⟨b, k, none⟩) (by show b < _; omega)).trans hv, fun _ c hc => absurd hc (hwf0 W (hsz ▸ hB) c), fun {b cur t f} hb _ he => by have := (Array.getElem?_eq_some_iff.1 he).1; omega⟩, fun c hc => absurd hc (hwf0 W (hsz ▸ hB) c)⟩
  have hL0 : EntsAt n₀ W0 u N := hL.keep (kk_rows n₀ (w.heap.size + 1) w.heap.size 58 (by omega)) ⟨hB0.size, fun {b k v} hb hv => (hB0.cell (p := ⟨b, k, none⟩) (by show b < _; omega)).trans hv, fun _ c hc => absurd hc (hwf0 W0 (Below.refl _ _) c), fun {b cur t f} hb _ he => by have := (Array.getElem?_eq_some_iff.1 he).1; omega⟩
  refine wpIn_rangeFunc_ownH hro h1 (gf := 59) (lb := #[.pointer (some ⟨Bn, 0, none⟩)]) rfl h93 (enters_of Try.func59 (by kernel_rfl) rfl)
    (each_stops (kk_rows n₀ (w.heap.size + 1) w.heap.size 58 (by omega)) F (n - 1) h93 hro (by omega) Bn u N hN (by omega) W0 (by omega) (by omega) (by omega) hK0 hc0 hL0) (fun h g => (kk_rows n₀ (w.heap.size + 1) w.heap.size 58 (by omega)).trans h g) (fun W l o o' hlw hl ho _ => KR.put o' (by omega) (by omega) (by omega) hl ho) (Below.refl _ _) (fun _ => rfl)
    (fun pre W => (∃ v, Boxed W w.heap.size 58 v ∧ W.ownsRow w.heap.size 62 7 v pre.length (flatP (poV pre)) ∧ True) ∧ Below w.heap.size w W)
    (fun _ _ _ => False)
    (OwnFrom.and (Own.from (holdsRow_own w.heap.size w.heap.size 58 62 7 (fun pre : List (PoIn N) => pre.length) (fun pre => flatP (poV pre)) (fun _ _ => True)) _) (ownFrom_below (Nat.le_refl _) (by omega)))
    (fun _ _ _ _ _ hs _ _ => hs)
    ⟨⟨_, bO, World.ownsRow_nil _ _ _ _, trivial⟩, hB0⟩
    (fun x a' W => ∃ Bx, (W.cell? ⟨Bx, 0, none⟩ = some (.int .i64 x.1.1) ∧ W.cell? ⟨Bx, 1, none⟩ = some (.int .i64 x.1.2.1) ∧ W.cell? ⟨Bx, 2, none⟩ = some (.int .i64 x.1.2.2.1) ∧ W.cell? ⟨Bx, 3, none⟩ = some (.int .i64 x.1.2.2.2.1) ∧ W.cell? ⟨Bx, 4, none⟩ = some (.int .i64 x.1.2.2.2.2.1) ∧ W.cell? ⟨Bx, 5, none⟩ = some (.int .i64 x.1.2.2.2.2.2.1) ∧ W.cell? ⟨Bx, 6, none⟩ = some (.int .i64 x.1.2.2.2.2.2.2)) ∧
      a' = { tmps := #[.slice none 0 0, .func (.func 59) #[] #[.pointer (some ⟨Bn, 0, none⟩)], .pointer (some ⟨w.heap.size, 0, none⟩), undef, .slice none 0 0, .pointer (some ⟨Bx, 0, none⟩), .func (.func 59) #[] #[.pointer (some ⟨Bn, 0, none⟩)], .agg #[.int .i64 x.1.1, .int .i64 x.1.2.1, .int .i64 x.1.2.2.1, .int .i64 x.1.2.2.2.1, .int .i64 x.1.2.2.2.2.1, .int .i64 x.1.2.2.2.2.2.1, .int .i64 x.1.2.2.2.2.2.2], undef, undef, undef, undef, undef], defers := [] })
    (fun x a' _ X Y row hs hg hr => by obtain ⟨Bx, ⟨k0, k1, k2, k3, k4, k5, k6⟩, h3⟩ := hs; exact ⟨Bx, ⟨cell_kept k0 hg (fun r e => (hr r e).2), cell_kept k1 hg (fun r e => (hr r e).2), cell_kept k2 hg (fun r e => (hr r e).2), cell_kept k3 hg (fun r e => (hr r e).2), cell_kept k4 hg (fun r e => (hr r e).2), cell_kept k5 hg (fun r e => (hr r e).2), cell_kept k6 hg (fun r e => (hr r e).2)⟩, h3⟩)
    ?assign ?body ?done ?stop
  case assign =>
    rintro l pre ⟨x, hxi⟩ W K ⟨⟨v, hv, hrow, _⟩, hB1⟩ hK
    gi_wp2
    refine hK _ _ ((KeepsOthers.alloc _ _).from _) ((kk_rows n₀ (w.heap.size + 1) w.heap.size 58 (by omega)).alloc _ (by have := hv.lt; omega)) ⟨⟨v, hv.alloc _, hrow.alloc _, trivial⟩, hB1.alloc hB1.size _⟩ ⟨W.heap.size, ⟨?_, ?_, ?_, ?_, ?_, ?_, ?_⟩, rfl⟩ <;> (rw [World.cell?_alloc_at _ _ _ _ rfl]; rfl)
  case body =>
    rintro l pre ⟨x, hxi⟩ a' W hl ⟨r, hr⟩ ⟨⟨v, hv, hrow, _⟩, hB⟩ ⟨Bx, ⟨k0, k1, k2, k3, k4, k5, k6⟩, rfl⟩ hlt
    have hcv := hv.cell
    gi_wp2_with (gi_at_builtin; refine wpListIn_append_own_at _ rfl _ _ 58 rfl w.heap.size 62 i0 _ 7 56 Try.underlying58 hi0 hz0 hz1 hz2 rfl (by decide) _ _ _ rfl (hrow.alloc _) ⟨W.heap.size, 0, none⟩ 1 1 (cellsP x) rfl rfl (cells_new _ _ _) (by simp [Value.oneCell', cellsP]) (by unfold maxLen; omega) (by omega) (by have := hB.size; simp; omega) ?_; intro v' w1 hown' hgrow _ hob; obtain ⟨g', cap', rfl⟩ := ownsRow_succ hown'; obtain ⟨hv1, hv2, hr2, hk2, hb2⟩ := hv.appended (by decide) hrow hB.size (Nat.le_refl _) hown' hgrow; have hc1 := hv1.cell; have hf1 := hv1.frozen)
    have e1 : flatP (poV (pre ++ [(⟨x, hxi⟩ : PoIn N)])) = flatP (poV pre) ++ cellsP x := by
      rw [show poV (pre ++ [(⟨x, hxi⟩ : PoIn N)]) = poV pre ++ [x] by simp [poV], flatP_snoc]
    have e2 : (pre ++ [(⟨x, hxi⟩ : PoIn N)]).length = pre.length + 1 := by simp
    refine ⟨hk2.from _, KR.appended (by omega) hB.size hn₀ hv hv2 hr2 hgrow hob hb2, ⟨_, hv2, ?_⟩, hB.trans hb2⟩
    rw [e1, e2]
    exact hr2
  case done =>
    rintro D ys W hD hys ⟨⟨v, hv, hrow, _⟩, hB⟩ hK
    have hyl : ys.length = (linesF N).length := by rw [← hys, poV, List.length_map]
    rw [hys, hyl] at hrow
    have hcv := hv.cell
    gi_wp2
    refine ⟨by simp, .inl ⟨_, _, rfl, run_takeDeferred hK, ?_⟩⟩
    exact ⟨_, results_tmp rfl _ _ _, v, rfl, ownsRow_putObj hrow _ hK rfl, hB.trans (belowK_b (w := w) (Nat.le_refl _) W D _ _ (by omega) hK rfl rfl)⟩
  case stop =>
    rintro D c pre W _ _ h _
    exact h.elim
set_option maxHeartbeats 1000000 in
theorem lines_in (F : Fence) (n : Nat) (h20 : F.fn 22) (h42 : F.fn 45) (h73 : F.fn 44) (h95 : F.fn 58) (h93 : F.fn 59) (hro : F.round = none) (hn : 6 ≤ n) (A : Option Addr) (cap : Nat) (N : List En) (hN : N.length ≤ 4611686018427387904) (hlen : (linesF N).length ≤ 1000000000) (w : World) (hL : EntsAt w.heap.size w (.slice A N.length cap) N) :
    CallsIn F n Try.prog 22 #[.slice A N.length cap] w fun e W' => ∃ v, e = .returned v ∧ W'.ownsRow w.heap.size 62 7 v (linesF N).length (flatP (linesF N)) ∧ Below w.heap.size w W' := by
  have hcol : ∀ W Bn, Bn < W.heap.size → w.heap.size ≤ W.heap.size → W.cell? ⟨Bn, 0, none⟩ = some (.slice A N.length cap) → EntsAt w.heap.size W (.slice A N.length cap) N →
      CallsIn F (n - 1) Try.prog 44 #[.func (.func 59) #[] #[.pointer (some ⟨Bn, 0, none⟩)]] W fun e W' => ∃ v, e = .returned v ∧ W'.ownsRow W.heap.size 62 7 v (linesF N).length (flatP (linesF N)) ∧ Below W.heap.size W W' := by
    intro W Bn h1 h2 h3 h4
    have hn1 : 1 ≤ n - 1 := by omega
    refine callsIn_of_wp Try.func44 rfl h73 ?_ hro
    simp only [Try.ntmps44, List.size_toArray, List.length_cons, List.length_nil, Nat.reduceAdd, Nat.reduceSub, Array.replicate_succ, Array.replicate_zero, List.push_toArray, List.append_toArray, List.nil_append, List.cons_append]
    gi_wp2_with (gi_at_call 58; refine (seq_in F (n - 1 - 1) h95 h93 hro (by omega) Bn w.heap.size _ N hN W h1 h2 h3 h4 hlen).mono ?_; rintro e w' ⟨v, rfl, hr, hb⟩)
    go_ret
    exact ⟨_, rfl, hr, hb⟩
  have hn1 : 1 ≤ n := by omega
  refine callsIn_of_wp Try.func22 rfl h20 ?_ hro
  simp only [Try.ntmps22, List.size_toArray, List.length_cons, List.length_nil, Nat.reduceAdd, Nat.reduceSub, Array.replicate_succ, Array.replicate_zero, List.push_toArray, List.append_toArray, List.nil_append, List.cons_append]
  have hB0 : Below w.heap.size w (w.alloc (.cells #[.slice A N.length cap] 22)) := (Below.refl _ w).alloc (Nat.le_refl _) _
  have hL0 : EntsAt w.heap.size (w.alloc (.cells #[.slice A N.length cap] 22)) (.slice A N.length cap) N := hL.up hB0
  gi_wp2_with (first
    | (gi_at_call 45; refine (each_in F (n - 1) h42 hro _ _ _ _).mono ?_; rintro e w' ⟨rfl, rfl⟩)
    | (gi_at_call 44; refine (hcol _ w.heap.size (by simp) hB0.size (by rw [World.cell?_alloc_at _ _ _ _ rfl]; rfl) hL0).mono ?_; rintro e w' ⟨v, rfl, hr, hb⟩))
  go_ret
  exact ⟨_, rfl, hr.mono (by simp), hB0.trans (hb.mono (by simp))⟩
open Go.Vm in
theorem pure_calls2 {P : Program} {f : FuncId} {args : List V} {r : V} (h : ∀ (F : Fr) (w : World) (vs : List Value), Vm.Ground F w → RepL ⟨w, [], fun _ => none, F⟩ args vs →
    Calls P f vs.toArray w fun e w' => ∃ u, e = .returned u ∧ RowKit.Below w.heap.size w w' ∧ ((∀ b, w.heap.size ≤ b → ¬ F.any b) → Rep ⟨w', [], fun _ => none, F⟩ r u)) (ho : own [] 60 r = some r) (hi : ids [] 60 r = []) : Pure P f args r := by
  intro F w vs hF hr
  refine (h F w vs hF hr).mono fun e w' ⟨u, he, hb, hru⟩ => ⟨u, he, hb, [], fun _ => none, r, ⟨fun id o h => by simp [Store.get] at h, fun i j o o' b h => by simp [Store.get] at h, fun id o b h => by simp [Store.get] at h, fun b hb' => hF.out b (Nat.le_trans hb.size hb'), fun b hb' => hF.out b hb', ⟨fun e he => by simp [hF.pin] at he, fun e he => ⟨(hb.block _ (hF.lt he)).trans (hF.gnd e he), fun h => absurd (hF.lt he) (Nat.not_lt.2 h)⟩⟩⟩, hru hF.out, ho, by rw [hi]; exact .nil⟩
theorem flat_at : ∀ (l : List Po) (i j : Nat) (x : Po) (u : Value), l[i]? = some x → (cellsP x)[j]? = some u → (flatP l)[i * 7 + j]? = some u
  | [], i, j, x, u, h, _ => by simp at h
  | y :: l, 0, j, x, u, h, hu => by
    obtain rfl : y = x := by simpa using h
    have hj : j < 7 := by simpa [cellsP] using (List.getElem?_eq_some_iff.1 hu).1
    rw [show flatP (y :: l) = cellsP y ++ flatP l from rfl, List.getElem?_append_left (by simp [cellsP]; omega), show 0 * 7 + j = j by omega]
    exact hu
  | y :: l, i + 1, j, x, u, h, hu => by
    rw [show flatP (y :: l) = cellsP y ++ flatP l from rfl, List.getElem?_append_right (by simp [cellsP]; omega), show (i + 1) * 7 + j - (cellsP y).length = i * 7 + j by simp [cellsP]; omega]
    exact flat_at l i j x u (by simpa using h) hu
open Go.Vm in
theorem lines_rep {F : Fr} {w0 w : World} {v : Value} {l : List Po} (h : w.ownsRow w0.heap.size 62 7 v l.length (flatP l)) (hF : ∀ b, w0.heap.size ≤ b → ¬ F.any b) : Rep ⟨w, [], fun _ => none, F⟩ (.list .part PoT l) v := by
  have hx := h.2
  rcases hx with ⟨rfl, hn⟩ | ⟨g, cap, cur, rfl, hb, hg, hcap, _⟩
  · exact .list ⟨hn.symm, Nat.le_refl _, fun h => absurd h (Nat.lt_irrefl _)⟩ (fun h => by cases h)
  · refine .list ⟨rfl, hcap, fun _ => ⟨g, 0, rfl, ⟨⟨⟨(Array.getElem?_eq_some_iff.1 hg).1, fun _ _ hg => by simp [Store.get] at hg⟩, fun k => hF g hb (.inr k)⟩, fun _ k => hF g hb (.inl k)⟩, fun i x hx => ⟨cellsP x, ?_, fun j u hu => ?_⟩⟩⟩ (fun h => by cases h)
    · exact ⟨[_], _, rfl, rfl, [_], _, rfl, rfl, [_], _, rfl, rfl, [_], _, rfl, rfl, [_], _, rfl, rfl, [_], _, rfl, rfl, rfl⟩
    · have hi : i < List.length (α := Po) l := (List.getElem?_eq_some_iff.1 hx).1
      have hj : j < 7 := by simpa [cellsP] using (List.getElem?_eq_some_iff.1 hu).1
      have := h.cellAt (i * 7 + j) (by omega)
      rw [flat_at l i j x u hx hu] at this
      rw [show 0 + i * PoT.cells + j = i * 7 + j by simp [Ty.cells]]
      exact this
theorem lines_pure (N : List En) (h : N.length ≤ 4611686018427387904 ∧ (linesF N).length ≤ 1000000000) : Vm.Pure Try.prog 22 [.list .tmp EnT N] (.list .part PoT (linesF N)) := by
  refine pure_calls2 (fun F w vs hF hr => ?_) rfl rfl
  obtain ⟨u1, r1, rfl, a1, hr⟩ := hr.cons_inv
  rw [hr.nil_inv]
  have hE := ents_of a1
  obtain ⟨A', cap, rfl, _⟩ := id hE
  refine (callsIn_wide (n := 9)).1 ((lines_in Fence.wide 9 trivial trivial trivial trivial trivial rfl (by omega) A' cap N h.1 h.2 w hE).mono ?_)
  rintro e w' ⟨v, rfl, hv, hb⟩
  exact ⟨v, rfl, hb, fun hf => lines_rep hv hf⟩
open Go.Vm
noncomputable def sp_lines : FSpec Try.prog where
 f := 22
 run := fun
  | [v0] => (asL EnT v0 : Option (List En)).bind fun N => some (N.length ≤ 4611686018427387904 ∧ (linesF N).length ≤ 1000000000, .list .part PoT (linesF N))
  | _ => none
 ok := fun args pre r h hp => by
  split at h
  · rename_i v0
    obtain ⟨N, h0, h⟩ := Option.bind_eq_some_iff.1 h
    exact of_q h hp fun h => (lines_pure N h).weak (.cons (asL_weak h0) .nil)
  · cases h
end Go.Proofs.Yteaajihmfacinaa.Ta
