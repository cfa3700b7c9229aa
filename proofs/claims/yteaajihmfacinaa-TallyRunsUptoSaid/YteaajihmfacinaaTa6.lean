/-
  tally.New: the walk.
-/
import Derived.Test.YteaajihmfacinaaTa5
namespace Go.Proofs.Yteaajihmfacinaa.Ta
open Go Go.RowKit Go.Shelf Go.Proofs
open Go.Vm (Sp Rw GrpAt gblk rwC inC)
attribute [local go_sem] Oper.semAt_some
theorem run_store_fn {P : Program} {w : World} {a : Addr} {m : Mode} (f : Fn) (x y : Array Value) : (store a (.func f x y) m).run P w = stored P w a (.func f x y) m := run_store P w a _ m rfl
attribute [local go_sem] run_store_fn
def Sb (b0 b1 : Nat) (W : World) (c : Nat) : Prop := Sm W b0 c ∨ Sm W b1 c
theorem Sb.same {b0 b1 : Nat} {W W' : World} (h0 : W'.heap[b0]? = W.heap[b0]?) (h1 : W'.heap[b1]? = W.heap[b1]?) (c : Nat) : Sb b0 b1 W' c ↔ Sb b0 b1 W c := or_congr (Sm.same h0) (Sm.same h1)
structure KQ (n₀ n₁ b0 b1 : Nat) (A B : World) : Prop where
  size : A.heap.size ≤ B.heap.size
  low : ∀ {b k : Nat} {v}, b < n₀ → A.cell? ⟨b, k, none⟩ = some v → B.cell? ⟨b, k, none⟩ = some v
  wf : (∀ c, Sb b0 b1 A c → c < A.heap.size) → ∀ c, Sb b0 b1 B c → c < B.heap.size
  own : ∀ {b cur t f}, n₁ ≤ b → ¬ Sb b0 b1 A b → A.heap[b]? = some (.cells cur t f) → B.heap[b]? = some (.cells cur t f) ∧ ¬ Sb b0 b1 B b
theorem kk_new (n₀ n₁ b0 b1 : Nat) (h0 : b0 < n₁) (h1 : b1 < n₁) : KK n₀ n₁ (KQ n₀ n₁ b0 b1) (fun W c => ¬ Sb b0 b1 W c) (fun W => ∀ c, Sb b0 b1 W c → c < W.heap.size) where
  refl W := ⟨Nat.le_refl _, fun _ h => h, fun h => h, fun _ h e => ⟨e, h⟩⟩
  trans h g := ⟨Nat.le_trans h.size g.size, fun hb e => g.low hb (h.low hb e), fun hw => g.wf (h.wf hw), fun hb hn e => (fun k => g.own hb k.2 k.1) (h.own hb hn e)⟩
  size h := h.size
  low h _ _ _ hb e := h.low hb e
  own h _ _ _ _ hb hn e := h.own hb hn e
  wf h hw := h.wf hw
  alloc {W} o hW := by
    have s := Sb.same (b0 := b0) (b1 := b1) (W := W) (W' := W.alloc o) (Below.heap_alloc W o b0 (by omega)) (Below.heap_alloc W o b1 (by omega))
    refine ⟨by simp, fun _ e => cell_up o e, fun hw c hc => ?_, fun _ hn e => ⟨heap_up o e, fun hc => hn ((s _).1 hc)⟩⟩
    have := hw c ((s c).1 hc)
    simp
    omega
  new {W} o hW hw hc := by
    have s := Sb.same (b0 := b0) (b1 := b1) (W := W) (W' := W.alloc o) (Below.heap_alloc W o b0 (by omega)) (Below.heap_alloc W o b1 (by omega))
    exact absurd (hw _ ((s _).1 hc)) (Nat.lt_irrefl _)
set_option maxHeartbeats 1000000 in
theorem putter_in (F : Fence) (n : Nat) (hf : F.fn 33) (hro : F.round = none) (p : Option Addr) (w : World) :
    CallsIn F n Try.prog 33 #[.pointer p] w fun e w' => e = .returned (.func (.func 52) #[] #[.pointer (some ⟨w.heap.size, 0, none⟩)]) ∧ w' = w.alloc (.cells #[.pointer p] 28) := by
  refine callsIn_of_wp Try.func33 rfl hf ?_ hro
  simp only [Try.ntmps33, List.size_toArray, List.length_cons, List.length_nil, Nat.reduceAdd, Nat.reduceSub, Array.replicate_succ, Array.replicate_zero, List.push_toArray, List.append_toArray, List.nil_append, List.cons_append]
  gi_wp2
  go_ret
  exact ⟨rfl, rfl⟩
theorem TW.cells {d : TD} {W : World} {tb b0 b1 c : Nat} (h : TW d W tb b0 b1 (Sm W b0) (Sm W b1)) (hc : Sb b0 b1 W c) : ∃ cs ty, W.heap[c]? = some (.cells cs ty (0, 0)) := by
  have row : ∀ {α : Type} {n : Nat} {enc : α → List Value} {v : Value} {l : List α}, Vm.RowIn W n enc v l → gblk v = some c → ∃ cs ty, W.heap[c]? = some (.cells cs ty (0, 0)) := by
    rintro α n enc v l ⟨A, cap, rfl, h⟩ hg
    rcases h with ⟨h, _⟩ | ⟨g, base, cs, ty, rfl, h1, h2, h3⟩
    · subst h
      cases A <;> simp [gblk] at hg
    · have : g = c := by simpa [gblk, h1] using hg
      subst this
      exact ⟨cs, ty, h2⟩
  rcases hc with ⟨es, clock, z1, i, e, z2, z3⟩ | ⟨es, clock, z1, i, e, z2, z3⟩
  · obtain ⟨p, p1, p2⟩ := h.rows.idx z1 z2
    obtain ⟨es', clock', t1, t2, t3, t4⟩ := h.rows.top
    rw [z1] at t1
    cases t1
    obtain ⟨e', a1, a2, a4⟩ := t3 i p p1
    rw [z2] at a1
    cases a1
    exact row (a4 fun ks e => by cases e).1 z3
  · obtain ⟨p, p1, p2⟩ := h.per.idx z1 z2
    obtain ⟨es', clock', t1, t2, t3, t4⟩ := h.per.top
    rw [z1] at t1
    cases t1
    obtain ⟨e', a1, a2, a4⟩ := t3 i p p1
    rw [z2] at a1
    cases a1
    exact row (a4 fun ks e => by cases e).1 z3
structure NI (w : World) (f : Value) (d : TD) (W : World) : Prop where
  tw : TW d W (w.heap.size + 2) w.heap.size (w.heap.size + 1) (Sm W w.heap.size) (Sm W (w.heap.size + 1))
  pp : W.heap[w.heap.size + 3]? = some (.cells #[.pointer (some ⟨w.heap.size + 2, 0, none⟩)] 28 (0, 0))
  bx : W.heap[w.heap.size + 4]? = some (.cells #[f] 84 (0, 0))
  sb : ∀ c, Sb w.heap.size (w.heap.size + 1) W c → w.heap.size + 6 ≤ c
  bel : Below w.heap.size w W
  size : w.heap.size + 6 ≤ W.heap.size
theorem NI.wf {w : World} {f : Value} {d : TD} {W : World} (h : NI w f d W) (c : Nat) (hc : Sb w.heap.size (w.heap.size + 1) W c) : c < W.heap.size := hc.elim (h.tw.rows.lt c) (h.tw.per.lt c)
theorem NI.keep {w : World} {f : Value} {d : TD} {W W' : World} (h : NI w f d W) (hs : ∀ c, w.heap.size ≤ c → c < w.heap.size + 5 ∨ Sb w.heap.size (w.heap.size + 1) W c → W'.heap[c]? = W.heap[c]?) (hb : Below w.heap.size w W') (hz : W.heap.size ≤ W'.heap.size) : NI w f d W' := by
  have e0 : W'.heap[w.heap.size]? = W.heap[w.heap.size]? := hs _ (by omega) (.inl (by omega))
  have e1 : W'.heap[w.heap.size + 1]? = W.heap[w.heap.size + 1]? := hs _ (by omega) (.inl (by omega))
  have hk := h.tw.keep (W' := W') (fun c hc => by
    rcases hc with rfl | rfl | rfl | hc | hc
    · exact hs _ (by omega) (.inl (by omega))
    · exact hs _ (by omega) (.inl (by omega))
    · exact hs _ (by omega) (.inl (by omega))
    · exact hs _ (by have := h.sb _ (.inl hc); omega) (.inr (.inl hc))
    · exact hs _ (by have := h.sb _ (.inr hc); omega) (.inr (.inr hc)))
  exact ⟨hk.exact.1, (hs _ (by omega) (.inl (by omega))).trans h.pp, (hs _ (by omega) (.inl (by omega))).trans h.bx, fun c hc => h.sb c ((Sb.same e0 e1 c).1 hc), hb, Nat.le_trans h.size hz⟩
theorem NI.own {w : World} {f : Value} {β : Type} (B : Nat) (hB : w.heap.size + 6 ≤ B) (D : β → TD) : OwnFrom B (fun s W => NI w f (D s) W) := fun s W W' row h hg hr => by
  have hsz := h.size
  have hnb : ∀ c, c < w.heap.size + 5 ∨ Sb w.heap.size (w.heap.size + 1) W c → row ≠ some c := fun c hc e => by
    obtain ⟨h1, o, h2, h3⟩ := hr c e
    rcases hc with hc | hc
    · omega
    · obtain ⟨cs, ty, h4⟩ := h.tw.cells hc
      rw [h4] at h2
      cases h2
      cases h3
  refine h.keep (fun c _ hc => hg.block c ?_ (hnb c hc).symm) (h.bel.grown hg (by omega) fun k e => ?_) hg.size
  · rcases hc with hc | hc
    · omega
    · exact h.wf c hc
  · have := (hr k e).1
    omega
theorem NI.put {w : World} {f : Value} {d : TD} {W : World} (h : NI w f d W) {u : Pu} (hu : POk d u) :
    Calls Try.prog 52 #[.int .i64 u.1, .agg #[.int .i64 u.2.1, .int .i64 u.2.2.1, .int .i64 u.2.2.2.1, .int .i64 u.2.2.2.2], .pointer (some ⟨w.heap.size + 3, 0, none⟩)] W fun e W' => (∃ v, e = .returned v) ∧ NI w f (putD d u) W' ∧ KQ w.heap.size (w.heap.size + 6) w.heap.size (w.heap.size + 1) W W' ∧ KeepsFrom (w.heap.size + 6) W W' := by
  have hsz := h.size
  have hnS : ∀ c, c < w.heap.size + 6 → ¬ Sb w.heap.size (w.heap.size + 1) W c := fun c hc hs => by have := h.sb c hs; omega
  refine (put_calls h.tw h.pp ⟨by omega, by omega, by omega, fun e => hnS _ (by omega) (.inl e), fun e => hnS _ (by omega) (.inr e)⟩ hu).mono ?_
  rintro e W' ⟨he, hp, hsz', hos, htp, hout, hst, S0', S1', hT, hp0, hp1, hS⟩
  obtain ⟨hT, hs0, hs1⟩ := hT.exact
  have hSb : ∀ c, Sb w.heap.size (w.heap.size + 1) W' c → c < W.heap.size → Sb w.heap.size (w.heap.size + 1) W c := fun c hc hlt => hS c (hc.imp (hs0 c) (hs1 c)) hlt
  have hkeep : ∀ c, c < W.heap.size → c < w.heap.size ∨ c = w.heap.size + 4 ∨ (w.heap.size + 6 ≤ c ∧ ¬ Sb w.heap.size (w.heap.size + 1) W c) → W'.heap[c]? = W.heap[c]? := fun c hc hk => by
    have hn : ¬ Sb w.heap.size (w.heap.size + 1) W c := by
      rcases hk with hk | hk | hk
      · exact hnS c (by omega)
      · exact hnS c (by omega)
      · exact hk.2
    exact hst c hc (by omega) (by omega) (by omega) (by omega) (fun e => hn (.inl e)) (fun e => hn (.inr e))
  refine ⟨he, ⟨hT, hp, (hkeep _ (by omega) (.inr (.inl rfl))).trans h.bx, fun c hc => ?_, ?_, Nat.le_trans hsz hsz'⟩, ⟨hsz', fun {b k v} hb hv => ?_, fun hw c hc => hc.elim (hT.rows.lt c) (hT.per.lt c), fun {b cur t f'} hb hn he' => ?_⟩, ⟨hsz', fun k o hk ho hc => ?_⟩⟩
  · rcases Nat.lt_or_ge c W.heap.size with hlt | hge
    · exact h.sb c (hSb c hc hlt)
    · omega
  · refine ⟨hos.trans h.bel.os, htp.trans h.bel.tape, hout.trans h.bel.output, Nat.le_trans h.bel.size hsz', fun k hk => (hkeep k (by omega) (.inl hk)).trans (h.bel.block k hk)⟩
  · have := hkeep b (by omega) (.inl hb)
    exact (World.cell?_of_block (a := ⟨b, k, none⟩) this).trans hv
  · have hlt := (Array.getElem?_eq_some_iff.1 he').1
    exact ⟨(hkeep b hlt (.inr (.inr ⟨hb, hn⟩))).trans he', fun hs => hn (hSb b hs hlt)⟩
  · refine (hkeep k (Array.getElem?_eq_some_iff.1 ho).1 (.inr (.inr ⟨hk, fun hs => ?_⟩))).trans ho
    obtain ⟨cs, ty, h4⟩ := h.tw.cells hs
    rw [h4] at ho
    cases ho
    cases hc
theorem NI.fin {w : World} {f : Value} {d : TD} {W W' : World} (h : NI w f d W) (e : Int) (ht : W'.heap[w.heap.size + 2]? = some (.cells #[.map (some w.heap.size), .map (some (w.heap.size + 1)), .int .i64 e, .int .i64 d.n] 83 (0, 0)))
    (hs : ∀ c, c ≠ w.heap.size + 2 → c < w.heap.size + 5 ∨ Sb w.heap.size (w.heap.size + 1) W c → W'.heap[c]? = W.heap[c]?) : TW { d with e := e } W' (w.heap.size + 2) w.heap.size (w.heap.size + 1) (Sm W' w.heap.size) (Sm W' (w.heap.size + 1)) ∧ ∀ c, Sb w.heap.size (w.heap.size + 1) W' c → w.heap.size ≤ c := by
  have e0 : W'.heap[w.heap.size]? = W.heap[w.heap.size]? := hs _ (by omega) (.inl (by omega))
  have e1 : W'.heap[w.heap.size + 1]? = W.heap[w.heap.size + 1]? := hs _ (by omega) (.inl (by omega))
  have hk : TW { d with e := e } W' (w.heap.size + 2) w.heap.size (w.heap.size + 1) (Sm W w.heap.size) (Sm W (w.heap.size + 1)) :=
    ⟨ht, h.tw.rows.keep fun c hc => hc.elim (fun hc => by subst hc; exact e0) fun hc => hs c (fun q => h.tw.n1.1 (q ▸ hc)) (.inr (.inl hc)),
      h.tw.per.keep fun c hc => hc.elim (fun hc => by subst hc; exact e1) fun hc => hs c (fun q => h.tw.n1.2.1 (q ▸ hc)) (.inr (.inr hc)), h.tw.n0, h.tw.n1, h.tw.ap⟩
  exact ⟨hk.exact.1, fun c hc => by have := h.sb c ((Sb.same e0 e1 c).1 hc); omega⟩
theorem puts_mem {N : List En} {u : Pu} (h : u ∈ putsL N) : ∃ x ∈ N, u.1 = x.1 ∧ u.2 ∈ x.2.2 := by
  obtain ⟨x, hx, hu⟩ := List.mem_flatMap.1 h
  obtain ⟨y, hy, rfl⟩ := List.mem_map.1 hu
  exact ⟨x, hx, rfl, hy⟩
abbrev fnB (w : World) : Value := .func (.func 52) #[] #[.pointer (some ⟨w.heap.size + 3, 0, none⟩)]
def nW (w : World) (v : Value) : World := (((((w.alloc (.map #[] 0)).alloc (.map #[] 0)).alloc (.cells #[.map (some w.heap.size), .map (some (w.heap.size + 1)), .int .i64 0, .int .i64 0] 83)).alloc (.cells #[.pointer (some ⟨w.heap.size + 2, 0, none⟩)] 28)).alloc (.cells #[fnB w] 84)).alloc (.cells #[v] 22)
theorem nW_size (w : World) (v : Value) : (nW w v).heap.size = w.heap.size + 6 := by simp [nW]
theorem nW_at (w : World) (v : Value) : (nW w v).heap[w.heap.size]? = some (.map #[] 0) ∧ (nW w v).heap[w.heap.size + 1]? = some (.map #[] 0) ∧ (nW w v).heap[w.heap.size + 2]? = some (.cells #[.map (some w.heap.size), .map (some (w.heap.size + 1)), .int .i64 0, .int .i64 0] 83 (0, 0)) ∧
    (nW w v).heap[w.heap.size + 3]? = some (.cells #[.pointer (some ⟨w.heap.size + 2, 0, none⟩)] 28 (0, 0)) ∧ (nW w v).heap[w.heap.size + 4]? = some (.cells #[fnB w] 84 (0, 0)) ∧ (nW w v).heap[w.heap.size + 5]? = some (.cells #[v] 22 (0, 0)) := by
  have k : ∀ (X : World) (o : _root_.Go.Obj) (j : Nat), X.heap.size = j → (X.alloc o).heap[j]? = some o := fun X o j e => by subst e; exact World.alloc_heap_new X o
  refine ⟨?_, ?_, ?_, ?_, ?_, ?_⟩
  · exact heap_up _ (heap_up _ (heap_up _ (heap_up _ (heap_up _ (k _ _ _ rfl)))))
  · exact heap_up _ (heap_up _ (heap_up _ (heap_up _ (k _ _ _ (by simp)))))
  · exact heap_up _ (heap_up _ (heap_up _ (k _ _ _ (by simp))))
  · exact heap_up _ (heap_up _ (k _ _ _ (by simp)))
  · exact heap_up _ (k _ _ _ (by simp))
  · exact k _ _ _ (by simp)
theorem nW_below (w : World) (v : Value) : Below w.heap.size w (nW w v) :=
  ((((((Below.refl _ w).alloc (Nat.le_refl _) _).alloc (by simp) _).alloc (by simp; omega) _).alloc (by simp; omega) _).alloc (by simp; omega) _).alloc (by simp; omega) _
theorem grp_nil {α : Type} (n : Nat) (enc : α → List Value) {W : World} {b : Nat} (h : W.heap[b]? = some (.map #[] 0)) : GrpAt n enc [] none W b (fun _ => False) :=
  ⟨List.nodup_nil, (fun p hp => by cases hp), fun c hc => hc.elim, fun h => h, (fun ks e => by cases e), #[], 0, h, rfl, fun i p hp => by simp at hp, fun i j p q e e' g hp => by simp at hp, fun i e he => by simp at he, rfl⟩
theorem nW_sb {w W : World} {v : Value} (h : Below (w.heap.size + 6) (nW w v) W) (c : Nat) : ¬ Sb w.heap.size (w.heap.size + 1) W c := by
  have k : ∀ b, W.heap[b]? = some (.map #[] 0) → ¬ Sm W b c := by
    rintro b e ⟨es, clock, h1, i, x, h2, _⟩
    rw [e] at h1
    cases h1
    simp at h2
  rintro (hs | hs)
  · exact k _ ((h.block _ (by omega)).trans (nW_at w v).1) hs
  · exact k _ ((h.block _ (by omega)).trans (nW_at w v).2.1) hs
theorem nW_ni (w : World) (v : Value) : NI w (fnB w) tal0 (nW w v) := by
  obtain ⟨a0, a1, a2, a3, a4, a5⟩ := nW_at w v
  have hT : TW tal0 (nW w v) (w.heap.size + 2) w.heap.size (w.heap.size + 1) (fun _ => False) (fun _ => False) :=
    ⟨a2, grp_nil _ _ a0, grp_nil _ _ a1, ⟨by omega, by omega, by omega⟩, ⟨fun h => h, fun h => h, fun h => h, fun h => h⟩, fun c h => h.elim⟩
  exact ⟨hT.exact.1, a3, a4, fun c hc => absurd hc (nW_sb (v := v) (Below.refl _ _) c), nW_below w v, by rw [nW_size]; exact Nat.le_refl _⟩
set_option maxRecDepth 100000 in
set_option maxHeartbeats 4000000 in
theorem new_in (n : Nat) (hn : 8 ≤ n) (A : Option Addr) (cap : Nat) (N : List En) (hN : N.length ≤ 4611686018427387904) (hT : (linesF N).length < 3518437208781) (hok : ∀ x ∈ N, Vm.WordI x.1 ∧ ∀ y ∈ x.2.2, WL y) (w : World) (hL : EntsAt w.heap.size w (.slice A N.length cap) N) :
    CallsIn Fence.wide n Try.prog 29 #[.slice A N.length cap] w fun e W' => ∃ tb b0 b1, e = .returned (.pointer (some ⟨tb, 0, none⟩)) ∧ Below w.heap.size w W' ∧ TW (newD N) W' tb b0 b1 (Sm W' b0) (Sm W' b1) ∧
      w.heap.size ≤ tb ∧ w.heap.size ≤ b0 ∧ w.heap.size ≤ b1 ∧ ∀ c, Sb b0 b1 W' c → w.heap.size ≤ c := by
  have h1 : 1 ≤ n := by omega
  have hro : Fence.wide.round = none := rfl
  have hmm := @run_makeMap Try.prog
  have hf1 : Fence.wide.fn 33 := trivial
  have hf2 : Fence.wide.fn 45 := trivial
  have hf3 : Fence.wide.fn 59 := trivial
  have hf4 : Fence.wide.fn 52 := trivial
  refine callsIn_of_wp_marks Try.func29 rfl trivial ?_ hro
  simp only [Try.ntmps29, List.size_toArray, List.length_cons, List.length_nil, Nat.reduceAdd, Nat.reduceSub, Array.replicate_succ, Array.replicate_zero, List.push_toArray, List.append_toArray, List.nil_append, List.cons_append]
  have hb := Boxed.new ((((w.alloc (.map #[] 0)).alloc (.map #[] 0)).alloc (.cells #[.map (some w.heap.size), .map (some (w.heap.size + 1)), .int .i64 0, .int .i64 0] 83)).alloc (.cells #[.pointer (some ⟨w.heap.size + 1 + 1, 0, none⟩)] 28)) 84 .nilFunc
  simp only [World.size_alloc] at hb
  have hcb := hb.cell
  have hfb := hb.frozen
  gi_wp2_with (first | (gi_at_call 33; refine (putter_in Fence.wide (n - 1) trivial hro _ _).mono ?_; rintro e w' ⟨rfl, rfl⟩) | (gi_at_call 45; refine (each_in Fence.wide (n - 1) trivial hro _ _ _ _).mono ?_; rintro e w' ⟨rfl, rfl⟩))
  have hW0 := nW_size w (.slice A N.length cap)
  have hni := nW_ni w (.slice A N.length cap)
  have hbel := nW_below w (.slice A N.length cap)
  have hat := nW_at w (.slice A N.length cap)
  have hsb := @nW_sb w
  simp only [show w.heap.size + 1 + 1 + 1 + 1 + 1 = w.heap.size + 5 from rfl, show w.heap.size + 1 + 1 + 1 + 1 = w.heap.size + 4 from rfl, show w.heap.size + 1 + 1 + 1 = w.heap.size + 3 from rfl, show w.heap.size + 1 + 1 = w.heap.size + 2 from rfl]
  refine Eq.mpr (congrArg (Code.wpIn _ _ _ _ _ _) (show _ = nW w (.slice A N.length cap) from rfl)) ?_
  obtain ⟨W0, hW0e⟩ : ∃ W0, nW w (.slice A N.length cap) = W0 := ⟨_, rfl⟩
  have hsb0 : ∀ W, Below (w.heap.size + 6) W0 W → ∀ c, ¬ Sb w.heap.size (w.heap.size + 1) W c := fun W h => hsb (v := .slice A N.length cap) (hW0e ▸ h)
  rw [hW0e] at hni hbel hat hW0 ⊢
  have hc5 : W0.cell? ⟨w.heap.size + 5, 0, none⟩ = some (.slice A N.length cap) := by simp [World.cell?, hat.2.2.2.2.2]
  clear hW0e hsb hat hb hcb hfb
  have hL0 : EntsAt w.heap.size W0 (.slice A N.length cap) N := hL.keep (kk_new w.heap.size (w.heap.size + 6) w.heap.size (w.heap.size + 1) (by omega) (by omega)) ⟨by omega, fun {b k v} hb hv => (hbel.cell (p := ⟨b, k, none⟩) hb).trans hv, fun _ c hc => hni.wf c hc, fun {b cur t f} hb _ he => by have := (Array.getElem?_eq_some_iff.1 he).1; omega⟩
  refine wpIn_rangeFunc_ownH hro h1 (gf := 59) (lb := #[.pointer (some ⟨w.heap.size + 5, 0, none⟩)]) rfl hf3 (enters_of Try.func59 (by kernel_rfl) rfl)
    (each_stops (kk_new w.heap.size (w.heap.size + 6) w.heap.size (w.heap.size + 1) (by omega) (by omega)) Fence.wide (n - 1) hf3 hro (by omega) (w.heap.size + 5) _ N hN (by omega) W0 (by omega) (by omega) (by omega)
      (fun W hb => ⟨⟨hb.size, fun {b k v} hb' hv => (hb.cell (p := ⟨b, k, none⟩) (by show b < _; omega)).trans hv, fun _ c hc => absurd hc (hsb0 W (hW0 ▸ hb) c), fun {b cur t f} hb' _ he => by have := (Array.getElem?_eq_some_iff.1 he).1; omega⟩, fun c hc => absurd hc (hsb0 W (hW0 ▸ hb) c)⟩) hc5 hL0)
    (fun h g => (kk_new w.heap.size (w.heap.size + 6) w.heap.size (w.heap.size + 1) (by omega) (by omega)).trans h g) (fun W l o o' hlw hl ho _ => ?kb) (Below.refl _ _) (fun _ => rfl)
    (fun pre W => NI w (fnB w) (putsD tal0 ((poV pre).map puP)) W)
    (fun c pre W => False)
    (NI.own _ (by omega) _)
    (fun c => fun s X Y row hs hg hr => hs)
    hni
    (fun x a' W => ∃ Bx, W.cell? ⟨Bx, 2, none⟩ = some (.int .i64 x.1.2.2.1) ∧ W.cell? ⟨Bx, 3, none⟩ = some (.int .i64 x.1.2.2.2.1) ∧ W.cell? ⟨Bx, 4, none⟩ = some (.int .i64 x.1.2.2.2.2.1) ∧ W.cell? ⟨Bx, 5, none⟩ = some (.int .i64 x.1.2.2.2.2.2.1) ∧ W.cell? ⟨Bx, 6, none⟩ = some (.int .i64 x.1.2.2.2.2.2.2) ∧ a' = { tmps := #[.slice A N.length cap, undef, .pointer none, .pointer (some ⟨w.heap.size + 2, 0, none⟩), .pointer (some ⟨w.heap.size + 4, 0, none⟩), .pointer (some ⟨Bx, 0, none⟩), .map (some w.heap.size), .map (some (w.heap.size + 1)), .agg #[.map (some w.heap.size), .map (some (w.heap.size + 1)), .int .i64 0, .int .i64 0], .pointer (some ⟨w.heap.size + 2, 0, none⟩), .pointer (some ⟨w.heap.size + 2, 0, none⟩), fnB w, .slice A N.length cap, .func (.func 59) #[] #[.pointer (some ⟨w.heap.size + 5, 0, none⟩)], .agg #[.int .i64 x.1.1, .int .i64 x.1.2.1, .int .i64 x.1.2.2.1, .int .i64 x.1.2.2.2.1, .int .i64 x.1.2.2.2.2.1, .int .i64 x.1.2.2.2.2.2.1, .int .i64 x.1.2.2.2.2.2.2], undef, undef, undef, undef, undef, undef, undef, undef, undef, undef, undef, undef], defers := [] })
    (fun x a' _ X Y row hs hg hr => by
      obtain ⟨Bx, c2, c3, c4, c5, c6, e⟩ := hs
      exact ⟨Bx, cell_kept c2 hg (fun r e => (hr r e).2), cell_kept c3 hg (fun r e => (hr r e).2), cell_kept c4 hg (fun r e => (hr r e).2), cell_kept c5 hg (fun r e => (hr r e).2), cell_kept c6 hg (fun r e => (hr r e).2), e⟩)
    ?assign ?body ?done ?stop
  case kb =>
    have hne : ∀ k, k < w.heap.size + 6 → (W.putObj l o').heap[k]? = W.heap[k]? := fun k hk => World.putObj_heap_other (by omega)
    have hs := fun c => Sb.same (hne w.heap.size (by omega)) (hne (w.heap.size + 1) (by omega)) c
    refine ⟨by rw [World.putObj_size]; exact Nat.le_refl _, fun {b k v} hb hv => (World.cell?_of_block (a := ⟨b, k, none⟩) (hne b (by omega))).trans hv, fun hw c hc => by rw [World.putObj_size]; exact hw c ((hs c).1 hc), fun {b cur t f} hb hn he => ⟨(World.putObj_heap_other (fun e => ?_)).trans he, fun hc => hn ((hs b).1 hc)⟩⟩
    subst e
    rw [he] at hl
    cases hl
    cases ho
  case assign =>
    rintro l pre ⟨x, hx⟩ W K hI hK
    gi_wp2
    have hi2 := (NI.own (w := w) (f := fnB w) _ (Nat.le_refl (w.heap.size + 6)) (fun pre : List (PoIn N) => putsD tal0 ((poV pre).map puP))).alloc (.cells #[.int .i64 x.1, .int .i64 x.2.1, .int .i64 x.2.2.1, .int .i64 x.2.2.2.1, .int .i64 x.2.2.2.2.1, .int .i64 x.2.2.2.2.2.1, .int .i64 x.2.2.2.2.2.2] 62) hI
    refine hK _ _ ((KeepsOthers.alloc _ _).from _) ((kk_new w.heap.size (w.heap.size + 6) w.heap.size (w.heap.size + 1) (by omega) (by omega)).alloc _ hI.size) hi2 ⟨W.heap.size, ?_⟩
    refine ⟨?_, ?_, ?_, ?_, ?_, rfl⟩ <;> · rw [World.cell?_alloc_at _ _ _ _ rfl]; rfl
  case body =>
    rintro l pre ⟨x, hx⟩ a' W hl ⟨r, hr⟩ hI ⟨Bx, c2, c3, c4, c5, c6, rfl⟩ hlt
    have hcb : W.cell? ⟨w.heap.size + 4, 0, none⟩ = some (fnB w) := Boxed.cell (t := 84) hI.bx
    gi_wp2
    refine ⟨fun _ => by omega, ?_⟩
    refine CallsIn.mono (show CallsIn (Fence.wide.inRound l) _ _ _ _ _ _ from (callsIn_wide (n := n - 1 - 1 - 1)).2 (hI.put (u := puP x) ?pok)) ?_
    case pok =>
      have hpu : puP x ∈ putsL N := by
        rw [← lines_put]
        exact List.mem_map_of_mem hx
      obtain ⟨en, he, q1, q2⟩ := puts_mem hpu
      have hte := (Tells.nil 0).puts ((poV pre).map puP)
      rw [List.nil_append] at hte
      refine ⟨⟨_, hte⟩, ?_, q1 ▸ (hok en he).1, (hok en he).2 _ q2⟩
      rw [show (putsD tal0 ((poV pre).map puP)).n = _ from hte.n]
      simp only [List.length_map, poV, big]
      omega
    rintro e w' ⟨⟨v, rfl⟩, h1, h2, h3⟩
    gi_wp2
    refine ⟨hW0 ▸ h3, h2, ?_⟩
    show NI w (fnB w) (putsD tal0 ((poV (pre ++ [⟨x, hx⟩])).map puP)) w'
    rw [poV, List.map_append, List.map_append, putsD_app]
    exact h1
  case done =>
    rintro D ys W hD hys hI hK
    have ht := hI.tw.top
    have ht2 : ∃ v, W.cell? ⟨w.heap.size + 2, 2, none⟩ = some v := ⟨_, by simp only [World.cell?, ht]; rfl⟩
    obtain ⟨v2, ht2⟩ := ht2
    have ht3 : W.frozen? ⟨w.heap.size + 2, 2, none⟩ = false := by simp [World.frozen?, ht]
    have hput : (poV ys).map puP = putsL N := by rw [hys, lines_put]
    rw [hput] at hI ht
    gi_wp2
    have hne : D ≠ w.heap.size + 2 := by omega
    have hK' := (KeepsOthers.setCell W ⟨w.heap.size + 2, 2, none⟩ (.int .i64 (N.length : Int))).same D _ hK rfl
    refine ⟨by simp, .inl ⟨_, _, rfl, run_takeDeferred hK', ?_⟩⟩
    refine ⟨.pointer (some ⟨w.heap.size + 2, 0, none⟩), (by simp [results, Try.f29, go_sem]), ?_⟩
    have hst : ∀ c, c ≠ w.heap.size + 2 → c ≠ D → ((W.setCell ⟨w.heap.size + 2, 2, none⟩ (.int .i64 (N.length : Int))).putObj D (.deferred none)).heap[c]? = W.heap[c]? := fun c h1 h2 =>
      (World.putObj_heap_other h2).trans (Below.heap_setCell _ ⟨w.heap.size + 2, 2, none⟩ _ _ h1)
    have hfin := hI.fin (W' := (W.setCell ⟨w.heap.size + 2, 2, none⟩ (.int .i64 (N.length : Int))).putObj D (.deferred none)) N.length
      (by rw [World.putObj_heap_other hne.symm]; simp [World.setCell, ht, Array.getElem?_modify]) (fun c hc hk => hst c hc (fun e => by
        subst e
        rcases hk with hk | hk
        · omega
        · obtain ⟨cs, ty, h4⟩ := hI.tw.cells hk
          rw [h4] at hK
          cases hK))
    refine ⟨_, _, _, rfl, (hI.bel.setCell (p := ⟨w.heap.size + 2, 2, none⟩) (by simp) _).trans (belowK_b (w := w) (Nat.le_refl _) _ D _ _ (by omega) hK' rfl rfl), hfin.1, by omega, by omega, by omega, hfin.2⟩
  case stop =>
    rintro D c pre W hD hpre h hK
    exact h.elim
end Go.Proofs.Yteaajihmfacinaa.Ta
