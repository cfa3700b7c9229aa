/-
  journal.Line: the walk.
-/
import Derived.Test.YteaajihmfacinaaTa21
import Derived.Laws.Tables
import Derived.Laws.CopyOwn
import Derived.OwnWalkIn
namespace Go.Proofs.Yteaajihmfacinaa.Ta
open Go Go.RowKit Go.Shelf Go.Proofs
attribute [local go_sem] Oper.semAt_some
structure KP (n₀ n₁ : Nat) (A B : World) : Prop where
  size : A.heap.size ≤ B.heap.size
  low : ∀ {b k : Nat} {v}, b < n₀ → A.cell? ⟨b, k, none⟩ = some v → B.cell? ⟨b, k, none⟩ = some v
  own : ∀ {b cur t f}, n₁ ≤ b → A.heap[b]? = some (.cells cur t f) → B.heap[b]? = some (.cells cur t f)
theorem kk_plain (n₀ n₁ : Nat) : KK n₀ n₁ (KP n₀ n₁) (fun _ _ => True) (fun _ => True) where
  refl W := ⟨Nat.le_refl _, fun _ h => h, fun _ h => h⟩
  trans h g := ⟨Nat.le_trans h.size g.size, fun hb e => g.low hb (h.low hb e), fun hb e => g.own hb (h.own hb e)⟩
  size h := h.size
  low h _ _ _ hb e := h.low hb e
  own h _ _ _ _ hb _ e := ⟨h.own hb e, trivial⟩
  wf _ _ := trivial
  alloc {W} o _ := ⟨by simp, fun _ e => cell_up o e, fun _ e => heap_up o e⟩
  new _ _ _ := trivial
def lineF (N : List En) (id : Int) : Po × Bool := match (linesF N).find? fun x => decide (x.1 = id) with
  | some x => (x, true)
  | none => ((0, 0, 0, 0, 0, 0, 0), false)
theorem num_at : ∀ (P : List Po) (k : Nat), NumB P k → ∀ (i : Nat) x, P[i]? = some x → x.1 = ((k + i + 1 : Nat) : Int)
  | [], _, _, i, x, h => by simp at h
  | y :: r, k, h, 0, x, hx => by
    obtain rfl : y = x := by simpa using hx
    rw [h.1]
  | y :: r, k, h, i + 1, x, hx => by
    rw [num_at r (k + 1) h.2 i x (by simpa using hx), show k + 1 + i + 1 = k + (i + 1) + 1 by omega]
theorem lines_at {N : List En} {i : Nat} {x : Po} (h : (linesF N)[i]? = some x) : x.1 = ((i + 1 : Nat) : Int) := by
  rw [num_at _ 0 (num_po N 0 0) i x h, Nat.zero_add]
theorem lines_one {N : List En} {x y : Po} (hx : x ∈ linesF N) (hy : y ∈ linesF N) (h : x.1 = y.1) : x = y := by
  obtain ⟨i, hi⟩ := List.mem_iff_getElem?.1 hx
  obtain ⟨j, hj⟩ := List.mem_iff_getElem?.1 hy
  have e1 := lines_at hi
  have e2 := lines_at hj
  have : i = j := by omega
  subst this
  rw [hi] at hj
  exact Option.some.inj hj
theorem line_of {N : List En} {x : Po} (hx : x ∈ linesF N) : lineF N x.1 = (x, true) := by
  unfold lineF
  match h : (linesF N).find? fun y => decide (y.1 = x.1) with
  | some y =>
    have h1 := List.mem_of_find?_eq_some h
    have h2 := List.find?_some h
    obtain rfl := lines_one h1 hx (by simpa using h2)
    rw [h]
  | none => exact absurd (List.find?_eq_none.1 h x hx) (by simp)
def BoxR (W : World) (B : Nat) (t : TypeId) (cs : Array Value) : Prop := W.heap[B]? = some (.cells cs t (0, 0))
theorem BoxR.lt {W : World} {B : Nat} {t : TypeId} {cs : Array Value} (h : BoxR W B t cs) : B < W.heap.size := (Array.getElem?_eq_some_iff.1 h).1
theorem BoxR.kept {W W' : World} {row : Option Nat} {B : Nat} {t : TypeId} {v : Array Value} (h : BoxR W B t v) (hg : W.grownBy W' row) (hne : some B ≠ row) : BoxR W' B t v := (hg.block B h.lt hne).trans h
theorem BoxR.alloc {W : World} {B : Nat} {t : TypeId} {v : Array Value} (h : BoxR W B t v) (o : _root_.Go.Obj) : BoxR (W.alloc o) B t v := h.kept (World.grownBy_alloc W o none) (by simp)
theorem BoxR.own {W W' : World} {row : Option Nat} {B : Nat} {t : TypeId} {v : Array Value} (h : BoxR W B t v) (hg : W.grownBy W' row) (hr : ∀ r, row = some r → ∃ o : _root_.Go.Obj, W.heap[r]? = some o ∧ o.isCells = false) : BoxR W' B t v :=
  h.kept hg (fun e' => by obtain ⟨o, ho, hc⟩ := hr B e'.symm; rw [show W.heap[B]? = _ from h] at ho; cases ho; cases hc)
theorem BoxR.cellAt {W : World} {B k : Nat} {t : TypeId} {cs : Array Value} {v : Value} (h : BoxR W B t cs) (hv : cs[k]? = some v) : W.cell? ⟨B, k, none⟩ = some v := by simp [World.cell?, show W.heap[B]? = _ from h, hv]
theorem BoxR.set {W : World} {B k : Nat} {t : TypeId} {v : Array Value} (u : Value) (h : BoxR W B t v) : BoxR (W.setCell ⟨B, k, none⟩ u) B t (v.setIfInBounds k u) := by
  rw [setCell_eq_setRow _ _ _ _ _ _ _ h]
  exact setRow_heap _ _ _ _ _ _ h
theorem BoxR.other {W : World} {B k B' : Nat} {t : TypeId} {v : Array Value} (h : BoxR W B t v) (hne : B ≠ B') (u : Value) : BoxR (W.setCell ⟨B', k, none⟩ u) B t v :=
  (Below.heap_setCell _ _ _ B (fun e => hne e)).trans h
theorem wpListIn_store_row {F : Fence} {nF : Nat} {P : Program} {w : World} {ops : Array Oper} {rest : List Oper} {o : Oper} {a : Act} {Q : Exit → Act → World → Prop} (hgd : o.guard = none) (ty : TypeId) (x y : Operand) (ho : o.op = .store ty x y)
    (g : Nat) (cells : Array Value) (hx : a.eval x = .pointer (some ⟨g, 0, none⟩)) (hy : a.eval y = .agg cells)
    (t : TypeId) (old : Array Value) (hg : w.heap[g]? = some (.cells old t (0, 0))) (hi : (P.info? ty).map (·.size) = some cells.size)
    (hold : old.size = cells.size) (h1 : cells.all (·.oneCell') = true)
    (h : wpListIn F nF P ops Q rest (a.put o.dst undef) (w.setRow g cells)) : wpListIn F nF P ops Q (o :: rest) a w := by
  refine wpListIn_plain hgd fun K' hK' => ?_
  unfold Oper.wpIn
  refine ⟨by simp [Oper.about, ho], ?_⟩
  rw [Oper.semAt_plain F _ _ (by rw [ho]; intro c hc'; cases hc')]
  simp only [execOp, ho, hx, hy, Instr.storeAt, Instr.sureAddr, Sem.run_bind, Sem.run_pure, Result.andThen_ok, run_storeVar_row w g t ty old cells hg hi hold h1]
  exact hK' _ _ h
def Stp (p : Prop) : Prop := p
theorem stp {F : Fence} {nF : Nat} {P : Program} {w : World} {ops : Array Oper} {rest : List Oper} {d : Option Tmp} {ty t : TypeId} {x y : Operand} {ps : String} {af : Array Edge} {a : Act} {Q : Exit → Act → World → Prop} (h : Stp (wpListIn F nF P ops Q (⟨d, .store ty x y, t, ps, af, none⟩ :: rest) a w)) : wpListIn F nF P ops Q (⟨d, .store ty x y, t, ps, af, none⟩ :: rest) a w := h
theorem BoxR.row {W : World} {B : Nat} {t : TypeId} {v : Array Value} (u : Array Value) (h : BoxR W B t v) : BoxR (W.setRow B u) B t u := setRow_heap _ _ _ _ _ _ h
theorem boxed_row {W : World} {B B' : Nat} {t : TypeId} {v : Value} (h : Boxed W B t v) (hne : B ≠ B') (u : Array Value) : Boxed (W.setRow B' u) B t v := (setRow_other _ _ _ _ hne).trans h
theorem keeps_row {W : World} {B : Nat} {t : TypeId} {v : Array Value} (u : Array Value) (h : BoxR W B t v) : KeepsOthers W (W.setRow B u) := ⟨by simp, fun b o hb ho => by
  by_cases e : b = B
  · subst e
    rw [show W.heap[b]? = _ from h] at hb; cases hb; cases ho
  · exact (setRow_other _ _ _ _ e).trans hb⟩
abbrev poA (x : Po) : Array Value := #[.int .i64 x.1, .int .i64 x.2.1, .int .i64 x.2.2.1, .int .i64 x.2.2.2.1, .int .i64 x.2.2.2.2.1, .int .i64 x.2.2.2.2.2.1, .int .i64 x.2.2.2.2.2.2]
abbrev po0 : Po := (0, 0, 0, 0, 0, 0, 0)
theorem KP.put {n₀ n₁ : Nat} {W : World} {l : Nat} {o : _root_.Go.Obj} (o' : _root_.Go.Obj) (hl : W.heap[l]? = some o) (ho : o.isCells = false) : KP n₀ n₁ W (W.putObj l o') :=
  ⟨by rw [World.putObj_size]; exact Nat.le_refl _, fun {b k v} hb h => cell_kept h (grownBy_putObj' W l o') (fun r e => (by cases e; exact ⟨o, hl, ho⟩)), fun {b cur t f} _ h =>
    (World.putObj_heap_other (fun e => by subst e; rw [h] at hl; cases hl; cases ho)).trans h⟩
theorem KP.below {n₀ n₁ : Nat} {A B : World} (h : Below A.heap.size A B) : KP n₀ n₁ A B :=
  ⟨h.size, fun {b k v} _ e => (by
    rcases Nat.lt_or_ge b A.heap.size with hlt | hge
    · exact (h.cell (p := ⟨b, k, none⟩) hlt).trans e
    · rw [cell_past hge] at e; cases e), fun {b cur t f} _ e => (h.block b (Array.getElem?_eq_some_iff.1 e).1).trans e⟩
def NoneP (N : List En) (id : Int) (pre : List (PoIn N)) : Prop := (poV pre).find? (fun x => decide (x.1 = id)) = none
def SomeP (N : List En) (id : Int) (pre : List (PoIn N)) (W : World) (B : Nat) : Prop := ∃ x, (poV pre).find? (fun x => decide (x.1 = id)) = some x ∧ BoxR W B 62 (poA x)
theorem NoneP.snoc {N : List En} {id : Int} {pre : List (PoIn N)} (h : NoneP N id pre) {x : PoIn N} (hx : x.1.1 ≠ id) : NoneP N id (pre ++ [x]) := by
  unfold NoneP at h ⊢
  rw [poV, List.map_append, List.find?_append, h]
  simpa using hx
theorem NoneP.hit {N : List En} {id : Int} {pre : List (PoIn N)} (h : NoneP N id pre) {x : PoIn N} (hx : x.1.1 = id) {W : World} {B : Nat} (hB : BoxR W B 62 (poA x.1)) : SomeP N id (pre ++ [x]) W B := by
  unfold NoneP at h
  refine ⟨x.1, ?_, hB⟩
  rw [poV, List.map_append, List.find?_append, h]
  simpa using hx
theorem SomeP.own {N : List En} {id : Int} {pre : List (PoIn N)} {W W' : World} {B : Nat} {row : Option Nat} (h : SomeP N id pre W B) (hg : W.grownBy W' row) (hr : ∀ r, row = some r → ∃ o : _root_.Go.Obj, W.heap[r]? = some o ∧ o.isCells = false) : SomeP N id pre W' B := by
  obtain ⟨x, h1, h2⟩ := h
  exact ⟨x, h1, h2.own hg hr⟩
abbrev hitP (id : Int) (x : Po) : Bool := decide (x.1 = id)
set_option maxRecDepth 100000 in
set_option maxHeartbeats 4000000 in
theorem line_in (F : Fence) (n : Nat) (h24 : F.fn 24) (h42 : F.fn 45) (h93 : F.fn 59) (hro : F.round = none) (hn : 4 ≤ n) (A : Option Addr) (cap : Nat) (N : List En) (hN : N.length ≤ 4611686018427387904) (hT : (linesF N).length ≤ 4611686018427387904) (id : Int) (w : World) (hL : EntsAt w.heap.size w (.slice A N.length cap) N) :
    CallsIn F n Try.prog 24 #[.slice A N.length cap, .int .i64 id] w fun e W' => e = .returned (.tuple #[.agg (poA (lineF N id).1), .bool (lineF N id).2]) ∧ Below w.heap.size w W' := by
  have h1 : 1 ≤ n := by omega
  have hinfo : (Try.prog.info? 62).map (·.size) = some 7 := by kernel_rfl
  refine callsIn_of_wp_marks Try.func24 rfl h24 ?_ hro
  simp only [Try.ntmps24, List.size_toArray, List.length_cons, List.length_nil, Nat.reduceAdd, Nat.reduceSub, Array.replicate_succ, Array.replicate_zero, List.push_toArray, List.append_toArray, List.nil_append, List.cons_append]
  gi_wp2_with (gi_at_call 45; refine (each_in F (n - 1) h42 hro _ _ _ _).mono ?_; rintro e w' ⟨rfl, rfl⟩)
  have hB0 : Below w.heap.size w ((((w.alloc (.cells #[.int .i64 id] 3)).alloc (.cells (poA po0) 62)).alloc (.cells #[.bool false] 4)).alloc (.cells #[.slice A N.length cap] 22)) :=
    ((((Below.refl _ w).alloc (Nat.le_refl _) _).alloc (by simp) _).alloc (by simp; omega) _).alloc (by simp; omega) _
  have hsz : ((((w.alloc (.cells #[.int .i64 id] 3)).alloc (.cells (poA po0) 62)).alloc (.cells #[.bool false] 4)).alloc (.cells #[.slice A N.length cap] 22)).heap.size = w.heap.size + 4 := by simp
  have hca : ((((w.alloc (.cells #[.int .i64 id] 3)).alloc (.cells (poA po0) 62)).alloc (.cells #[.bool false] 4)).alloc (.cells #[.slice A N.length cap] 22)).cell? ⟨w.heap.size, 0, none⟩ = some (.int .i64 id) :=
    cell_up _ (cell_up _ (cell_up _ (by rw [World.cell?_alloc_at _ _ _ _ (by simp)]; rfl)))
  have hcp : BoxR ((((w.alloc (.cells #[.int .i64 id] 3)).alloc (.cells (poA po0) 62)).alloc (.cells #[.bool false] 4)).alloc (.cells #[.slice A N.length cap] 22)) (w.heap.size + 1) 62 (poA po0) :=
    BoxR.alloc (BoxR.alloc (by have := World.alloc_heap_new (w.alloc (.cells #[.int .i64 id] 3)) (.cells (poA po0) 62); rwa [World.size_alloc] at this) _) _
  have hcr := (Boxed.new ((w.alloc (.cells #[.int .i64 id] 3)).alloc (.cells (poA po0) 62)) 4 (.bool false)).alloc (.cells #[.slice A N.length cap] 22)
  have hcs : ((((w.alloc (.cells #[.int .i64 id] 3)).alloc (.cells (poA po0) 62)).alloc (.cells #[.bool false] 4)).alloc (.cells #[.slice A N.length cap] 22)).cell? ⟨w.heap.size + 1 + 1 + 1, 0, none⟩ = some (.slice A N.length cap) := by
    rw [World.cell?_alloc_at _ _ _ _ (by simp)]; rfl
  simp only [World.size_alloc] at hcr
  obtain ⟨W0, hW0⟩ : ∃ W0, (((w.alloc (.cells #[.int .i64 id] 3)).alloc (.cells (poA po0) 62)).alloc (.cells #[.bool false] 4)).alloc (.cells #[.slice A N.length cap] 22) = W0 := ⟨_, rfl⟩
  rw [hW0] at hB0 hsz hca hcp hcr hcs ⊢
  clear hW0
  have hL0 : EntsAt w.heap.size W0 (.slice A N.length cap) N := hL.up hB0
  have hfin : ∀ {pre : List Po} {x : Po}, pre <+: linesF N → pre.find? (hitP id) = some x → lineF N id = (x, true) := by
    rintro pre x ⟨t, e⟩ h
    unfold lineF
    rw [← e, List.find?_append]
    have h : List.find? (fun x : Po => decide (x.1 = id)) pre = some x := h
    rw [h]
    rfl
  have hnone : (linesF N).find? (hitP id) = none → lineF N id = (po0, false) := fun h => by
    unfold lineF
    have h : List.find? (fun x : Po => decide (x.1 = id)) (linesF N) = none := h
    rw [h]
  refine wpIn_rangeFunc_ownH hro h1 (gf := 59) (lb := #[.pointer (some ⟨w.heap.size + 1 + 1 + 1, 0, none⟩)]) rfl h93 (enters_of Try.func59 (by kernel_rfl) rfl)
    (each_stops (kk_plain w.heap.size (w.heap.size + 4)) F (n - 1) h93 hro (by omega) (w.heap.size + 1 + 1 + 1) _ N hN hT W0 (by omega) (by omega) (by omega) (fun W hB => ⟨KP.below hB, trivial⟩) hcs hL0) (fun h g => (kk_plain w.heap.size (w.heap.size + 4)).trans h g) (fun W l o o' _ hl ho _ => KP.put o' hl ho) (Below.refl _ _) (fun _ => rfl)
    (fun pre W => (NoneP N id pre ∧ W.cell? ⟨w.heap.size, 0, none⟩ = some (.int .i64 id) ∧ BoxR W (w.heap.size + 1) 62 (poA po0) ∧ Boxed W (w.heap.size + 1 + 1) 4 (.bool false) ∧ w.heap.size + 4 ≤ W.heap.size) ∧ Below w.heap.size w W)
    (fun c pre W => (c = .ret ∧ SomeP N id pre W (w.heap.size + 1) ∧ Boxed W (w.heap.size + 1 + 1) 4 (.bool true)) ∧ Below w.heap.size w W)
    (OwnFrom.and (fun s X Y row hs hg hr => ⟨hs.1, cell_kept hs.2.1 hg (fun r e => (hr r e).2), hs.2.2.1.own hg (fun r e => (hr r e).2), boxed_own _ _ (fun (_ : Unit) => Value.bool false) () X Y row hs.2.2.2.1 hg (fun r e => (hr r e).2), Nat.le_trans hs.2.2.2.2 hg.size⟩) (ownFrom_below (Nat.le_refl _) (by omega)))
    (fun c => OwnFrom.and (fun s X Y row hs hg hr => ⟨hs.1, hs.2.1.own hg (fun r e => (hr r e).2), boxed_own _ _ (fun (_ : Unit) => Value.bool true) () X Y row hs.2.2 hg (fun r e => (hr r e).2)⟩) (ownFrom_below (Nat.le_refl _) (by omega)))
    ⟨⟨rfl, hca, hcp, hcr, by omega⟩, hB0⟩
    (fun x a' W => ∃ Bx, w.heap.size + 1 + 1 + 1 < Bx ∧ BoxR W Bx 62 (poA x.1) ∧ a' = { tmps := #[.slice A N.length cap, .int .i64 id, undef, .pointer (some ⟨w.heap.size, 0, none⟩), .pointer (some ⟨w.heap.size + 1, 0, none⟩), .pointer (some ⟨w.heap.size + 1 + 1, 0, none⟩), .pointer (some ⟨Bx, 0, none⟩), .slice A N.length cap, .func (.func 59) #[] #[.pointer (some ⟨w.heap.size + 1 + 1 + 1, 0, none⟩)], .agg (poA x.1), undef, undef, undef, undef, undef, undef], defers := [] })
    (fun x a' _ X Y row hs hg hr => by obtain ⟨Bx, h1, h2, h3⟩ := hs; exact ⟨Bx, h1, h2.own hg (fun r e => (hr r e).2), h3⟩)
    ?assign ?body ?done ?stop
  case assign =>
    rintro l pre ⟨x, hxi⟩ W K ⟨⟨hp, hc1, hc2, hc3, hsw⟩, hB1⟩ hK
    gi_wp2
    exact hK _ _ ((KeepsOthers.alloc _ _).from _) ((kk_plain w.heap.size (w.heap.size + 4)).alloc _ hsw) ⟨⟨hp, cell_up _ hc1, hc2.alloc _, hc3.alloc _, by simp; omega⟩, hB1.alloc hB1.size _⟩ ⟨W.heap.size, by omega, World.alloc_heap_new _ _, rfl⟩
  case body =>
    rintro l pre ⟨x, hxi⟩ a' W hl ⟨r, hr⟩ ⟨⟨hp, hc1, hc2, hc3, hsw⟩, hB1⟩ ⟨Bx, hBx, hcx, rfl⟩ hlt
    have hc4 := hc3.cell
    have hf4 := hc3.frozen
    have k0 := hcx.cellAt (k := 0) rfl
    have k1 := hcx.cellAt (k := 1) rfl
    have k2 := hcx.cellAt (k := 2) rfl
    have k3 := hcx.cellAt (k := 3) rfl
    have k4 := hcx.cellAt (k := 4) rfl
    have k5 := hcx.cellAt (k := 5) rfl
    have k6 := hcx.cellAt (k := 6) rfl
    have hd : Boxed (W.setRow (w.heap.size + 1) (poA x)) (w.heap.size + 1 + 1) 4 (.bool false) := boxed_row hc3 (by omega) _
    have hdc := hd.cell
    have hdf := hd.frozen
    gi_wp2_with (with_reducible refine stp ?_)
    · unfold Stp
      refine wpListIn_store_row rfl 62 (.tmp 4) (.tmp 14) rfl (w.heap.size + 1) (poA x) rfl rfl 62 (poA po0) hc2 hinfo rfl (by simp [poA, Value.oneCell']) ?_
      gi_wp2
      rename_i hx
      have hx : x.1 = id := by simpa using hx
      refine ⟨((keeps_row _ hc2).trans (KeepsOthers.setCell _ _ _)).from _, ⟨rfl, hp.hit (x := ⟨x, hxi⟩) hx ((hc2.row _).other (by omega) _), hd.set _⟩, (below_setRow hB1 (by omega) _).setCell (p := ⟨w.heap.size + 1 + 1, 0, none⟩) (by simp; omega) _⟩
    · rename_i hx
      exact ⟨KeepsFrom.refl _ _, (kk_plain w.heap.size (w.heap.size + 4)).refl _, ⟨hp.snoc (by simpa using hx), hc1, hc2, hc3, hsw⟩, hB1⟩
  case done =>
    rintro D ys W hD hys ⟨⟨hp, hc1, hc2, hc3, hsw⟩, hB1⟩ hK
    have hd : Boxed (W.setRow (w.heap.size + 1) (poA po0)) (w.heap.size + 1 + 1) 4 (.bool false) := boxed_row hc3 (by omega) _
    have hdc := hd.cell
    have hdf := hd.frozen
    have hb : (Try.prog.built 62 []) = some (poA po0) := by kernel_rfl
    gi_wp2_with (with_reducible refine stp ?_)
    unfold Stp
    refine wpListIn_store_row rfl 62 (.tmp 4) (.tmp 15) rfl (w.heap.size + 1) (poA po0) rfl rfl 62 (poA po0) hc2 hinfo rfl (by simp [poA, Value.oneCell']) ?_
    gi_wp2
    have hK' : ((W.setRow (w.heap.size + 1) (poA po0)).setCell ⟨w.heap.size + 1 + 1, 0, none⟩ (.bool false)).heap[D]? = some (.deferred (some [])) := (KeepsOthers.setCell (W.setRow (w.heap.size + 1) (poA po0)) ⟨w.heap.size + 1 + 1, 0, none⟩ (.bool false)).same D _ ((keeps_row (poA po0) hc2).same D _ hK rfl) rfl
    refine ⟨by simp, .inl ⟨_, _, rfl, run_takeDeferred hK', ?_⟩⟩
    have hK0 : ∀ r, some D = some r → ∃ o : _root_.Go.Obj, ((W.setRow (w.heap.size + 1) (poA po0)).setCell ⟨w.heap.size + 1 + 1, 0, none⟩ (.bool false)).heap[r]? = some o ∧ o.isCells = false := fun r e => by cases e; exact ⟨_, hK', rfl⟩
    have hc5 := cell_kept (hd.set (.bool false)).cell (grownBy_putObj' _ D (.deferred none)) hK0
    have hc6 := ((hc2.row (poA po0)).other (B' := w.heap.size + 1 + 1) (k := 0) (by omega) (.bool false)).own (grownBy_putObj' _ D (.deferred none)) hK0
    have k0 := hc6.cellAt (k := 0) rfl
    have k1 := hc6.cellAt (k := 1) rfl
    have k2 := hc6.cellAt (k := 2) rfl
    have k3 := hc6.cellAt (k := 3) rfl
    have k4 := hc6.cellAt (k := 4) rfl
    have k5 := hc6.cellAt (k := 5) rfl
    have k6 := hc6.cellAt (k := 6) rfl
    refine ⟨.tuple #[.agg (poA po0), .bool false], ?_, by rw [hnone (by rw [← hys]; exact hp)], ((below_setRow hB1 (by omega) _).setCell (p := ⟨w.heap.size + 1 + 1, 0, none⟩) (by simp; omega) _).trans (belowK_b (w := w) (Nat.le_refl _) _ D _ _ (by omega) hK' rfl rfl)⟩
    simp [results, Try.f24, go_sem, hc5, k0, k1, k2, k3, k4, k5, k6]
  case stop =>
    rintro D c pre W hD hpre ⟨⟨rfl, ⟨x, hp, hc2⟩, hc3⟩, hB1⟩ hK
    have hc4 := hc3.cell
    gi_wp2
    refine ⟨by simp, .inl ⟨_, _, rfl, run_takeDeferred hK, ?_⟩⟩
    have hK0 : ∀ r, some D = some r → ∃ o : _root_.Go.Obj, W.heap[r]? = some o ∧ o.isCells = false := fun r e => by cases e; exact ⟨_, hK, rfl⟩
    have hc5 := cell_kept hc4 (grownBy_putObj' _ D (.deferred none)) hK0
    have hc6 := hc2.own (grownBy_putObj' _ D (.deferred none)) hK0
    have k0 := hc6.cellAt (k := 0) rfl
    have k1 := hc6.cellAt (k := 1) rfl
    have k2 := hc6.cellAt (k := 2) rfl
    have k3 := hc6.cellAt (k := 3) rfl
    have k4 := hc6.cellAt (k := 4) rfl
    have k5 := hc6.cellAt (k := 5) rfl
    have k6 := hc6.cellAt (k := 6) rfl
    refine ⟨.tuple #[.agg (poA x), .bool true], ?_, by rw [hfin hpre hp], hB1.trans (belowK_b (w := w) (Nat.le_refl _) W D _ _ (by omega) hK rfl rfl)⟩
    simp [results, Try.f24, go_sem, hc5, k0, k1, k2, k3, k4, k5, k6]
theorem line_pure (N : List En) (k : Int) (h : N.length ≤ 4611686018427387904 ∧ (linesF N).length ≤ 4611686018427387904) : Vm.Pure Try.prog 24 [.list .tmp EnT N, .int .i64 k] (.tuple [.agg [.int .i64 (lineF N k).1.1, .int .i64 (lineF N k).1.2.1, .int .i64 (lineF N k).1.2.2.1, .int .i64 (lineF N k).1.2.2.2.1, .int .i64 (lineF N k).1.2.2.2.2.1, .int .i64 (lineF N k).1.2.2.2.2.2.1, .int .i64 (lineF N k).1.2.2.2.2.2.2], .bool (lineF N k).2]) := by
  refine pure_calls2 (fun F w vs hF hr => ?_) rfl rfl
  obtain ⟨u1, r1, rfl, a1, hr⟩ := hr.cons_inv
  obtain ⟨u2, r2, rfl, a2, hr⟩ := hr.cons_inv
  rw [hr.nil_inv]
  cases a2
  have hE := ents_of a1
  obtain ⟨A', cap, rfl, _⟩ := id hE
  refine (callsIn_wide (n := 9)).1 ((line_in Fence.wide 9 trivial trivial trivial rfl (by omega) A' cap N h.1 h.2 _ w hE).mono ?_)
  rintro e w' ⟨rfl, hb⟩
  refine ⟨_, rfl, hb, fun _ => ?_⟩
  refine .tuple rfl fun j c u hc hu => ?_
  match j, hc, hu with
  | 0, hc, hu =>
    cases hc; cases hu
    refine .agg rfl fun j c u hc hu => ?_
    match j, hc, hu with
    | 0, hc, hu => cases hc; cases hu; exact .int
    | 1, hc, hu => cases hc; cases hu; exact .int
    | 2, hc, hu => cases hc; cases hu; exact .int
    | 3, hc, hu => cases hc; cases hu; exact .int
    | 4, hc, hu => cases hc; cases hu; exact .int
    | 5, hc, hu => cases hc; cases hu; exact .int
    | 6, hc, hu => cases hc; cases hu; exact .int
    | j + 7, hc, hu => simp at hc
  | 1, hc, hu => cases hc; cases hu; exact .bool
  | j + 2, hc, hu => simp at hc
open Go.Vm
noncomputable def sp_line : FSpec Try.prog where
 f := 24
 run := fun
  | [v0, .int .i64 k] => (asL EnT v0 : Option (List En)).bind fun N => some (N.length ≤ 4611686018427387904 ∧ (linesF N).length ≤ 4611686018427387904, .tuple [.agg [.int .i64 (lineF N k).1.1, .int .i64 (lineF N k).1.2.1, .int .i64 (lineF N k).1.2.2.1, .int .i64 (lineF N k).1.2.2.2.1, .int .i64 (lineF N k).1.2.2.2.2.1, .int .i64 (lineF N k).1.2.2.2.2.2.1, .int .i64 (lineF N k).1.2.2.2.2.2.2], .bool (lineF N k).2])
  | _ => none
 ok := fun args pre r h hp => by
  split at h
  · rename_i v0 k
    obtain ⟨N, h0, h⟩ := Option.bind_eq_some_iff.1 h
    exact of_q h hp fun h => (line_pure N k h).weak (.cons (asL_weak h0) (.cons (.refl _) .nil))
  · cases h
end Go.Proofs.Yteaajihmfacinaa.Ta
