/-
  books.Used: the walk.
-/
import Derived.Test.YtgjpehgnagfghaaGreatEach1
import Derived.Test.YtgjpehgnagfghaaGreatBks8
namespace Go.Proofs.YtgjpehgnagfghaaGreat.Bks
open Go Go.RowKit Go.Shelf Go.Proofs
attribute [local go_sem] Oper.semAt_some
theorem Kc.put {n₀ n₁ : Nat} {W : World} {l : Nat} {o : _root_.Go.Obj} (o' : _root_.Go.Obj) (hl : W.heap[l]? = some o) (ho : o.isCells = false) : Kc n₀ n₁ W (W.putObj l o') :=
  ⟨by rw [World.putObj_size]; exact Nat.le_refl _, fun b hb k v h => cell_kept h (grownBy_putObj' W l o') (fun r e => (by cases e; exact ⟨o, hl, ho⟩)), fun b _ cur t f _ h =>
    (World.putObj_heap_other (fun e => by subst e; rw [h] at hl; cases hl; cases ho)).trans h⟩
theorem Kc.below {n₀ n₁ : Nat} {A B : World} (h : Below n₁ A B) (hs : A.heap.size ≤ n₁) : Kc n₀ n₁ A B := ⟨h.size, fun b hb k v e => (by
  rcases Nat.lt_or_ge b n₁ with hlt | hge
  · exact (h.cell (p := ⟨b, k, none⟩) hlt).trans e
  · rw [cell_past (Nat.le_trans hs hge)] at e; cases e), fun b hb cur t f _ e => absurd (Array.getElem?_eq_some_iff.1 e).1 (Nat.not_lt.2 (Nat.le_trans hs hb))⟩
set_option maxRecDepth 100000 in
set_option maxHeartbeats 4000000 in
theorem used_in (F : Fence) (n : Nat) (h11 : F.fn 11) (h42 : F.fn 42) (h93 : F.fn 93) (hro : F.round = none) (hn : 4 ≤ n) (v0 v1 v2 v3 v4 : Value) (A : Option Addr) (cap : Nat) (N : List En) (hN : N.length ≤ 1000000) (hi : InE N) (a : Int) (w : World) (hL : EntsAt w.heap.size w (.slice A N.length cap) N) :
    CallsIn F n Tryz.prog 11 #[.agg #[v0, v1, v2, v3, v4, .slice A N.length cap], .int .i64 a] w fun e W' => e = .returned (.bool (usedF N a)) ∧ Below w.heap.size w W' := by
  have h1 : 1 ≤ n := by omega
  refine callsIn_of_wp_marks Tryz.func11 rfl h11 ?_ hro
  simp only [Tryz.ntmps11, List.size_toArray, List.length_cons, List.length_nil, Nat.reduceAdd, Nat.reduceSub, Array.replicate_succ, Array.replicate_zero, List.push_toArray, List.append_toArray, List.nil_append, List.cons_append]
  gi_wp2_with (gi_at_call 42; refine (each_in F (n - 1) h42 hro _ _ _ _).mono ?_; rintro e w' ⟨rfl, rfl⟩)
  have hB0 : Below w.heap.size w ((((w.alloc (.cells #[v0, v1, v2, v3, v4, .slice A N.length cap] 29)).alloc (.cells #[.int .i64 a] 3)).alloc (.cells #[.bool false] 4)).alloc (.cells #[.slice A N.length cap] 27)) :=
    ((((Below.refl _ w).alloc (Nat.le_refl _) _).alloc (by simp) _).alloc (by simp; omega) _).alloc (by simp; omega) _
  have hsz : ((((w.alloc (.cells #[v0, v1, v2, v3, v4, .slice A N.length cap] 29)).alloc (.cells #[.int .i64 a] 3)).alloc (.cells #[.bool false] 4)).alloc (.cells #[.slice A N.length cap] 27)).heap.size = w.heap.size + 4 := by simp
  have hca : ((((w.alloc (.cells #[v0, v1, v2, v3, v4, .slice A N.length cap] 29)).alloc (.cells #[.int .i64 a] 3)).alloc (.cells #[.bool false] 4)).alloc (.cells #[.slice A N.length cap] 27)).cell? ⟨w.heap.size + 1, 0, none⟩ = some (.int .i64 a) :=
    cell_up _ (cell_up _ (by rw [World.cell?_alloc_at _ _ _ _ (by simp)]; rfl))
  have hcr := (Boxed.new ((w.alloc (.cells #[v0, v1, v2, v3, v4, .slice A N.length cap] 29)).alloc (.cells #[.int .i64 a] 3)) 4 (.bool false)).alloc (.cells #[.slice A N.length cap] 27)
  have hcs : ((((w.alloc (.cells #[v0, v1, v2, v3, v4, .slice A N.length cap] 29)).alloc (.cells #[.int .i64 a] 3)).alloc (.cells #[.bool false] 4)).alloc (.cells #[.slice A N.length cap] 27)).cell? ⟨w.heap.size + 1 + 1 + 1, 0, none⟩ = some (.slice A N.length cap) := by
    rw [World.cell?_alloc_at _ _ _ _ (by simp)]; rfl
  simp only [World.size_alloc] at hcr
  obtain ⟨W0, hW0⟩ : ∃ W0, (((w.alloc (.cells #[v0, v1, v2, v3, v4, .slice A N.length cap] 29)).alloc (.cells #[.int .i64 a] 3)).alloc (.cells #[.bool false] 4)).alloc (.cells #[.slice A N.length cap] 27) = W0 := ⟨_, rfl⟩
  rw [hW0] at hB0 hsz hca hcr hcs ⊢
  clear hW0
  have hL0 : EntsAt w.heap.size W0 (.slice A N.length cap) N := hL.keep (n₁ := w.heap.size) (Kc.below hB0 (Nat.le_refl _))
  refine wpIn_rangeFunc_ownH hro h1 (gf := 93) (lb := #[.pointer (some ⟨w.heap.size + 1 + 1 + 1, 0, none⟩)]) rfl h93 (enters_of Tryz.func93 (by kernel_rfl) rfl)
    (each_stops F (n - 1) h93 hro (by omega) (w.heap.size + 1 + 1 + 1) w.heap.size _ N hN hi W0 (by omega) (by omega) hcs hL0) (fun h g => Kc.trans h g) (fun W l o o' _ hl ho _ => Kc.put o' hl ho) (Below.refl _ _) (fun _ => rfl)
    (fun pre W => (pre.any (accP a) = false ∧ W.cell? ⟨w.heap.size + 1, 0, none⟩ = some (.int .i64 a) ∧ Boxed W (w.heap.size + 1 + 1) 4 (.bool false)) ∧ Below w.heap.size w W)
    (fun c pre W => (c = .ret ∧ pre.any (accP a) = true ∧ Boxed W (w.heap.size + 1 + 1) 4 (.bool true)) ∧ Below w.heap.size w W)
    (OwnFrom.and (fun s X Y row hs hg hr => ⟨hs.1, cell_kept hs.2.1 hg (fun r e => (hr r e).2), boxed_own _ _ (fun (_ : Unit) => Value.bool false) () X Y row hs.2.2 hg (fun r e => (hr r e).2)⟩) (ownFrom_below (Nat.le_refl _) (by omega)))
    (fun c => OwnFrom.and (fun s X Y row hs hg hr => ⟨hs.1, hs.2.1, boxed_own _ _ (fun (_ : Unit) => Value.bool true) () X Y row hs.2.2 hg (fun r e => (hr r e).2)⟩) (ownFrom_below (Nat.le_refl _) (by omega)))
    ⟨⟨rfl, hca, hcr⟩, hB0⟩
    (fun x a' W => ∃ Bx, w.heap.size + 1 + 1 < Bx ∧ W.cell? ⟨Bx, 4, none⟩ = some (.int .i64 x.2.2.2.2.1) ∧ a' = { tmps := #[.agg #[v0, v1, v2, v3, v4, .slice A N.length cap], .int .i64 a, .pointer (some ⟨w.heap.size, 0, none⟩), .pointer (some ⟨w.heap.size + 1, 0, none⟩), .pointer (some ⟨w.heap.size + 1 + 1, 0, none⟩), .pointer (some ⟨Bx, 0, none⟩), .pointer (some ⟨w.heap.size, 5, none⟩), .slice A N.length cap, .func (.func 93) #[] #[.pointer (some ⟨w.heap.size + 1 + 1 + 1, 0, none⟩)], .agg #[.int .i64 x.1, .int .i64 x.2.1, .int .i64 x.2.2.1, .int .i64 x.2.2.2.1, .int .i64 x.2.2.2.2.1, .int .i64 x.2.2.2.2.2.1, .int .i64 x.2.2.2.2.2.2], undef, undef, undef, undef, undef], defers := [] })
    (fun x a' _ X Y row hs hg hr => by obtain ⟨Bx, h1, h2, h3⟩ := hs; exact ⟨Bx, h1, cell_kept h2 hg (fun r e => (hr r e).2), h3⟩)
    ?assign ?body ?done ?stop
  case assign =>
    rintro l pre x W K ⟨⟨hp, hc1, hc2⟩, hB1⟩ hK
    gi_wp2
    exact hK _ _ ((KeepsOthers.alloc _ _).from _) ((Kc.refl _ _ W).alloc _) ⟨⟨hp, cell_up _ hc1, hc2.alloc _⟩, hB1.alloc hB1.size _⟩ ⟨W.heap.size, hc2.lt, by rw [World.cell?_alloc_at _ _ _ _ rfl]; rfl, rfl⟩
  case body =>
    rintro l pre x a' W hl ⟨r, hr⟩ ⟨⟨hp, hc1, hc2⟩, hB1⟩ ⟨Bx, hBx, hcx, rfl⟩ hlt
    have hc3 := hc2.cell
    have hf3 := hc2.frozen
    gi_wp2
    · rename_i hx
      exact ⟨(KeepsOthers.setCell _ _ _).from _, ⟨rfl, by rw [List.any_append]; simp [accP, eq_of_beq hx], hc2.set _⟩, hB1.setCell (p := ⟨w.heap.size + 1 + 1, 0, none⟩) (by simp; omega) _⟩
    · rename_i hx
      exact ⟨KeepsFrom.refl _ _, Kc.refl _ _ _, ⟨by rw [List.any_append, hp]; simpa [accP] using hx, hc1, hc2⟩, hB1⟩
  case done =>
    rintro D ys W hD rfl ⟨⟨hp, hc1, hc2⟩, hB1⟩ hK
    have hc3 := hc2.cell
    have hf3 := hc2.frozen
    gi_wp2
    have hK' := (KeepsOthers.setCell W ⟨w.heap.size + 1 + 1, 0, none⟩ (.bool false)).same D _ hK rfl
    refine ⟨by simp, .inl ⟨_, _, rfl, run_takeDeferred hK', ?_⟩⟩
    have hc5 := cell_kept (World.cell?_setCell_same' W ⟨w.heap.size + 1 + 1, 0, none⟩ (.bool false) (by rw [hc3]; rfl)) (grownBy_putObj' _ D (.deferred none)) (fun r e => by cases e; exact ⟨_, hK', rfl⟩)
    refine ⟨.bool false, ?_, by rw [show usedF N a = false from hp], (hB1.setCell (p := ⟨w.heap.size + 1 + 1, 0, none⟩) (by simp; omega) _).trans (belowK_b (w := w) (Nat.le_refl _) _ D _ _ (by omega) hK' rfl rfl)⟩
    simp [results, Tryz.f11, go_sem, hc5]
  case stop =>
    rintro D c pre W hD hpre ⟨⟨rfl, hp, hc2⟩, hB1⟩ hK
    have hc3 := hc2.cell
    gi_wp2
    refine ⟨by simp, .inl ⟨_, _, rfl, run_takeDeferred hK, ?_⟩⟩
    have hc5 := cell_kept hc3 (grownBy_putObj' _ D (.deferred none)) (fun r e => by cases e; exact ⟨_, hK, rfl⟩)
    have hu : usedF N a = true := by
      obtain ⟨q, hq, hq2⟩ := List.any_eq_true.1 hp
      exact List.any_eq_true.2 ⟨q, hpre.subset hq, hq2⟩
    refine ⟨.bool true, ?_, by rw [hu], hB1.trans (belowK_b (w := w) (Nat.le_refl _) W D _ _ (by omega) hK rfl rfl)⟩
    simp [results, Tryz.f11, go_sem, hc5]
end Go.Proofs.YtgjpehgnagfghaaGreat.Bks
