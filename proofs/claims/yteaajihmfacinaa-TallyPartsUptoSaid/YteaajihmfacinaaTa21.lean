/-
  journal.Lines: slices.Collect of a range over a function.
-/
import Derived.Maps.AppendAt
import Derived.Deep.Onto
import Derived.Laws.OwnMore
import Derived.Maps.OwnIn
import Derived.Test.YteaajihmfacinaaTa19
namespace Go.Proofs.Yteaajihmfacinaa.Ta
open Go Go.RowKit Go.Shelf Go.Proofs
attribute [local go_sem] Oper.semAt_some
def cellsP (x : Po) : List Value := [.int .i64 x.1, .int .i64 x.2.1, .int .i64 x.2.2.1, .int .i64 x.2.2.2.1, .int .i64 x.2.2.2.2.1, .int .i64 x.2.2.2.2.2.1, .int .i64 x.2.2.2.2.2.2]
def flatP (l : List Po) : List Value := l.flatMap cellsP
def OwnB (B0 : Nat) (t : TypeId) (W : World) (c : Nat) : Prop := ∃ v, W.heap[B0]? = some (.cells #[v] t (0, 0)) ∧ v.ownBlock = some c
theorem OwnB.same {B0 : Nat} {t : TypeId} {W W' : World} (h : W'.heap[B0]? = W.heap[B0]?) (c : Nat) : OwnB B0 t W' c ↔ OwnB B0 t W c := by
  unfold OwnB
  rw [h]
structure KR (n₀ n₁ B0 : Nat) (t : TypeId) (A B : World) : Prop where
  size : A.heap.size ≤ B.heap.size
  low : ∀ {b k : Nat} {v}, b < n₀ → A.cell? ⟨b, k, none⟩ = some v → B.cell? ⟨b, k, none⟩ = some v
  wf : (∀ c, OwnB B0 t A c → c < A.heap.size) → ∀ c, OwnB B0 t B c → c < B.heap.size
  own : ∀ {b cur ty f}, n₁ ≤ b → ¬ OwnB B0 t A b → A.heap[b]? = some (.cells cur ty f) → B.heap[b]? = some (.cells cur ty f) ∧ ¬ OwnB B0 t B b
theorem KR.put {n₀ n₁ B0 : Nat} {t : TypeId} {W : World} {l : Nat} {o : _root_.Go.Obj} (o' : _root_.Go.Obj) (h0 : B0 < n₁) (h1 : n₀ ≤ n₁) (hln : n₁ ≤ l) (hl : W.heap[l]? = some o) (ho : o.isCells = false) : KR n₀ n₁ B0 t W (W.putObj l o') := by
  have hne : ∀ k, k < n₁ → (W.putObj l o').heap[k]? = W.heap[k]? := fun k hk => World.putObj_heap_other (by omega)
  have hs := fun c => OwnB.same (t := t) (hne B0 h0) c
  refine ⟨by rw [World.putObj_size]; exact Nat.le_refl _, fun {b k v} hb hv => (World.cell?_of_block (a := ⟨b, k, none⟩) (hne b (by omega))).trans hv, fun hw c hc => by rw [World.putObj_size]; exact hw c ((hs c).1 hc), fun {b cur t f} hb hn he => ⟨(World.putObj_heap_other (fun e => ?_)).trans he, fun hc => hn ((hs b).1 hc)⟩⟩
  subst e
  rw [he] at hl
  cases hl
  cases ho
theorem EntsAt.up {n₀ : Nat} {A B : World} (h : Below n₀ A B) {v : Value} {N : List En} (hL : EntsAt n₀ A v N) : EntsAt n₀ B v N := by
  have lk : ∀ {b k : Nat} {u : Value}, b < n₀ → A.cell? ⟨b, k, none⟩ = some u → B.cell? ⟨b, k, none⟩ = some u := fun {b k u} hb e => (h.cell (p := ⟨b, k, none⟩) hb).trans e
  obtain ⟨p, cap, e, hc⟩ := hL
  refine ⟨p, cap, e, fun h0 => ?_⟩
  obtain ⟨b, o, e2, hb, hx⟩ := hc h0
  refine ⟨b, o, e2, hb, fun k x hk' => ?_⟩
  obtain ⟨a1, a2, u, a3, a4⟩ := hx k x hk'
  refine ⟨lk hb a1, lk hb a2, u, lk hb a3, ?_⟩
  obtain ⟨p2, cap2, e3, hc2⟩ := a4
  refine ⟨p2, cap2, e3, fun h1 => ?_⟩
  obtain ⟨b2, o2, e4, hb2, hx2⟩ := hc2 h1
  refine ⟨b2, o2, e4, hb2, fun j y hj => ?_⟩
  obtain ⟨c1, c2, c3, c4⟩ := hx2 j y hj
  exact ⟨lk hb2 c1, lk hb2 c2, lk hb2 c3, lk hb2 c4⟩
theorem KR.appended {n₀ n₁ n B0 : Nat} {t e : TypeId} {W w1 : World} {v v' : Value} {k : Nat} {xs : List Value} {tmp : _root_.Go.Obj} (hB : B0 < n₁) (hn : n ≤ W.heap.size) (h0 : n₀ ≤ n) (hv : Boxed W B0 t v) (hv2 : Boxed (w1.setCell ⟨B0, 0, none⟩ v') B0 t v')
    (hr2 : (w1.setCell ⟨B0, 0, none⟩ v').ownsRow n e 7 v' k xs) (hgrow : (W.alloc tmp).grownBy w1 v.ownBlock) (hob : v'.ownBlock = v.ownBlock ∨ v'.ownBlock = some (W.alloc tmp).heap.size) (hbel : Below n W (w1.setCell ⟨B0, 0, none⟩ v')) : KR n₀ n₁ B0 t W (w1.setCell ⟨B0, 0, none⟩ v') := by
  refine ⟨hbel.size, fun {b k v} hb hh => (hbel.cell (p := ⟨b, k, none⟩) (by show b < n; omega)).trans hh, fun _ c hc => ?_, fun {b cur ty f} hb hnot he => ?_⟩
  · obtain ⟨u, h1, h2⟩ := hc
    have hv2 : (w1.setCell ⟨B0, 0, none⟩ v').heap[B0]? = some (.cells #[v'] t (0, 0)) := hv2
    rw [hv2] at h1
    cases h1
    rcases hr2.2 with ⟨rfl, _⟩ | ⟨g, cap, cur, rfl, _, hg, _⟩
    · simp [Value.ownBlock] at h2
    · obtain rfl : g = c := by simpa [Value.ownBlock] using h2
      exact (Array.getElem?_eq_some_iff.1 hg).1
  · have hlt := (Array.getElem?_eq_some_iff.1 he).1
    have h1 := heap_up tmp he
    have hne : v.ownBlock ≠ some b := fun q => hnot ⟨v, hv, q⟩
    have h2 := (hgrow.block b (Array.getElem?_eq_some_iff.1 h1).1 (fun q => hne q.symm)).trans h1
    refine ⟨(Below.heap_setCell w1 ⟨B0, 0, none⟩ v' b (by show b ≠ B0; omega)).trans h2, fun hc => ?_⟩
    obtain ⟨u, h3, h4⟩ := hc
    have hv2 : (w1.setCell ⟨B0, 0, none⟩ v').heap[B0]? = some (.cells #[v'] t (0, 0)) := hv2
    rw [hv2] at h3
    cases h3
    rcases hob with h5 | h5
    · rw [h5] at h4
      exact hne h4
    · rw [h5] at h4
      have : (W.alloc tmp).heap.size = b := Option.some.inj h4
      simp at this
      omega
open Go.Vm in
theorem pure_calls2 {P : Program} {f : FuncId} {args : List V} {r : V} (h : ∀ (F : Fr) (w : World) (vs : List Value), Vm.Ground F w → RepL ⟨w, [], fun _ => none, F⟩ args vs →
    Calls P f vs.toArray w fun e w' => ∃ u, e = .returned u ∧ RowKit.Below w.heap.size w w' ∧ ((∀ b, w.heap.size ≤ b → ¬ F.any b) → Rep ⟨w', [], fun _ => none, F⟩ r u)) (ho : own [] 60 r = some r) (hi : ids [] 60 r = []) : Pure P f args r := by
  intro F w vs hF hr
  refine (h F w vs hF hr).mono fun e w' ⟨u, he, hb, hru⟩ => ⟨u, he, hb, [], fun _ => none, r, ⟨fun id o h => by simp [Store.get] at h, fun i j o o' b h => by simp [Store.get] at h, fun id o b h => by simp [Store.get] at h, fun b hb' => hF.out b (Nat.le_trans hb.size hb'), fun b hb' => hF.out b hb', ⟨fun e he => by simp [hF.pin] at he, fun e he => ⟨(hb.block _ (hF.lt he)).trans (hF.gnd e he), fun h => absurd (hF.lt he) (Nat.not_lt.2 h)⟩⟩⟩, hru hF.out, ho, by rw [hi]; exact .nil⟩
theorem flat_at : ∀ (l : List Po) (i j : Nat) (x : Po) (u : Value), l[i]? = some x → (cellsP x)[j]? = some u → (flatP l)[i * 7 + j]? = some u
  | [], i, j, x, u, h, _ => by simp at h
  | y :: l, 0, j, x, u, h, hu => by
    obtain rfl : y = x := by simpa using h
    have hj : j < 7 := by simpa [cellsP] using (List.getElem?_eq_some_iff.1 hu).1
    rw [show flatP (y :: l) = cellsP y ++ flatP l from rfl, List.getElem?_append_left (by simp [cellsP]; omega), show 0 * 7 + j = j by omega]
    exact hu
  | y :: l, i + 1, j, x, u, h, hu => by
    rw [show flatP (y :: l) = cellsP y ++ flatP l from rfl, List.getElem?_append_right (by simp [cellsP]; omega), show (i + 1) * 7 + j - (cellsP y).length = i * 7 + j by simp [cellsP]; omega]
    exact flat_at l i j x u (by simpa using h) hu
open Go.Vm in
theorem lines_rep {F : Fr} {w0 w : World} {v : Value} {l : List Po} (h : w.ownsRow w0.heap.size 62 7 v l.length (flatP l)) (hF : ∀ b, w0.heap.size ≤ b → ¬ F.any b) : Rep ⟨w, [], fun _ => none, F⟩ (.list .part PoT l) v := by
  have hx := h.2
  rcases hx with ⟨rfl, hn⟩ | ⟨g, cap, cur, rfl, hb, hg, hcap, _⟩
  · exact .list ⟨hn.symm, Nat.le_refl _, fun h => absurd h (Nat.lt_irrefl _)⟩ (fun h => by cases h)
  · refine .list ⟨rfl, hcap, fun _ => ⟨g, 0, rfl, ⟨⟨⟨(Array.getElem?_eq_some_iff.1 hg).1, fun _ _ hg => by simp [Store.get] at hg⟩, fun k => hF g hb (.inr k)⟩, fun _ k => hF g hb (.inl k)⟩, fun i x hx => ⟨cellsP x, ?_, fun j u hu => ?_⟩⟩⟩ (fun h => by cases h)
    · exact ⟨[_], _, rfl, rfl, [_], _, rfl, rfl, [_], _, rfl, rfl, [_], _, rfl, rfl, [_], _, rfl, rfl, [_], _, rfl, rfl, rfl⟩
    · have hi : i < List.length (α := Po) l := (List.getElem?_eq_some_iff.1 hx).1
      have hj : j < 7 := by simpa [cellsP] using (List.getElem?_eq_some_iff.1 hu).1
      have := h.cellAt (i * 7 + j) (by omega)
      rw [flat_at l i j x u hx hu] at this
      rw [show 0 + i * PoT.cells + j = i * 7 + j by simp [Ty.cells]]
      exact this
open Go.Vm
end Go.Proofs.Yteaajihmfacinaa.Ta
