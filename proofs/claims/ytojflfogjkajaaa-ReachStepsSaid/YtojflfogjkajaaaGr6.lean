/-
  graph: a graph while it is turned; link.
-/
import Derived.Carry
import Derived.Test.YtojflfogjkajaaaGr5
namespace Go.Proofs.Ytojflfogjkajaaa.Gr
open Go Go.RowKit Go.Shelf Go.Proofs
open Go.Vm (mapOf MAt LAt GI edgesF readersF GOk GraphAt)
attribute [local go_sem] Oper.semAt_some

/-- Blocks of cells stay, but for one. -/
def KC (bm : Nat) (w w' : World) : Prop := w.heap.size ≤ w'.heap.size ∧ ∀ c (cs : Array Value) (t : TypeId) (f : Nat × Nat), c ≠ bm → w.heap[c]? = some (_root_.Go.Obj.cells cs t f) → w'.heap[c]? = some (_root_.Go.Obj.cells cs t f)
theorem KC.refl (bm : Nat) (w : World) : KC bm w w := ⟨Nat.le_refl _, fun _ _ _ _ _ h => h⟩
theorem KC.trans {bm : Nat} {a b c : World} (h : KC bm a b) (k : KC bm b c) : KC bm a c := ⟨Nat.le_trans h.1 k.1, fun i cs t f hne e => k.2 i cs t f hne (h.2 i cs t f hne e)⟩
theorem KC.map {bm : Nat} {w w' : World} {mb : Nat} {es : Array MapEntry} {clock : Nat} (hm : w.heap[mb]? = some (.map es clock)) (hg : w.grownBy w' (some mb)) : KC bm w w' :=
  ⟨hg.size, fun c cs t f _ h => (hg.block c (Array.getElem?_eq_some_iff.1 h).1 (fun e => by cases e; rw [hm] at h; cases h)).trans h⟩
theorem KC.below {bm : Nat} {w w' : World} (h : Below w.heap.size w w') : KC bm w w' := ⟨h.size, fun c cs t f _ e => (h.block c (Array.getElem?_eq_some_iff.1 e).1).trans e⟩
/-- What a step leaves as it was. -/
structure Stp (bm : Nat) (S : Nat → Prop) (w w' : World) : Prop where
  os : w'.os = w.os
  tape : w'.tape = w.tape
  output : w'.output = w.output
  kc : KC bm w w'
  out : ∀ c, c < w.heap.size → c ≠ bm → ¬ S c → w'.heap[c]? = w.heap[c]?
theorem Stp.refl (bm : Nat) (S : Nat → Prop) (w : World) : Stp bm S w w := ⟨rfl, rfl, rfl, .refl _ _, fun _ _ _ _ => rfl⟩
theorem Stp.trans {bm : Nat} {S S' : Nat → Prop} {a b c : World} (h : Stp bm S a b) (k : Stp bm S' b c) (hS : ∀ i, i < a.heap.size → S' i → S i) : Stp bm S a c :=
  ⟨k.os.trans h.os, k.tape.trans h.tape, k.output.trans h.output, h.kc.trans k.kc, fun i hi hb hn => (k.out i (Nat.lt_of_lt_of_le hi h.kc.1) hb (fun e => hn (hS i hi e))).trans (h.out i hi hb hn)⟩
theorem Stp.below {bm : Nat} {S : Nat → Prop} {w w' : World} (h : Below w.heap.size w w') : Stp bm S w w' := ⟨h.os, h.tape, h.output, .below h, fun c hc _ _ => h.block c hc⟩
theorem Stp.map {bm : Nat} {S : Nat → Prop} {w w' : World} {mb : Nat} {es : Array MapEntry} {clock : Nat} (hm : w.heap[mb]? = some (.map es clock)) (hS : S mb) (hg : w.grownBy w' (some mb)) : Stp bm S w w' :=
  ⟨hg.os, hg.tape, hg.output, .map hm hg, fun c hc _ hn => hg.block c hc (fun e => by cases e; exact hn hS)⟩
theorem Stp.cell {S : Nat → Prop} {bm k : Nat} {w : World} (u : Value) : Stp bm S w (w.setCell ⟨bm, k, none⟩ u) :=
  ⟨rfl, rfl, rfl, ⟨(KeepsWalks.setCell w _ u).size, fun c cs t f hne h => (Below.heap_setCell w ⟨bm, k, none⟩ u c (fun e => hne e)).trans h⟩, fun c _ hne _ => Below.heap_setCell w ⟨bm, k, none⟩ u c (fun e => hne e)⟩

def TopAt (R : GI) (w : World) (b br cr bm cm : Nat) (E : Int) : Prop := w.heap[b]? = some (.cells #[.slice (some ⟨br, 0, none⟩) R.length cr, .slice (some ⟨bm, 0, none⟩) R.length cm, .int .i64 E] 81 (0, 0))
def RdAt (R : GI) (w : World) (br : Nat) (S : Nat → Prop) : Prop := ∃ csr, w.heap[br]? = some (.cells csr 36 (0, 0)) ∧ ∀ (v : Nat) l, R[v]? = some l → ∃ u, csr[v]? = some u ∧ LAt w S u l
def MpAt (N : Nat) (L : Nat → List Int) (w : World) (bm : Nat) (S : Nat → Prop) : Prop :=
  ∃ csm, w.heap[bm]? = some (.cells csm 87 (0, 0)) ∧ (∀ i, i < N → ∃ u, csm[i]? = some u ∧ MAt w S u (L i)) ∧ ∀ (i j : Nat) mb, i < N → j < N → csm[i]? = some (.map (some mb)) → csm[j]? = some (.map (some mb)) → i = j

theorem LAt.kc {w w' : World} {S S' : Nat → Prop} {v : Value} {l : List Int} {bm : Nat} (h : KC bm w w') (hb : ∀ cs t f, w.heap[bm]? = some (_root_.Go.Obj.cells cs t f) → t ≠ 3) (hS : ∀ c, S c → S' c) : LAt w S v l → LAt w' S' v l := by
  rintro ⟨A, c, e, hc, k⟩
  refine ⟨A, c, e, hc, fun h0 => ?_⟩
  obtain ⟨g, o, cg, e1, e2, e3, e4⟩ := k h0
  exact ⟨g, o, cg, e1, hS g e2, h.2 _ _ _ _ (fun e => by subst e; exact hb _ _ _ e3 rfl) e3, e4⟩
theorem RdAt.kc {R : GI} {w w' : World} {br bm : Nat} {S S' : Nat → Prop} (h : KC bm w w') (hne : br ≠ bm) (hb : ∀ cs t f, w.heap[bm]? = some (_root_.Go.Obj.cells cs t f) → t ≠ 3) (hS : ∀ c, S c → S' c) : RdAt R w br S → RdAt R w' br S' := by
  rintro ⟨csr, h1, h2⟩
  exact ⟨csr, h.2 _ _ _ _ hne h1, fun v l hl => let ⟨u, k1, k2⟩ := h2 v l hl; ⟨u, k1, LAt.kc h hb hS k2⟩⟩
theorem TopAt.kc {R : GI} {w w' : World} {b br cr bm cm : Nat} {E : Int} (h : KC bm w w') (hne : b ≠ bm) : TopAt R w b br cr bm cm E → TopAt R w' b br cr bm cm E := fun k => h.2 _ _ _ _ hne k
/-- Maps stay, where all blocks that were there stay. -/
theorem MpAt.below {N : Nat} {L : Nat → List Int} {w w' : World} {bm : Nat} {S S' : Nat → Prop} (h : Below w.heap.size w w') (hS : ∀ c, S c → S' c) : MpAt N L w bm S → MpAt N L w' bm S' := by
  rintro ⟨csm, h1, h2, h3⟩
  refine ⟨csm, (h.block bm (Array.getElem?_eq_some_iff.1 h1).1).trans h1, fun i hi => ?_, h3⟩
  obtain ⟨u, k1, k2⟩ := h2 i hi
  refine ⟨u, k1, ?_⟩
  rcases k2 with k2 | ⟨mb, e, k2, es, clock, hb, k3⟩
  · exact .inl k2
  · exact .inr ⟨mb, e, hS mb k2, es, clock, (h.block mb (Array.getElem?_eq_some_iff.1 hb).1).trans hb, k3⟩

def upd (L : Nat → List Int) (i : Nat) (l : List Int) (j : Nat) : List Int := if j = i then l else L j
/-- One map turns. -/
theorem MpAt.turn {N : Nat} {L : Nat → List Int} {w w' : World} {bm mb i : Nat} {S S' : Nat → Prop} {l : List Int} {csm : Array Value} (h1 : w.heap[bm]? = some (.cells csm 87 (0, 0))) (h2 : ∀ i, i < N → ∃ u, csm[i]? = some u ∧ MAt w S u (L i))
    (hiN : i < N) (h3 : ∀ (i j : Nat) mb, i < N → j < N → csm[i]? = some (.map (some mb)) → csm[j]? = some (.map (some mb)) → i = j) (hi : csm[i]? = some (.map (some mb))) (hS : ∀ c, S c → S' c) (hmS : S' mb) (hne : mb ≠ bm)
    (hg : w.grownBy w' (some mb)) (ho : w'.ownsMap Try.prog 3 (plainElem Try.prog 3) mb l.length (mapOf l)) : MpAt N (upd L i l) w' bm S' := by
  refine ⟨csm, (hg.block bm (Array.getElem?_eq_some_iff.1 h1).1 (fun e => by cases e; exact hne rfl)).trans h1, fun j hj => ?_, h3⟩
  obtain ⟨u, k1, k2⟩ := h2 j hj
  refine ⟨u, k1, ?_⟩
  by_cases hji : j = i
  · subst hji
    rw [hi] at k1; cases k1
    rw [upd, if_pos rfl]
    exact .inr ⟨mb, rfl, hmS, ho⟩
  · rw [upd, if_neg hji]
    rcases k2 with k2 | ⟨mb2, rfl, k2, k3⟩
    · exact .inl k2
    · exact .inr ⟨mb2, rfl, hS mb2 k2, k3.kept hg (fun e => by cases e; exact hji (h3 j i mb hj hiN k1 hi))⟩
theorem MpAt.congr {N : Nat} {L L' : Nat → List Int} {w : World} {bm : Nat} {S : Nat → Prop} (h : MpAt N L w bm S) (e : ∀ i, i < N → L i = L' i) : MpAt N L' w bm S := by
  obtain ⟨csm, h1, h2, h3⟩ := h
  exact ⟨csm, h1, fun i hi => by rw [← e i hi]; exact h2 i hi, h3⟩
theorem MAt.mv {w w' : World} {S S' : Nat → Prop} {v : Value} {l : List Int} (hm : ∀ (c : Nat) (es : Array MapEntry) (k : Nat), w.heap[c]? = some (_root_.Go.Obj.map es k) → w'.heap[c]? = some (_root_.Go.Obj.map es k)) (hS : ∀ c, S c → S' c) : MAt w S v l → MAt w' S' v l := by
  rintro (h | ⟨mb, e, h1, es, clock, hb, h2⟩)
  · exact .inl h
  · exact .inr ⟨mb, e, hS mb h1, es, clock, hm _ _ _ hb, h2⟩

end Go.Proofs.Ytojflfogjkajaaa.Gr
