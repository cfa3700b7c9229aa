/-
  The engine, part 0: what is asked of the blocks that stay as they are: nothing; the things that it does not look into: graphs.
-/
import Derived.WalkKit
import Derived.Orders
import Derived.Maps.OwnIn
import Derived.Maps.Views
import Derived.Test.YtojflfogjkajaaaProg
namespace Go.Vm

def Tabs (_ : List (Nat × _root_.Go.Obj)) : Prop := True

/-- What each node reads. -/
abbrev GI := List (List Int)
/-- Who reads a node. -/
def readersF (R : GI) (i : Nat) : List Int := ((List.range R.length).filter fun v => (R.getD v []).contains (i : Int)).map fun (v : Nat) => (v : Int)
def edgesF (R : GI) : Int := (R.map fun l => (l.length : Int)).sum
/-- What may be. -/
def GOk (R : GI) : Prop := R.length ≤ 20000 ∧ ∀ (v : Nat) l, R[v]? = some l → l.Nodup ∧ ∀ x ∈ l, 0 ≤ x ∧ x < R.length ∧ x ≠ v
def mapOf (l : List Int) : DataW Unit := .map (l.map fun v => (.int .i64 v, .lit (.int .i64 1)))
/-- A list of numbers in a block of its own. -/
def LAt (w : World) (S : Nat → Prop) (v : Value) (l : List Int) : Prop :=
  ∃ A c, v = .slice A l.length c ∧ l.length ≤ c ∧ (0 < l.length → ∃ g o cg, A = some ⟨g, o, none⟩ ∧ S g ∧ w.heap[g]? = some (.cells cg 3 (0, 0)) ∧ ∀ (k : Nat) x, l[k]? = some x → cg[o + k]? = some (.int .i64 x))
/-- A map of readers. -/
def MAt (w : World) (S : Nat → Prop) (v : Value) (l : List Int) : Prop :=
  (v = .map none ∧ l = []) ∨ ∃ mb, v = .map (some mb) ∧ S mb ∧ w.ownsMap Go.Proofs.Try.prog 3 (plainElem Go.Proofs.Try.prog 3) mb l.length (mapOf l)
/-- A graph lies in these blocks. -/
structure GraphAt (R : GI) (w : World) (b : Nat) (S : Nat → Prop) : Prop where
  ok : GOk R
  lt : ∀ c, S c → c < w.heap.size
  top : ∃ br cr bm cm csr csm, w.heap[b]? = some (.cells #[.slice (some ⟨br, 0, none⟩) R.length cr, .slice (some ⟨bm, 0, none⟩) R.length cm, .int .i64 (edgesF R)] 81 (0, 0)) ∧ S br ∧ S bm ∧
    w.heap[br]? = some (.cells csr 36 (0, 0)) ∧ w.heap[bm]? = some (.cells csm 87 (0, 0)) ∧ R.length ≤ cr ∧ R.length ≤ cm ∧
    (∀ (v : Nat) l, R[v]? = some l → ∃ u, csr[v]? = some u ∧ LAt w S u l) ∧ (∀ i, i < R.length → ∃ u, csm[i]? = some u ∧ MAt w S u (readersF R i)) ∧
    ∀ (i j : Nat) mb, i < R.length → j < R.length → csm[i]? = some (.map (some mb)) → csm[j]? = some (.map (some mb)) → i = j

theorem LAt.keep {w w' : World} {S : Nat → Prop} {v : Value} {l : List Int} (hs : ∀ c, S c → w'.heap[c]? = w.heap[c]?) : LAt w S v l → LAt w' S v l := by
  rintro ⟨A, c, e, hc, h⟩
  refine ⟨A, c, e, hc, fun h0 => ?_⟩
  obtain ⟨g, o, cg, e1, e2, e3, e4⟩ := h h0
  exact ⟨g, o, cg, e1, e2, (hs g e2).trans e3, e4⟩
theorem MAt.keep {w w' : World} {S : Nat → Prop} {v : Value} {l : List Int} (hs : ∀ c, S c → w'.heap[c]? = w.heap[c]?) : MAt w S v l → MAt w' S v l := by
  rintro (h | ⟨mb, e, h1, es, clock, hb, h2⟩)
  · exact .inl h
  · exact .inr ⟨mb, e, h1, es, clock, (hs mb h1).trans hb, h2⟩
theorem GraphAt.keep {R : GI} {w w' : World} {b : Nat} {S : Nat → Prop} (h : GraphAt R w b S) (hs : ∀ c, c = b ∨ S c → w'.heap[c]? = w.heap[c]?) : GraphAt R w' b S := by
  obtain ⟨h1, h2, br, cr, bm, cm, csr, csm, t1, t2, t3, t4, t5, t6, t7, t8, t9, t10⟩ := h
  have hS := fun c hc => hs c (.inr hc)
  refine ⟨h1, fun c hc => ?_, br, cr, bm, cm, csr, csm, (hs b (.inl rfl)).trans t1, t2, t3, (hS br t2).trans t4, (hS bm t3).trans t5, t6, t7, fun v l hl => ?_, fun i hi => ?_, t10⟩
  · have e := hS c hc
    have : c < w.heap.size := h2 c hc
    rw [Array.getElem?_eq_getElem this] at e
    exact (Array.getElem?_eq_some_iff.1 e).1
  · obtain ⟨u, e, hu⟩ := t8 v l hl
    exact ⟨u, e, hu.keep hS⟩
  · obtain ⟨u, e, hu⟩ := t9 i hi
    exact ⟨u, e, hu.keep hS⟩

/-- Kinds of things that the engine does not look into: what a datum of a kind is, which one is 'nil'; how it lies in memory, in which blocks besides the first one; how it is named. -/
inductive OK where
  | graph | void
  deriving DecidableEq
def OK.den : OK → Type
  | .graph => GI
  | .void => Nat
def OK.isNil : (k : OK) → k.den → Bool
  | .graph, R => decide (List.length (α := List Int) R = 0)
  | .void, _ => true
def OK.holds : (k : OK) → k.den → World → Nat → (Nat → Prop) → Prop
  | .graph, R, w, b, S => GraphAt R w b S
  | .void, _, _, _, _ => False
def OK.val : OK → Option Nat → Value
  | _, o => .pointer (o.map fun b => ⟨b, 0, none⟩)
def OK.isPtr : OK → Bool
  | _ => true
theorem OK.keep {k : OK} {d : k.den} {w w' : World} {b : Nat} {S : Nat → Prop} (h : k.holds d w b S) (hs : ∀ c, c = b ∨ S c → w'.heap[c]? = w.heap[c]?) : k.holds d w' b S := by
  cases k
  · exact GraphAt.keep h hs
  · exact h.elim
theorem OK.lt {k : OK} {d : k.den} {w : World} {b : Nat} {S : Nat → Prop} (h : k.holds d w b S) {c : Nat} (hc : c = b ∨ S c) : c < w.heap.size := by
  cases k
  · have h : GraphAt d w b S := h
    rcases hc with rfl | hc
    · obtain ⟨_, _, _, _, _, _, t1, _⟩ := h.top
      exact (Array.getElem?_eq_some_iff.1 t1).1
    · exact h.lt c hc
  · exact h.elim
theorem OK.val_cells (k : OK) (o : Option Nat) : (k.val o).cells = #[k.val o] := by cases k <;> rfl
theorem OK.val_one (k : OK) (o : Option Nat) : (k.val o).oneCell' = true := by cases k <;> rfl
theorem OK.val_ptr {k : OK} (h : k.isPtr = true) (o : Option Nat) : k.val o = .pointer (o.map fun b => ⟨b, 0, none⟩) := by cases k <;> first | rfl | cases h

/-- The type of bytes. -/
def byteT : TypeId := 0

end Go.Vm
