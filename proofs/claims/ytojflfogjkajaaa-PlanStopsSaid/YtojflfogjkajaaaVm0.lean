/-
  The engine, part 0: what is asked of the blocks that stay as they are: nothing; the things that it does not look into: graphs.
-/
import Derived.WalkKit
import Derived.Orders
import Derived.Maps.OwnIn
import Derived.Maps.Views
import Derived.Maps.OwnSet
import Derived.Carry
import Derived.Test.YtojflfogjkajaaaProg
namespace Go.Vm
def Tabs (_ : List (Nat × _root_.Go.Obj)) : Prop := True
abbrev GI := List (List Int)
def readersF (R : GI) (i : Nat) : List Int := ((List.range R.length).filter fun v => (R.getD v []).contains (i : Int)).map fun (v : Nat) => (v : Int)
def edgesF (R : GI) : Int := (R.map fun l => (l.length : Int)).sum
def GOk (R : GI) : Prop := R.length ≤ 20000 ∧ ∀ (v : Nat) l, R[v]? = some l → l.Nodup ∧ ∀ x ∈ l, 0 ≤ x ∧ x < R.length ∧ x ≠ v
def mapOf (l : List Int) : DataW Unit := .map (l.map fun v => (.int .i64 v, .lit (.int .i64 1)))
def LAt (w : World) (S : Nat → Prop) (v : Value) (l : List Int) : Prop :=
  ∃ A c, v = .slice A l.length c ∧ l.length ≤ c ∧ (0 < l.length → ∃ g o cg, A = some ⟨g, o, none⟩ ∧ S g ∧ w.heap[g]? = some (.cells cg 3 (0, 0)) ∧ ∀ (k : Nat) x, l[k]? = some x → cg[o + k]? = some (.int .i64 x))
def MAt (w : World) (S : Nat → Prop) (v : Value) (l : List Int) : Prop :=
  (v = .map none ∧ l = []) ∨ ∃ mb, v = .map (some mb) ∧ S mb ∧ w.ownsMap Go.Proofs.Try.prog 3 (plainElem Go.Proofs.Try.prog 3) mb l.length (mapOf l)
structure GraphAt (R : GI) (w : World) (b : Nat) (S : Nat → Prop) : Prop where
  ok : GOk R
  lt : ∀ c, S c → c < w.heap.size
  top : ∃ br cr bm cm csr csm, w.heap[b]? = some (.cells #[.slice (some ⟨br, 0, none⟩) R.length cr, .slice (some ⟨bm, 0, none⟩) R.length cm, .int .i64 (edgesF R)] 81 (0, 0)) ∧ S br ∧ S bm ∧
    w.heap[br]? = some (.cells csr 36 (0, 0)) ∧ w.heap[bm]? = some (.cells csm 87 (0, 0)) ∧ R.length ≤ cr ∧ R.length ≤ cm ∧
    (∀ (v : Nat) l, R[v]? = some l → ∃ u, csr[v]? = some u ∧ LAt w S u l) ∧ (∀ i, i < R.length → ∃ u, csm[i]? = some u ∧ MAt w S u (readersF R i)) ∧
    ∀ (i j : Nat) mb, i < R.length → j < R.length → csm[i]? = some (.map (some mb)) → csm[j]? = some (.map (some mb)) → i = j
theorem LAt.keep {w w' : World} {S : Nat → Prop} {v : Value} {l : List Int} (hs : ∀ c, S c → w'.heap[c]? = w.heap[c]?) : LAt w S v l → LAt w' S v l := by
  rintro ⟨A, c, e, hc, h⟩
  refine ⟨A, c, e, hc, fun h0 => ?_⟩
  obtain ⟨g, o, cg, e1, e2, e3, e4⟩ := h h0
  exact ⟨g, o, cg, e1, e2, (hs g e2).trans e3, e4⟩
theorem MAt.keep {w w' : World} {S : Nat → Prop} {v : Value} {l : List Int} (hs : ∀ c, S c → w'.heap[c]? = w.heap[c]?) : MAt w S v l → MAt w' S v l := by
  rintro (h | ⟨mb, e, h1, es, clock, hb, h2⟩)
  · exact .inl h
  · exact .inr ⟨mb, e, h1, es, clock, (hs mb h1).trans hb, h2⟩
theorem GraphAt.keep {R : GI} {w w' : World} {b : Nat} {S : Nat → Prop} (h : GraphAt R w b S) (hs : ∀ c, c = b ∨ S c → w'.heap[c]? = w.heap[c]?) : GraphAt R w' b S := by
  obtain ⟨h1, h2, br, cr, bm, cm, csr, csm, t1, t2, t3, t4, t5, t6, t7, t8, t9, t10⟩ := h
  have hS := fun c hc => hs c (.inr hc)
  refine ⟨h1, fun c hc => ?_, br, cr, bm, cm, csr, csm, (hs b (.inl rfl)).trans t1, t2, t3, (hS br t2).trans t4, (hS bm t3).trans t5, t6, t7, fun v l hl => ?_, fun i hi => ?_, t10⟩
  · have e := hS c hc
    have : c < w.heap.size := h2 c hc
    rw [Array.getElem?_eq_getElem this] at e
    exact (Array.getElem?_eq_some_iff.1 e).1
  · obtain ⟨u, e, hu⟩ := t8 v l hl
    exact ⟨u, e, hu.keep hS⟩
  · obtain ⟨u, e, hu⟩ := t9 i hi
    exact ⟨u, e, hu.keep hS⟩
noncomputable abbrev P0 : Program := Go.Proofs.Try.prog
def intT : TypeId := 3
def mapN (l : List (Int × Int)) : DataW Unit := .map (l.map fun p => (.int .i64 p.1, .lit (.int .i64 p.2)))
def mIns (x : Int × Int) : List (Int × Int) → List (Int × Int)
  | [] => [x]
  | y :: r => if x.1 < y.1 then x :: y :: r else y :: mIns x r
def mPut (l : List (Int × Int)) (k v : Int) : List (Int × Int) := mIns (k, v) (l.filter fun p => !decide (p.1 = k))
def mGet (l : List (Int × Int)) (k : Int) : Int := ((l.find? fun p => decide (p.1 = k)).map (·.2)).getD 0
def mHas (l : List (Int × Int)) (k : Int) : Bool := l.any fun p => decide (p.1 = k)
def MapAt (l : List (Int × Int)) (w : World) (b : Nat) : Prop := w.ownsMap P0 intT (plainElem P0 intT) b l.length (mapN l)
theorem sameKey_int (x v : Int) : Lit.sameKey (.int .i64 x) (.int .i64 v) = decide (x = v) := by simp [Lit.sameKey]
theorem insert_mapN (k v : Int) : ∀ l : List (Int × Int), DataW.insert ((.int .i64 k : Lit), (.lit (.int .i64 v) : DataW Unit)) (l.map fun p => ((.int .i64 p.1 : Lit), (.lit (.int .i64 p.2) : DataW Unit))) = (mIns (k, v) l).map fun p => ((.int .i64 p.1 : Lit), (.lit (.int .i64 p.2) : DataW Unit))
  | [] => rfl
  | y :: r => by
    simp only [List.map_cons, DataW.insert, mIns, Lit.before, decide_eq_true_eq]
    split
    · rfl
    · rw [insert_mapN k v r]; rfl
theorem put_mapN (l : List (Int × Int)) (k v : Int) : (mapN l).put (.int .i64 k) (.lit (.int .i64 v)) = mapN (mPut l k v) := by
  simp only [DataW.put, mapN, mPut]
  rw [← insert_mapN, List.filter_map]
  congr 3
  apply List.filter_congr
  intro p _
  simp [sameKey_int]
theorem has_mapN (l : List (Int × Int)) (k : Int) : Maps.has (mapN l) (.int .i64 k) = mHas l k := by
  simp only [mapN, Maps.has_eq, mHas, List.any_map]
  congr 1
  funext p
  simp [sameKey_int]
theorem atKey_mapN (l : List (Int × Int)) (k : Int) : (mapN l).atKey (.int .i64 k) (.lit (.int .i64 0)) = .lit (.int .i64 (mGet l k)) := by
  simp only [DataW.atKey, mapN, mGet]
  induction l with
  | nil => rfl
  | cons y r ih =>
    simp only [List.map_cons, List.find?_cons, sameKey_int]
    by_cases h : y.1 = k
    · simp [h]
    · simp only [h, decide_false]
      exact ih
theorem size_mapN (l : List (Int × Int)) : Maps.size (mapN l) = l.length := by simp [Maps.size, mapN]
theorem MapAt.tight {w : World} {b n : Nat} {l : List (Int × Int)} (h : w.ownsMap P0 intT (plainElem P0 intT) b n (mapN l)) : MapAt l w b := by
  obtain ⟨es, clock, h1, h2, h3, h4⟩ := h
  refine ⟨es, clock, h1, h2, ?_, h4⟩
  have h5 := size_mapN l
  rw [h4] at h5
  simp only [Maps.size] at h5
  rw [length_read] at h5
  omega
theorem int_und : P0.underlying intT = some (.int .i64) := Go.Proofs.Try.underlying3
theorem int_zero (w : World) : (zeroValue intT).run P0 w = .ok (.int .i64 0) w := Go.Proofs.Try.zeroValue3 w
theorem int_wf {v : Int} (h : -9223372036854775808 ≤ v ∧ v ≤ 9223372036854775807) : (Lit.int .i64 v).wf = true := by
  have h1 : IntKind.i64.min = -9223372036854775808 := by decide
  have h2 : IntKind.i64.max = 9223372036854775807 := by decide
  simp only [Lit.wf, Bool.and_eq_true, decide_eq_true_eq, h1, h2]
  omega
theorem int_key {v : Int} (h : -9223372036854775808 ≤ v ∧ v ≤ 9223372036854775807) : keyOf P0 intT (.int .i64 v) = some (.int .i64 v) := Maps.keyOf_int_mk int_und (int_wf h)
theorem MapAt.look {t : TypeId} {l : List (Int × Int)} {w : World} {b : Nat} (h : MapAt l w b) (ht : P0.underlying t = some (.map intT intT)) {k : Int} (hk : -9223372036854775808 ≤ k ∧ k ≤ 9223372036854775807) :
    (Instr.lookup t (.map (some b)) (.int .i64 k) false).run P0 w = .ok (.int .i64 (mGet l k)) w := by
  obtain ⟨c, h1, h2, _⟩ := World.ownsMap.lookup_int h (Maps.int_keyed int_und) ht int_und (int_zero w) (int_key hk)
  rw [atKey_mapN] at h2
  cases h2
  exact h1
theorem MapAt.look_ok {t : TypeId} {l : List (Int × Int)} {w : World} {b : Nat} (h : MapAt l w b) (ht : P0.underlying t = some (.map intT intT)) {k : Int} (hk : -9223372036854775808 ≤ k ∧ k ≤ 9223372036854775807) :
    (Instr.lookup t (.map (some b)) (.int .i64 k) true).run P0 w = .ok (.tuple #[.int .i64 (mGet l k), .bool (mHas l k)]) w := by
  obtain ⟨v, ps, h1, h2⟩ := World.ownsMap.look_ok h (Maps.int_keyed int_und) ht (int_zero w) (zd := .lit (.int .i64 0)) (plainElem_int int_und (by decide)) (int_key hk)
  rw [atKey_mapN] at h2
  obtain ⟨c, rfl, h3, _⟩ := plainElem_int_inv int_und h2
  have h3 := congrArg Prod.fst h3
  cases h3
  rw [has_mapN] at h1
  exact h1
theorem MapAt.put {t : TypeId} {l : List (Int × Int)} {w : World} {b : Nat} (h : MapAt l w b) (ht : P0.underlying t = some (.map intT intT)) {k v : Int} (hk : -9223372036854775808 ≤ k ∧ k ≤ 9223372036854775807) (hv : -9223372036854775808 ≤ v ∧ v ≤ 9223372036854775807)
    (hl : l.length ≤ 1000000000) : ∃ w', (Instr.mapUpdate t (.map (some b)) (.int .i64 k) (.int .i64 v)).run P0 w = .ok () w' ∧ MapAt (mPut l k v) w' b ∧ w.grownBy w' (some b) := by
  obtain ⟨w', h1, h2, h3⟩ := World.ownsMap.update h (Maps.int_keyed int_und) ht (by unfold maxLen; omega) (int_key hk) (plainElem_int int_und (int_wf hv))
  rw [put_mapN] at h2
  exact ⟨w', h1, .tight h2, h3⟩
theorem MapAt.block {l : List (Int × Int)} {w : World} {b : Nat} (h : MapAt l w b) : ∃ es clock, w.heap[b]? = some (.map es clock) ∧ es.size = l.length := by
  obtain ⟨es, clock, h1, h2, h3, h4⟩ := h
  refine ⟨es, clock, h1, ?_⟩
  have h5 := size_mapN l
  rw [h4] at h5
  simp only [Maps.size] at h5
  rw [length_read] at h5
  exact h5
theorem MapAt.new (w : World) : MapAt [] (w.alloc (.map #[] 0)) w.heap.size := World.ownsMap_made w _ _ _
theorem MapAt.same {l : List (Int × Int)} {w w' : World} {b : Nat} (h : MapAt l w b) (hb : w'.heap[b]? = w.heap[b]?) : MapAt l w' b := by
  obtain ⟨es, clock, h1, h2⟩ := h
  exact ⟨es, clock, hb.trans h1, h2⟩
inductive OK where
  | graph | mii | void
  deriving DecidableEq
def OK.den : OK → Type
  | .graph => GI
  | .mii => List (Int × Int)
  | .void => Nat
def OK.isNil : (k : OK) → k.den → Bool
  | .graph, R => decide (List.length (α := List Int) R = 0)
  | .mii, _ => false
  | .void, _ => true
def OK.holds : (k : OK) → k.den → World → Nat → (Nat → Prop) → Prop
  | .graph, R, w, b, S => GraphAt R w b S
  | .mii, l, w, b, S => MapAt l w b ∧ ∀ c, ¬ S c
  | .void, _, _, _, _ => False
def OK.val : OK → Option Nat → Value
  | .mii, o => .map o
  | _, o => .pointer (o.map fun b => ⟨b, 0, none⟩)
def OK.isPtr : OK → Bool
  | .mii => false
  | _ => true
theorem OK.keep {k : OK} {d : k.den} {w w' : World} {b : Nat} {S : Nat → Prop} (h : k.holds d w b S) (hs : ∀ c, c = b ∨ S c → w'.heap[c]? = w.heap[c]?) : k.holds d w' b S := by
  cases k
  · exact GraphAt.keep h hs
  · exact ⟨h.1.same (hs b (.inl rfl)), h.2⟩
  · exact h.elim
theorem OK.lt {k : OK} {d : k.den} {w : World} {b : Nat} {S : Nat → Prop} (h : k.holds d w b S) {c : Nat} (hc : c = b ∨ S c) : c < w.heap.size := by
  cases k
  · have h : GraphAt d w b S := h
    rcases hc with rfl | hc
    · obtain ⟨_, _, _, _, _, _, t1, _⟩ := h.top
      exact (Array.getElem?_eq_some_iff.1 t1).1
    · exact h.lt c hc
  · rcases hc with rfl | hc
    · exact World.ownsMap.lt h.1
    · exact (h.2 c hc).elim
  · exact h.elim
theorem OK.val_cells (k : OK) (o : Option Nat) : (k.val o).cells = #[k.val o] := by cases k <;> rfl
theorem OK.val_one (k : OK) (o : Option Nat) : (k.val o).oneCell' = true := by cases k <;> rfl
theorem OK.val_ptr {k : OK} (h : k.isPtr = true) (o : Option Nat) : k.val o = .pointer (o.map fun b => ⟨b, 0, none⟩) := by cases k <;> first | rfl | cases h
def OK.asM : (k : OK) → k.den → Option (List (Int × Int))
  | .mii, l => some l
  | _, _ => none
def OK.ofM : (k : OK) → List (Int × Int) → Option k.den
  | .mii, l => some l
  | _, _ => none
theorem OK.asM_ok {k : OK} {d : k.den} {l : List (Int × Int)} (h : k.asM d = some l) : k.isNil d = false ∧ (∀ o, k.val o = .map o) ∧ ∀ w b S, k.holds d w b S → MapAt l w b ∧ ∀ c, ¬ S c := by
  cases k <;> cases h
  exact ⟨rfl, fun _ => rfl, fun _ _ _ h => h⟩
theorem OK.ofM_ok {k : OK} {d : k.den} {l : List (Int × Int)} (h : k.ofM l = some d) : k.isNil d = false ∧ (∀ o, k.val o = .map o) ∧ ∀ w b S, MapAt l w b → (∀ c, ¬ S c) → k.holds d w b S := by
  cases k <;> cases h
  exact ⟨rfl, fun _ => rfl, fun _ _ _ h1 h2 => ⟨h1, h2⟩⟩
def byteT : TypeId := 0
end Go.Vm
