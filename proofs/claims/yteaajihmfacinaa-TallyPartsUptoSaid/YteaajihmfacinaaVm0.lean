/-
  The engine, part 0: what is asked of the blocks that stay as they are: nothing; the things that it does not look into: a tally, its maps of rows.
-/
import Derived.WalkKit
import Derived.Orders
import Derived.Maps.OwnIn
import Derived.Maps.Views
import Derived.Maps.OwnSet
import Derived.Maps.AppendAt
import Derived.DeepKeys3
import Derived.Carry
import Derived.Test.YteaajihmfacinaaProg
namespace Go.Vm
open Go.ChangeMaps
def Tabs (_ : List (Nat × _root_.Go.Obj)) : Prop := True
noncomputable abbrev P0 : Program := Go.Proofs.Try.prog
def intT : TypeId := 3
def spotT : TypeId := 77
def lrT : TypeId := 74
def liT : TypeId := 32
theorem lr_zero (w : World) : (zeroValue lrT).run P0 w = .ok (.slice none 0 0) w := Go.Proofs.Try.zeroValue74 w
theorem li_zero (w : World) : (zeroValue liT).run P0 w = .ok (.slice none 0 0) w := Go.Proofs.Try.zeroValue32 w
def mapN (l : List (Int × Int)) : DataW Unit := .map (l.map fun p => (.int .i64 p.1, .lit (.int .i64 p.2)))
def mIns (x : Int × Int) : List (Int × Int) → List (Int × Int)
  | [] => [x]
  | y :: r => if x.1 < y.1 then x :: y :: r else y :: mIns x r
def mPut (l : List (Int × Int)) (k v : Int) : List (Int × Int) := mIns (k, v) (l.filter fun p => !decide (p.1 = k))
def mGet (l : List (Int × Int)) (k : Int) : Int := ((l.find? fun p => decide (p.1 = k)).map (·.2)).getD 0
def mHas (l : List (Int × Int)) (k : Int) : Bool := l.any fun p => decide (p.1 = k)
def MapAt (l : List (Int × Int)) (w : World) (b : Nat) : Prop := w.ownsMap P0 intT (plainElem P0 intT) b l.length (mapN l)
theorem sameKey_int (x v : Int) : Lit.sameKey (.int .i64 x) (.int .i64 v) = decide (x = v) := by simp [Lit.sameKey]
theorem insert_mapN (k v : Int) : ∀ l : List (Int × Int), DataW.insert ((.int .i64 k : Lit), (.lit (.int .i64 v) : DataW Unit)) (l.map fun p => ((.int .i64 p.1 : Lit), (.lit (.int .i64 p.2) : DataW Unit))) = (mIns (k, v) l).map fun p => ((.int .i64 p.1 : Lit), (.lit (.int .i64 p.2) : DataW Unit))
  | [] => rfl
  | y :: r => by
    simp only [List.map_cons, DataW.insert, mIns, Lit.before, decide_eq_true_eq]
    split
    · rfl
    · rw [insert_mapN k v r]; rfl
theorem put_mapN (l : List (Int × Int)) (k v : Int) : (mapN l).put (.int .i64 k) (.lit (.int .i64 v)) = mapN (mPut l k v) := by
  simp only [DataW.put, mapN, mPut]
  rw [← insert_mapN, List.filter_map]
  congr 3
  apply List.filter_congr
  intro p _
  simp [sameKey_int]
theorem has_mapN (l : List (Int × Int)) (k : Int) : Maps.has (mapN l) (.int .i64 k) = mHas l k := by
  simp only [mapN, Maps.has_eq, mHas, List.any_map]
  congr 1
  funext p
  simp [sameKey_int]
theorem atKey_mapN (l : List (Int × Int)) (k : Int) : (mapN l).atKey (.int .i64 k) (.lit (.int .i64 0)) = .lit (.int .i64 (mGet l k)) := by
  simp only [DataW.atKey, mapN, mGet]
  induction l with
  | nil => rfl
  | cons y r ih =>
    simp only [List.map_cons, List.find?_cons, sameKey_int]
    by_cases h : y.1 = k
    · simp [h]
    · simp only [h, decide_false]
      exact ih
theorem size_mapN (l : List (Int × Int)) : Maps.size (mapN l) = l.length := by simp [Maps.size, mapN]
theorem MapAt.tight {w : World} {b n : Nat} {l : List (Int × Int)} (h : w.ownsMap P0 intT (plainElem P0 intT) b n (mapN l)) : MapAt l w b := by
  obtain ⟨es, clock, h1, h2, h3, h4⟩ := h
  refine ⟨es, clock, h1, h2, ?_, h4⟩
  have h5 := size_mapN l
  rw [h4] at h5
  simp only [Maps.size] at h5
  rw [length_read] at h5
  omega
theorem int_und : P0.underlying intT = some (.int .i64) := Go.Proofs.Try.underlying3
theorem int_zero (w : World) : (zeroValue intT).run P0 w = .ok (.int .i64 0) w := Go.Proofs.Try.zeroValue3 w
theorem int_wf {v : Int} (h : -9223372036854775808 ≤ v ∧ v ≤ 9223372036854775807) : (Lit.int .i64 v).wf = true := by
  have h1 : IntKind.i64.min = -9223372036854775808 := by decide
  have h2 : IntKind.i64.max = 9223372036854775807 := by decide
  simp only [Lit.wf, Bool.and_eq_true, decide_eq_true_eq, h1, h2]
  omega
theorem int_key {v : Int} (h : -9223372036854775808 ≤ v ∧ v ≤ 9223372036854775807) : keyOf P0 intT (.int .i64 v) = some (.int .i64 v) := Maps.keyOf_int_mk int_und (int_wf h)
theorem MapAt.look {t : TypeId} {l : List (Int × Int)} {w : World} {b : Nat} (h : MapAt l w b) (ht : P0.underlying t = some (.map intT intT)) {k : Int} (hk : -9223372036854775808 ≤ k ∧ k ≤ 9223372036854775807) :
    (Instr.lookup t (.map (some b)) (.int .i64 k) false).run P0 w = .ok (.int .i64 (mGet l k)) w := by
  obtain ⟨c, h1, h2, _⟩ := World.ownsMap.lookup_int h (Maps.int_keyed int_und) ht int_und (int_zero w) (int_key hk)
  rw [atKey_mapN] at h2
  cases h2
  exact h1
theorem MapAt.look_ok {t : TypeId} {l : List (Int × Int)} {w : World} {b : Nat} (h : MapAt l w b) (ht : P0.underlying t = some (.map intT intT)) {k : Int} (hk : -9223372036854775808 ≤ k ∧ k ≤ 9223372036854775807) :
    (Instr.lookup t (.map (some b)) (.int .i64 k) true).run P0 w = .ok (.tuple #[.int .i64 (mGet l k), .bool (mHas l k)]) w := by
  obtain ⟨v, ps, h1, h2⟩ := World.ownsMap.look_ok h (Maps.int_keyed int_und) ht (int_zero w) (zd := .lit (.int .i64 0)) (plainElem_int int_und (by decide)) (int_key hk)
  rw [atKey_mapN] at h2
  obtain ⟨c, rfl, h3, _⟩ := plainElem_int_inv int_und h2
  have h3 := congrArg Prod.fst h3
  cases h3
  rw [has_mapN] at h1
  exact h1
theorem MapAt.put {t : TypeId} {l : List (Int × Int)} {w : World} {b : Nat} (h : MapAt l w b) (ht : P0.underlying t = some (.map intT intT)) {k v : Int} (hk : -9223372036854775808 ≤ k ∧ k ≤ 9223372036854775807) (hv : -9223372036854775808 ≤ v ∧ v ≤ 9223372036854775807)
    (hl : l.length ≤ 1000000000) : ∃ w', (Instr.mapUpdate t (.map (some b)) (.int .i64 k) (.int .i64 v)).run P0 w = .ok () w' ∧ MapAt (mPut l k v) w' b ∧ w.grownBy w' (some b) := by
  obtain ⟨w', h1, h2, h3⟩ := World.ownsMap.update h (Maps.int_keyed int_und) ht (by unfold maxLen; omega) (int_key hk) (plainElem_int int_und (int_wf hv))
  rw [put_mapN] at h2
  exact ⟨w', h1, .tight h2, h3⟩
theorem MapAt.block {l : List (Int × Int)} {w : World} {b : Nat} (h : MapAt l w b) : ∃ es clock, w.heap[b]? = some (.map es clock) ∧ es.size = l.length := by
  obtain ⟨es, clock, h1, h2, h3, h4⟩ := h
  refine ⟨es, clock, h1, ?_⟩
  have h5 := size_mapN l
  rw [h4] at h5
  simp only [Maps.size] at h5
  rw [length_read] at h5
  exact h5
theorem MapAt.new (w : World) : MapAt [] (w.alloc (.map #[] 0)) w.heap.size := World.ownsMap_made w _ _ _
theorem MapAt.same {l : List (Int × Int)} {w w' : World} {b : Nat} (h : MapAt l w b) (hb : w'.heap[b]? = w.heap[b]?) : MapAt l w' b := by
  obtain ⟨es, clock, h1, h2⟩ := h
  exact ⟨es, clock, hb.trans h1, h2⟩
abbrev Sp := Int × Int × Int
def WordI (n : Int) : Prop := -9223372036854775808 ≤ n ∧ n ≤ 9223372036854775807
def SpOk (k : Sp) : Prop := WordI k.1 ∧ WordI k.2.1 ∧ WordI k.2.2
def spotV (k : Sp) : Value := .agg #[.int .i64 k.1, .int .i64 k.2.1, .int .i64 k.2.2]
theorem spotV_inj {k j : Sp} (h : spotV k = spotV j) : k = j := by
  obtain ⟨a, b, c⟩ := k
  obtain ⟨a', b', c'⟩ := j
  simp only [spotV, Value.agg.injEq, Array.mk.injEq, List.cons.injEq, Value.int.injEq, true_and, and_true] at h
  obtain ⟨rfl, rfl, rfl⟩ := h
  rfl
section
variable {α : Type}
def gGet (G : List (Sp × List α)) (k : Sp) : List α := match G.find? (fun p => decide (p.1 = k)) with | some p => p.2 | none => []
def gHas (G : List (Sp × List α)) (k : Sp) : Bool := G.any fun p => decide (p.1 = k)
def gPut (G : List (Sp × List α)) (k : Sp) (l : List α) : List (Sp × List α) := if gHas G k = true then G.map (fun p => if p.1 = k then (k, l) else p) else G ++ [(k, l)]
theorem gGet_none {G : List (Sp × List α)} {k : Sp} (h : gHas G k = false) : gGet G k = [] := by
  have : G.find? (fun p => decide (p.1 = k)) = none := List.find?_eq_none.2 fun p hp => by simpa using List.any_eq_false.1 h p hp
  unfold gGet
  rw [this]
theorem gGet_at {G : List (Sp × List α)} (hn : (G.map (·.1)).Nodup) {i : Nat} {p : Sp × List α} (h : G[i]? = some p) : gGet G p.1 = p.2 := by
  induction G generalizing i with
  | nil => simp at h
  | cons q r ih =>
    have hn2 := List.nodup_cons.1 hn
    unfold gGet
    rw [List.find?_cons]
    cases i with
    | zero =>
      cases h
      simp
    | succ i =>
      have h : r[i]? = some p := h
      have hne : q.1 ≠ p.1 := fun e => hn2.1 (List.mem_map.2 ⟨p, List.mem_of_getElem? h, e.symm⟩)
      rw [decide_eq_false hne]
      exact ih hn2.2 h
theorem gGet_put (G : List (Sp × List α)) (k : Sp) (l : List α) (j : Sp) : gGet (gPut G k l) j = if j = k then l else gGet G j := by
  unfold gPut
  split
  · rename_i hk
    induction G with
    | nil => simp [gHas] at hk
    | cons q r ih =>
      unfold gGet
      rw [List.map_cons, List.find?_cons, List.find?_cons]
      by_cases hq : q.1 = k
      · rw [if_pos hq]
        by_cases hj : j = k
        · subst hj
          simp
        · rw [if_neg hj, decide_eq_false (p := k = j) (fun e => hj e.symm), decide_eq_false (p := q.1 = j) (fun e => hj (e.symm.trans hq))]
          show gGet (r.map _) j = gGet r j
          by_cases hr : gHas r k = true
          · have := ih hr
            rwa [if_neg hj] at this
          · have : r.map (fun p => if p.1 = k then (k, l) else p) = r := by
              conv => rhs; rw [← List.map_id r]
              refine List.map_congr_left fun p hp => ?_
              have h2 := List.any_eq_false.1 (show gHas r k = false by simpa using hr) p hp
              rw [if_neg (by simpa using h2)]
              rfl
            rw [this]
      · rw [if_neg hq]
        by_cases hj : q.1 = j
        · rw [decide_eq_true hj, if_neg (fun e => hq (hj.trans e))]
        · rw [decide_eq_false hj]
          refine ih ?_
          unfold gHas at hk ⊢
          rw [List.any_cons, decide_eq_false hq, Bool.false_or] at hk
          exact hk
  · rename_i hk
    have hk : gHas G k = false := by simpa using hk
    unfold gGet
    rw [List.find?_append]
    by_cases hj : j = k
    · subst hj
      have : G.find? (fun p => decide (p.1 = j)) = none := List.find?_eq_none.2 fun p hp => by simpa using List.any_eq_false.1 hk p hp
      rw [this, if_pos rfl]
      simp
    · rw [if_neg hj]
      have : [(k, l)].find? (fun p => decide (p.1 = j)) = none := by simp; exact fun e => hj (by rw [e])
      rw [this, Option.or_none]
theorem gPut_keys (G : List (Sp × List α)) (k : Sp) (l : List α) : (gPut G k l).map (·.1) = if gHas G k = true then G.map (·.1) else G.map (·.1) ++ [k] := by
  unfold gPut
  split
  · rw [List.map_map]
    refine List.map_congr_left fun p _ => ?_
    show (if p.1 = k then (k, l) else p).1 = p.1
    split
    · rename_i h; exact h.symm
    · rfl
  · simp
theorem gPut_nodup {G : List (Sp × List α)} (h : (G.map (·.1)).Nodup) (k : Sp) (l : List α) : ((gPut G k l).map (·.1)).Nodup := by
  rw [gPut_keys]
  split
  · exact h
  · rename_i hk
    refine List.nodup_append.2 ⟨h, List.nodup_cons.2 ⟨by simp, List.nodup_nil⟩, fun a ha b hb => ?_⟩
    rw [List.mem_singleton.1 hb]
    rintro rfl
    obtain ⟨p, hp, e⟩ := List.mem_map.1 ha
    exact hk (List.any_eq_true.2 ⟨p, hp, decide_eq_true e⟩)
def gIdx (G : List (Sp × List α)) (k : Sp) : Nat := G.findIdx fun p => decide (p.1 = k)
theorem gIdx_at {G : List (Sp × List α)} (hn : (G.map (·.1)).Nodup) {i : Nat} {p : Sp × List α} (h : G[i]? = some p) : gIdx G p.1 = i := by
  induction G generalizing i with
  | nil => simp at h
  | cons q r ih =>
    have hn2 := List.nodup_cons.1 hn
    unfold gIdx
    rw [List.findIdx_cons]
    cases i with
    | zero =>
      cases h
      simp
    | succ i =>
      have h : r[i]? = some p := h
      have hne : ¬ q.1 = p.1 := fun e => hn2.1 (List.mem_map.2 ⟨p, List.mem_of_getElem? h, e.symm⟩)
      rw [decide_eq_false hne]
      show gIdx r p.1 + 1 = i + 1
      rw [ih hn2.2 h]
def gTch (G : List (Sp × List α)) (k : Sp) : List (Sp × List α) := if gHas G k = true then G else G ++ [(k, [])]
theorem gTch_get (G : List (Sp × List α)) (k j : Sp) : gGet (gTch G k) j = gGet G j := by
  unfold gTch
  split
  · rfl
  · rename_i hk
    have hk : gHas G k = false := by simpa using hk
    have := gGet_put G k [] j
    rw [gPut, hk, if_neg (by decide)] at this
    rw [this]
    split
    · rename_i e; rw [e, gGet_none hk]
    · rfl
theorem gTch_nodup {G : List (Sp × List α)} (h : (G.map (·.1)).Nodup) (k : Sp) : ((gTch G k).map (·.1)).Nodup := by
  unfold gTch
  split
  · exact h
  · rename_i hk
    have hk : gHas G k = false := by simpa using hk
    have := gPut_nodup h k []
    rwa [gPut, hk, if_neg (by decide)] at this
def gblk : Value → Option Nat
  | .slice (some a) _ cap => if 0 < cap then some a.block else none
  | _ => none
def RowIn (w : World) (n : Nat) (enc : α → List Value) (v : Value) (l : List α) : Prop :=
  ∃ A cap, v = .slice A l.length cap ∧ ((cap = 0 ∧ l.length = 0) ∨ ∃ g base cs ty, A = some ⟨g, base, none⟩ ∧ 0 < cap ∧ w.heap[g]? = some (.cells cs ty (0, 0)) ∧ base + cap * n = cs.size ∧ l.length ≤ cap ∧ cap ≤ maxLen ∧
    ∀ (i : Nat) x, l[i]? = some x → ∀ (j : Nat) u, (enc x)[j]? = some u → cs[base + i * n + j]? = some u)
theorem RowIn.same {w w' : World} {n : Nat} {enc : α → List Value} {v : Value} {l : List α} (h : RowIn w n enc v l) (hs : ∀ g, gblk v = some g → w'.heap[g]? = w.heap[g]?) : RowIn w' n enc v l := by
  obtain ⟨A, cap, rfl, h⟩ := h
  refine ⟨A, cap, rfl, h.imp id ?_⟩
  rintro ⟨g, base, cs, ty, rfl, h1, h2, h3⟩
  exact ⟨g, base, cs, ty, rfl, h1, (hs g (by simp [gblk, h1])).trans h2, h3⟩
theorem RowIn.nil (w : World) (n : Nat) (enc : α → List Value) : RowIn w n enc (.slice none 0 0) [] := ⟨none, 0, rfl, .inl ⟨rfl, rfl⟩⟩
def Inn (ho : Option Sp) (k : Sp) : Prop := ∀ j, ho = some j → k ≠ j
structure GrpAt (n : Nat) (enc : α → List Value) (G : List (Sp × List α)) (ho : Option Sp) (w : World) (b : Nat) (S : Nat → Prop) : Prop where
  nd : (G.map (·.1)).Nodup
  ok : ∀ p ∈ G, SpOk p.1
  lt : ∀ c, S c → c < w.heap.size
  nb : ¬ S b
  has : ∀ j, ho = some j → gHas G j = true
  top : ∃ es clock, w.heap[b]? = some (.map es clock) ∧ es.size = G.length ∧
    (∀ (i : Nat) p, G[i]? = some p → ∃ e, es[i]? = some e ∧ e.key = spotV p.1 ∧ (Inn ho p.1 → RowIn w n enc e.val p.2 ∧ ∀ g, gblk e.val = some g → S g)) ∧
    (∀ (i j : Nat) p q e e' g, G[i]? = some p → G[j]? = some q → Inn ho p.1 → Inn ho q.1 → es[i]? = some e → es[j]? = some e' → gblk e.val = some g → gblk e'.val = some g → i = j) ∧
    (∀ (i : Nat) e, es[i]? = some e → e.born = i) ∧ clock = es.size
def AtKey (w : World) (b : Nat) (k : Sp) (v : Value) : Prop :=
  ∃ es clock, w.heap[b]? = some (.map es clock) ∧ ((∃ (i : Nat) (e : MapEntry), es[i]? = some e ∧ e.key = spotV k ∧ v = e.val) ∨ ((∀ e ∈ es.toList, e.key ≠ spotV k) ∧ v = .slice none 0 0))
def EntAt (w : World) (b : Nat) (k : Sp) (i : Nat) (v : Value) : Prop :=
  ∃ es clock, w.heap[b]? = some (.map es clock) ∧ ∃ (e : MapEntry), es[i]? = some e ∧ e.key = spotV k ∧ e.val = v
section
variable {n : Nat} {enc : α → List Value} {G : List (Sp × List α)} {ho : Option Sp} {w w' : World} {b : Nat} {S : Nat → Prop}
theorem GrpAt.keep (h : GrpAt n enc G ho w b S) (hs : ∀ c, c = b ∨ S c → w'.heap[c]? = w.heap[c]?) : GrpAt n enc G ho w' b S := by
  obtain ⟨h1, h2, h3, h4, h5, es, clock, t1, t2, t3, t4⟩ := h
  refine ⟨h1, h2, fun c hc => ?_, h4, h5, es, clock, (hs b (.inl rfl)).trans t1, t2, fun i p hp => ?_, t4⟩
  · have e := hs c (.inr hc)
    rw [Array.getElem?_eq_getElem (h3 c hc)] at e
    exact (Array.getElem?_eq_some_iff.1 e).1
  · obtain ⟨e, a1, a2, a4⟩ := t3 i p hp
    exact ⟨e, a1, a2, fun hi => ⟨(a4 hi).1.same fun g hg => hs g (.inr ((a4 hi).2 g hg)), (a4 hi).2⟩⟩
theorem GrpAt.blt (h : GrpAt n enc G ho w b S) : b < w.heap.size := by
  obtain ⟨es, clock, t1, _⟩ := h.top
  exact (Array.getElem?_eq_some_iff.1 t1).1
theorem GrpAt.new (w : World) : GrpAt n enc [] none (w.alloc (.map #[] 0)) w.heap.size (fun _ => False) :=
  ⟨List.nodup_nil, (fun p hp => by cases hp), fun c hc => hc.elim, fun h => h, (fun ks e => by cases e), #[], 0, heap_alloc_new w _, rfl, fun i p hp => by simp at hp, fun i j p q e e' g hp => by simp at hp, fun i e he => by simp at he, rfl⟩
theorem GrpAt.idx (h : GrpAt n enc G ho w b S) {es : Array MapEntry} {clock : Nat} (hb : w.heap[b]? = some (.map es clock)) {i : Nat} {e : MapEntry} (hi : es[i]? = some e) : ∃ p, G[i]? = some p ∧ e.key = spotV p.1 := by
  obtain ⟨es', clock', t1, t2, t3, _⟩ := h.top
  rw [hb] at t1
  cases t1
  have hl := (Array.getElem?_eq_some_iff.1 hi).1
  rw [t2] at hl
  obtain ⟨e', a1, a2, _⟩ := t3 i G[i] (List.getElem?_eq_getElem hl)
  rw [hi] at a1
  cases a1
  exact ⟨_, List.getElem?_eq_getElem hl, a2⟩
theorem GrpAt.one (h : GrpAt n enc G ho w b S) {es : Array MapEntry} {clock : Nat} (hb : w.heap[b]? = some (.map es clock)) {i j : Nat} {e e' : MapEntry} (hi : es[i]? = some e) (hj : es[j]? = some e') (hk : e.key = e'.key) : i = j := by
  obtain ⟨p, p1, p2⟩ := h.idx hb hi
  obtain ⟨q, q1, q2⟩ := h.idx hb hj
  rw [p2, q2] at hk
  have hk := spotV_inj hk
  obtain ⟨h1, e1⟩ := List.getElem?_eq_some_iff.1 p1
  obtain ⟨h2, e2⟩ := List.getElem?_eq_some_iff.1 q1
  exact (List.getElem_inj (h₀ := by simpa using h1) (h₁ := by simpa using h2) h.nd).1 (by simp [e1, e2, hk])
theorem GrpAt.at (h : GrpAt n enc G none w b S) {k : Sp} {v : Value} (hv : AtKey w b k v) : RowIn w n enc v (gGet G k) ∧ ∀ g, gblk v = some g → S g := by
  obtain ⟨es, clock, t1, t2, t3, t4⟩ := id h.top
  obtain ⟨es', clock', v1, v2⟩ := hv
  rw [t1] at v1
  cases v1
  rcases v2 with ⟨i, e, e1, e2, rfl⟩ | ⟨e1, rfl⟩
  · obtain ⟨p, p1, p2⟩ := h.idx t1 e1
    obtain ⟨e', a1, a2, a4⟩ := t3 i p p1
    rw [e1] at a1
    cases a1
    rw [a2] at e2
    have hk := spotV_inj e2
    have hg := gGet_at h.nd p1
    rw [hk] at hg
    rw [hg]
    exact a4 fun ks e => by cases e
  · have hno : gHas G k = false := by
      unfold gHas
      rw [List.any_eq_false]
      intro p hp hpk
      obtain ⟨i, hi⟩ := List.getElem?_of_mem hp
      obtain ⟨e', a1, a2, _⟩ := t3 i p hi
      exact e1 e' (Array.mem_toList_iff.2 (Array.mem_of_getElem? a1)) (by rw [a2, of_decide_eq_true hpk])
    rw [gGet_none hno]
    exact ⟨RowIn.nil _ _ _, fun g hg => by simp [gblk] at hg⟩
theorem EntAt.atKey {k : Sp} {i : Nat} {v : Value} (h : EntAt w b k i v) : AtKey w b k v := by
  obtain ⟨es, clock, h1, e, h2, h3, h5⟩ := h
  exact ⟨es, clock, h1, .inl ⟨i, e, h2, h3, h5.symm⟩⟩
theorem GrpAt.out (h : GrpAt n enc G none w b S) {k : Sp} {i0 : Nat} {v : Value} (hv : EntAt w b k i0 v) : GrpAt n enc G (some k) w b (fun c => S c ∧ gblk v ≠ some c) := by
  obtain ⟨es, clock, t1, t2, t3, t4, t5, t6⟩ := id h.top
  obtain ⟨es', clock', v1, e0, v2, v3, v5⟩ := hv
  rw [t1] at v1
  cases v1
  obtain ⟨p0, q1, q2⟩ := h.idx t1 v2
  have hk0 : p0.1 = k := spotV_inj (q2.symm.trans v3)
  refine ⟨h.nd, h.ok, fun c hc => h.lt c hc.1, fun hc => h.nb hc.1, fun ks e => ?_, es, clock, t1, t2, fun i p hp => ?_, fun i j p q e e' g hp hq _ _ => t4 i j p q e e' g hp hq (fun ks e => by cases e) (fun ks e => by cases e), t5, t6⟩
  · cases e
    exact List.any_eq_true.2 ⟨p0, List.mem_of_getElem? q1, decide_eq_true hk0⟩
  · obtain ⟨e, a1, a2, a4⟩ := t3 i p hp
    refine ⟨e, a1, a2, fun hi => ?_⟩
    have a4 := a4 fun ks e => by cases e
    refine ⟨a4.1, fun g hg => ⟨a4.2 g hg, fun hvg => ?_⟩⟩
    rw [← v5] at hvg
    have := t4 i i0 p p0 e e0 g hp q1 (fun ks e => by cases e) (fun ks e => by cases e) a1 v2 hg hvg
    subst this
    rw [hp] at q1
    cases q1
    exact hi k rfl hk0
theorem GrpAt.into {k : Sp} {i0 : Nat} (h : GrpAt n enc G (some k) w b S) {v : Value} (hv : EntAt w b k i0 v) {l : List α} (hr : RowIn w n enc v l) (hS : ∀ g, gblk v = some g → ¬ S g ∧ g ≠ b ∧ g < w.heap.size) :
    GrpAt n enc (gPut G k l) none w b (fun c => S c ∨ gblk v = some c) := by
  obtain ⟨es, clock, t1, t2, t3, t4, t5, t6⟩ := id h.top
  obtain ⟨es', clock', v1, e0, v2, v3, v5⟩ := hv
  rw [t1] at v1
  cases v1
  have hhas := h.has _ rfl
  have hG : gPut G k l = G.map (fun p => if p.1 = k then (k, l) else p) := by rw [gPut, hhas, if_pos rfl]
  have hmem : ∀ (i : Nat) p, (gPut G k l)[i]? = some p → ∃ q, G[i]? = some q ∧ p.1 = q.1 ∧ (q.1 = k → p = (k, l)) ∧ (q.1 ≠ k → p = q) := fun i p hp => by
    rw [hG, List.getElem?_map] at hp
    obtain ⟨q, hq, rfl⟩ := Option.map_eq_some_iff.1 hp
    refine ⟨q, hq, ?_, fun e => by rw [if_pos e], fun e => by rw [if_neg e]⟩
    split
    · rename_i e; exact e.symm
    · rfl
  have hat : ∀ (i : Nat) e, es[i]? = some e → e.key = spotV k → e.val = v := fun i e he hk => by
    have := h.one t1 he v2 (hk.trans v3.symm)
    subst this
    rw [he] at v2
    cases v2
    exact v5
  refine ⟨gPut_nodup h.nd _ _, fun p hp => ?_, fun c hc => hc.elim (h.lt c) fun e => (hS c e).2.2, fun hc => hc.elim h.nb fun e => (hS b e).2.1 rfl, (fun ks e => by cases e), es, clock, t1, by rw [hG, List.length_map, t2], fun i p hp => ?_, fun i j p q e e' g hp hq _ _ he he' hg hg' => ?_, t5, t6⟩
  · obtain ⟨i, hi⟩ := List.getElem?_of_mem hp
    obtain ⟨q, q1, q2, _⟩ := hmem i p hi
    rw [q2]
    exact h.ok q (List.mem_of_getElem? q1)
  · obtain ⟨q, q1, q2, q3, q4⟩ := hmem i p hp
    obtain ⟨e, a1, a2, a4⟩ := t3 i q q1
    refine ⟨e, a1, by rw [q2]; exact a2, fun _ => ?_⟩
    by_cases hk : q.1 = k
    · have := hat i e a1 (by rw [a2, hk])
      rw [this, q3 hk]
      exact ⟨hr, fun g hg => .inr hg⟩
    · obtain ⟨b1, b2⟩ := a4 fun ks e => by cases e; exact hk
      rw [q4 hk]
      exact ⟨b1, fun g hg => .inl (b2 g hg)⟩
  · obtain ⟨p', p1, p2, _⟩ := hmem i p hp
    obtain ⟨q', q1, q2, _⟩ := hmem j q hq
    obtain ⟨e1, a1, a2, a4⟩ := t3 i p' p1
    obtain ⟨e2, c1, c2, c4⟩ := t3 j q' q1
    rw [he] at a1
    rw [he'] at c1
    cases a1
    cases c1
    by_cases hk : p'.1 = k
    · by_cases hk' : q'.1 = k
      · exact h.one t1 he he' (by rw [a2, c2, hk, hk'])
      · have := hat i e he (by rw [a2, hk])
        rw [this] at hg
        exact absurd ((c4 fun ks e => by cases e; exact hk').2 g hg') (hS g hg).1
    · by_cases hk' : q'.1 = k
      · have := hat j e' he' (by rw [c2, hk'])
        rw [this] at hg'
        exact absurd ((a4 fun ks e => by cases e; exact hk).2 g hg) (hS g hg').1
      · exact t4 i j p' q' e e' g p1 q1 (fun ks e => by cases e; exact hk) (fun ks e => by cases e; exact hk') he he' hg hg'
end
end
theorem spot_law : WideMaps.KeyLaw P0 spotT := deep_law (m := 2) (by decide) (by kernel_rfl) (by kernel_rfl) (by kernel_rfl)
theorem spot_key {k : Sp} (h : SpOk k) : ∃ l, keyOf P0 spotT (spotV k) = some l := by
  obtain ⟨a, b, c⟩ := k
  obtain ⟨h1, h2, h3⟩ := h
  have w1 := int_wf h1
  have w2 := int_wf h2
  have w3 := int_wf h3
  have hu := Go.Proofs.Try.underlying77
  have hi := Go.Proofs.Try.underlying3
  have e1 : Go.Proofs.Try.prog.keyType 77 = true := by kernel_rfl
  have e0 : Go.Proofs.Try.prog.types.size = 161 := by kernel_rfl
  obtain ⟨D, e2⟩ : ∃ D, Go.Proofs.Try.prog.types.size + 1 = D + 1 + 1 := ⟨Go.Proofs.Try.prog.types.size - 1, by omega⟩
  have e3 : Go.Proofs.Try.prog.cellsOf 77 = 3 := by kernel_rfl
  have e4 : Go.Proofs.Try.prog.cellsOf 3 = 1 := by kernel_rfl
  have one : ∀ v : Int, (Lit.int .i64 v).wf = true → Go.Proofs.Try.prog.keyLits (D + 1) 3 [.int .i64 v] = some [.int .i64 v] := fun v hv => by
    unfold Program.keyLits
    rw [hi]
    simp [hv]
  have hf : (spotV (a, b, c)).formed Go.Proofs.Try.prog 77 = true := by
    simp only [spotV, Value.formed, hu, e3]
    rfl
  have hk : Go.Proofs.Try.prog.keyLits (Go.Proofs.Try.prog.types.size + 1) 77 (spotV (a, b, c)).cells.toList = some [.int .i64 a, .int .i64 b, .int .i64 c] := by
    rw [e2]
    unfold Program.keyLits
    rw [hu]
    dsimp only
    rw [if_pos ⟨by rw [e3]; rfl, by decide +kernel⟩]
    simp only [spotV, Value.cells, e4, List.mapM_cons, List.mapM_nil, List.drop_zero, List.drop_succ_cons, List.take_succ_cons, List.take_zero, one a w1, one b w2, one c w3]
    rfl
  show ∃ l, keyOf Go.Proofs.Try.prog 77 (spotV (a, b, c)) = some l
  unfold keyOf
  rw [hu]
  simp only [e1, hf, Bool.and_self, if_true, hk]
  exact ⟨_, rfl⟩
section
variable {α : Type} {n : Nat} {enc : α → List Value} {G : List (Sp × List α)} {ho : Option Sp} {w : World} {b : Nat} {S : Nat → Prop}
theorem GrpAt.keys (h : GrpAt n enc G ho w b S) {es : Array MapEntry} {clock : Nat} (hb : w.heap[b]? = some (.map es clock)) : ∀ e ∈ es.toList, ∃ l, keyOf P0 spotT e.key = some l := by
  intro e he
  obtain ⟨i, hi, e1⟩ := List.getElem_of_mem he
  obtain ⟨p, p1, p2⟩ := h.idx hb (i := i) (e := e) (by rw [Array.getElem?_eq_getElem (by simpa using hi)]; simpa using e1)
  rw [p2]
  exact spot_key (h.ok _ (List.mem_of_getElem? p1))
theorem GrpAt.look (h : GrpAt n enc G ho w b S) {t lt : TypeId} (ht : P0.underlying t = some (.map spotT lt)) (hz : ∀ w, (zeroValue lt).run P0 w = .ok (.slice none 0 0) w) {k : Sp} (hk : SpOk k) :
    ∃ v, (Instr.lookup t (.map (some b)) (spotV k) false).run P0 w = .ok v w ∧ AtKey w b k v := by
  obtain ⟨es, clock, t1, t2, t3, t4⟩ := id h.top
  obtain ⟨kl, hkey⟩ := spot_key hk
  rcases spot_law.find w hkey es.toList (h.keys t1) with ⟨h1, h2⟩ | ⟨j, e0, h1, h2, h3⟩
  · exact ⟨.slice none 0 0, by simp [Instr.lookup, run_underlying ht, MapKept.run_getObj_map t1, spot_law.check w _ hkey, h1, hz, Result.andThen], es, clock, t1, .inr ⟨h2, rfl⟩⟩
  · exact ⟨e0.val, by simp [Instr.lookup, run_underlying ht, MapKept.run_getObj_map t1, spot_law.check w _ hkey, h1, Result.andThen], es, clock, t1, .inl ⟨j, e0, by simpa using h2, h3, rfl⟩⟩
theorem setBlock_gro (w : World) (b : Nat) (o : _root_.Go.Obj) : w.grownBy (setBlock w b o) (some b) := ⟨rfl, rfl, rfl, by simp [setBlock], fun c _ hne => by
  have : ¬ b = c := fun e => hne (by rw [e])
  simp [setBlock, Array.getElem?_setIfInBounds, this]⟩
theorem setBlock_at {w : World} {b : Nat} {o o' : _root_.Go.Obj} (h : w.heap[b]? = some o) : (setBlock w b o').heap[b]? = some o' := by simp [setBlock, Array.getElem?_setIfInBounds, (Array.getElem?_eq_some_iff.1 h).1]
theorem setBlock_ne {w : World} {b g : Nat} {o' : _root_.Go.Obj} (h : g ≠ b) : (setBlock w b o').heap[g]? = w.heap[g]? := by simp [setBlock, Array.getElem?_setIfInBounds, Ne.symm h]
theorem setBlock_id {w : World} {b : Nat} {o : _root_.Go.Obj} (h : w.heap[b]? = some o) (g : Nat) : (setBlock w b o).heap[g]? = w.heap[g]? := by
  by_cases e : g = b
  · subst e; rw [setBlock_at h, h]
  · exact setBlock_ne e
theorem GrpAt.entry (h : GrpAt n enc G none w b S) {t lt : TypeId} (ht : P0.underlying t = some (.map spotT lt)) (hz : ∀ w, (zeroValue lt).run P0 w = .ok (.slice none 0 0) w) {k : Sp} (hk : SpOk k) :
    ∃ v w1, (Instr.mapEntry t (.map (some b)) (spotV k)).run P0 w = .ok (.tuple #[v, .int .i64 (gIdx (gTch G k) k : Nat)]) w1 ∧ GrpAt n enc (gTch G k) none w1 b S ∧ EntAt w1 b k (gIdx (gTch G k) k) v ∧ w.grownBy w1 (some b) := by
  obtain ⟨es, clock, t1, t2, t3, t4, t5, t6⟩ := id h.top
  obtain ⟨kl, hkey⟩ := spot_key hk
  rcases spot_law.find w hkey es.toList (h.keys t1) with ⟨h1, h2⟩ | ⟨j, e0, h1, h2, h3⟩
  · have hno : gHas G k = false := by
      unfold gHas
      rw [List.any_eq_false]
      intro p hp hpk
      obtain ⟨i, hi⟩ := List.getElem?_of_mem hp
      obtain ⟨e', a1, a2, _⟩ := t3 i p hi
      exact h2 e' (Array.mem_toList_iff.2 (Array.mem_of_getElem? a1)) (by rw [a2, of_decide_eq_true hpk])
    have hG : gTch G k = G ++ [(k, [])] := by rw [gTch, hno, if_neg (by decide)]
    have hgt : ∀ (i : Nat) p, (gTch G k)[i]? = some p → (G[i]? = some p ∧ i < es.size) ∨ (p = (k, []) ∧ i = es.size) := fun i p hp => by
      rw [hG, List.getElem?_append] at hp
      split at hp
      · exact .inl ⟨hp, by omega⟩
      · have := (List.getElem?_eq_some_iff.1 hp).1
        simp at this
        have e : i = G.length := by omega
        subst e
        rw [Nat.sub_self] at hp
        cases hp
        exact .inr ⟨rfl, t2.symm⟩
    have hes : ∀ (i : Nat) e, (es.push { key := spotV k, val := .slice none 0 0, born := clock })[i]? = some e → (es[i]? = some e ∧ i < es.size) ∨ (e = { key := spotV k, val := .slice none 0 0, born := clock } ∧ i = es.size) := fun i e he => by
      rw [Array.getElem?_push] at he
      split at he
      · cases he; exact .inr ⟨rfl, by assumption⟩
      · exact .inl ⟨he, (Array.getElem?_eq_some_iff.1 he).1⟩
    have hix : gIdx (gTch G k) k = es.size := by
      rw [hG, gIdx, List.findIdx_append]
      have : G.findIdx (fun p => decide (p.1 = k)) = G.length := by
        rw [List.findIdx_eq_length]
        intro p hp
        simpa using List.any_eq_false.1 hno p hp
      rw [this, if_neg (Nat.lt_irrefl _), t2]
      simp
    refine ⟨.slice none 0 0, setBlock w b (.map (es.push { key := spotV k, val := .slice none 0 0, born := clock }) (clock + 1)),
      by simp [Instr.mapEntry, run_underlying ht, MapKept.run_getObj_map t1, spot_law.check w _ hkey, h1, hz, MapKept.run_setObj_map _ t1, Result.andThen, setBlock, goInt, hix, t6], ?_,
      ⟨_, _, setBlock_at t1, { key := spotV k, val := .slice none 0 0, born := clock }, by rw [hix]; simp, rfl, rfl⟩, setBlock_gro _ _ _⟩
    refine ⟨gTch_nodup h.nd k, fun p hp => ?_, fun c hc => by simpa [setBlock] using h.lt c hc, h.nb, (fun ks e => by cases e), _, _, setBlock_at t1, by rw [hG]; simp [t2], fun i p hp => ?_, fun i j p q e e' g hp hq _ _ he he' hg hg' => ?_, fun i e he => ?_, by rw [t6]; simp⟩
    · rw [hG] at hp
      rcases List.mem_append.1 hp with hp | hp
      · exact h.ok p hp
      · rw [List.mem_singleton.1 hp]
        exact hk
    · rcases hgt i p hp with ⟨h3, h4⟩ | ⟨rfl, rfl⟩
      · obtain ⟨e, a1, a2, a4⟩ := t3 i p h3
        refine ⟨e, by rw [Array.getElem?_push, if_neg (by omega)]; exact a1, a2, fun hi => ?_⟩
        obtain ⟨b1, b2⟩ := a4 hi
        exact ⟨b1.same fun g hg => setBlock_ne fun e => h.nb (e ▸ b2 g hg), b2⟩
      · exact ⟨{ key := spotV k, val := .slice none 0 0, born := clock }, by simp, rfl, fun _ => ⟨RowIn.nil _ _ _, fun g hg => by simp [gblk] at hg⟩⟩
    · rcases hes i e he with ⟨he, hi⟩ | ⟨rfl, rfl⟩
      · rcases hes j e' he' with ⟨he', hj⟩ | ⟨rfl, rfl⟩
        · obtain ⟨p', p1, _⟩ := h.idx t1 he
          obtain ⟨q', q1, _⟩ := h.idx t1 he'
          exact t4 i j p' q' e e' g p1 q1 (fun ks e => by cases e) (fun ks e => by cases e) he he' hg hg'
        · simp [gblk] at hg'
      · simp [gblk] at hg
    · rcases hes i e he with ⟨he, _⟩ | ⟨rfl, rfl⟩
      · exact t5 i e he
      · exact t6
  · have h2 : es[j]? = some e0 := by simpa using h2
    have hsame : (es.modify j fun e => { e with key := spotV k }) = es := by
      apply Array.ext
      · simp
      · intro i h3' h4
        rw [Array.getElem_modify]
        split
        · rename_i e
          subst e
          have : es[j] = e0 := by rw [Array.getElem?_eq_getElem h4] at h2; exact Option.some.inj h2
          rw [this, ← h3]
        · rfl
    have hhas : gHas G k = true := by
      obtain ⟨p, p1, p2⟩ := h.idx t1 h2
      exact List.any_eq_true.2 ⟨p, List.mem_of_getElem? p1, decide_eq_true (spotV_inj (p2.symm.trans h3))⟩
    have hG : gTch G k = G := by rw [gTch, hhas, if_pos rfl]
    have hix : gIdx (gTch G k) k = j := by
      obtain ⟨p, p1, p2⟩ := h.idx t1 h2
      rw [hG, ← spotV_inj (p2.symm.trans h3)]
      exact gIdx_at h.nd p1
    have hbo : e0.born = j := t5 j e0 h2
    refine ⟨e0.val, setBlock w b (.map es clock), ?_, by rw [hG]; exact h.keep fun c _ => setBlock_id t1 c, ⟨es, clock, setBlock_at t1, e0, by rw [hix]; exact h2, h3, rfl⟩, setBlock_gro _ _ _⟩
    rw [hix]
    simp [Instr.mapEntry, run_underlying ht, MapKept.run_getObj_map t1, spot_law.check w _ hkey, h1, h2, h3, spot_law.stays w hkey, hsame, MapKept.run_setObj_map _ t1, Result.andThen, setBlock, goInt, hbo]
theorem GrpAt.ent {k : Sp} (h : GrpAt n enc G (some k) w b S) : ∃ v, EntAt w b k (gIdx G k) v := by
  obtain ⟨es, clock, t1, t2, t3, _⟩ := id h.top
  obtain ⟨p, hp, hk⟩ := List.any_eq_true.1 (h.has _ rfl)
  obtain ⟨i, hi⟩ := List.getElem?_of_mem hp
  obtain ⟨e, a1, a2, _⟩ := t3 i p hi
  have hk := of_decide_eq_true hk
  have := gIdx_at h.nd hi
  rw [hk] at this
  exact ⟨e.val, es, clock, t1, e, by rw [this]; exact a1, by rw [a2, hk], rfl⟩
theorem GrpAt.store {k : Sp} (h : GrpAt n enc G (some k) w b S) (t : TypeId) (v : Value) :
    ∃ w1, (Instr.entryStore t (.map (some b)) (.int .i64 (gIdx G k : Nat)) v).run P0 w = .ok () w1 ∧ GrpAt n enc G (some k) w1 b S ∧ EntAt w1 b k (gIdx G k) v ∧ w.grownBy w1 (some b) := by
  obtain ⟨es, clock, t1, t2, t3, t4, t5, t6⟩ := id h.top
  obtain ⟨v0, es', clock', v1, e0, v2, v3, _⟩ := h.ent
  rw [t1] at v1
  cases v1
  generalize gIdx G k = i0 at v2 ⊢
  have hi0 := (Array.getElem?_eq_some_iff.1 v2).1
  have hfind : es.findIdx? (fun e => (e.born : Int) == (i0 : Int)) = some i0 := by
    rw [Array.findIdx?_eq_some_iff_getElem]
    refine ⟨hi0, ?_, fun j hj hb => ?_⟩
    · have := t5 i0 _ (Array.getElem?_eq_getElem hi0)
      simp [this]
    · have := t5 j _ (Array.getElem?_eq_getElem (show j < es.size by omega))
      simp [this] at hb
      omega
  have hmod : ∀ i, (es.modify i0 fun e => { e with val := v })[i]? = if i = i0 then (es[i]?).map (fun e => { e with val := v }) else es[i]? := fun i => by
    rw [Array.getElem?_modify]
    by_cases hij : i = i0
    · subst hij; simp
    · simp [hij, Ne.symm hij]
  have hback : ∀ (i : Nat) e, (es.modify i0 fun e => { e with val := v })[i]? = some e → ∃ e', es[i]? = some e' ∧ e'.key = e.key ∧ e'.born = e.born ∧ (i ≠ i0 → e' = e) := fun i e he => by
    rw [hmod] at he
    split at he
    · obtain ⟨e', h1, rfl⟩ := Option.map_eq_some_iff.1 he
      rename_i e2
      exact ⟨e', h1, rfl, rfl, fun hn => absurd e2 hn⟩
    · exact ⟨e, he, rfl, rfl, fun _ => rfl⟩
  have hout : ∀ (i : Nat) p e, G[i]? = some p → es[i]? = some e → Inn (some k) p.1 → i ≠ i0 := fun i p e hp he hi hii => by
    subst hii
    rw [v2] at he
    cases he
    obtain ⟨e', a1, a2, _⟩ := t3 i p hp
    rw [v2] at a1
    cases a1
    exact hi k rfl (spotV_inj (a2.symm.trans v3))
  refine ⟨setBlock w b (.map (es.modify i0 fun e => { e with val := v }) clock), by simp [Instr.entryStore, MapKept.run_getObj_map t1, asInt, asIntOf, hfind, MapKept.run_setObj_map _ t1, Result.andThen, setBlock], ?_,
    ⟨_, _, setBlock_at t1, { e0 with val := v }, by rw [hmod, if_pos rfl, v2]; rfl, v3, rfl⟩, setBlock_gro _ _ _⟩
  refine ⟨h.nd, h.ok, fun c hc => by simpa [setBlock] using h.lt c hc, h.nb, h.has, _, _, setBlock_at t1, by simp [t2], fun i p hp => ?_, fun i j p q e e' g hp hq hi hj he he' hg hg' => ?_, fun i e he => ?_, by simp [t6]⟩
  · obtain ⟨e, a1, a2, a4⟩ := t3 i p hp
    by_cases hii : i = i0
    · subst hii
      refine ⟨{ e with val := v }, by rw [hmod, if_pos rfl, a1]; rfl, a2, fun hi => absurd rfl (hout i p e hp a1 hi)⟩
    · refine ⟨e, by rw [hmod, if_neg hii]; exact a1, a2, fun hi => ?_⟩
      obtain ⟨b1, b2⟩ := a4 hi
      exact ⟨b1.same fun g hg => setBlock_ne fun e => h.nb (e ▸ b2 g hg), b2⟩
  · obtain ⟨e1, c1, _, _, c4⟩ := hback i e he
    obtain ⟨e2, d1, _, _, d4⟩ := hback j e' he'
    have := c4 (hout i p e1 hp c1 hi)
    have := d4 (hout j q e2 hq d1 hj)
    subst e1 e2
    exact t4 i j p q e e' g hp hq hi hj c1 d1 hg hg'
  · obtain ⟨e', h1, _, h3, _⟩ := hback i e he
    rw [← h3]
    exact t5 i e' h1
end
theorem bits_of (S : Nat → Prop) : ∀ N : Nat, (∀ c, S c → c < N) → ∃ C : Nat, ∀ c, C.testBit c = true ↔ S c
  | 0, h => ⟨0, fun c => by simp; exact fun hc => absurd (h c hc) (Nat.not_lt_zero _)⟩
  | N + 1, h => by
    obtain ⟨C, hC⟩ := bits_of (fun c => S c ∧ c < N) N fun c hc => hc.2
    by_cases hN : S N
    · refine ⟨C ||| 2 ^ N, fun c => ?_⟩
      rw [Nat.testBit_or, Bool.or_eq_true, hC, Nat.testBit_two_pow, decide_eq_true_eq]
      constructor
      · rintro (k | rfl)
        · exact k.1
        · exact hN
      · intro k
        have := h c k
        by_cases e : N = c
        · exact .inr e
        · exact .inl ⟨k, by omega⟩
    · refine ⟨C, fun c => ?_⟩
      rw [hC]
      constructor
      · exact And.left
      · intro k
        have := h c k
        have : c ≠ N := fun e => hN (e ▸ k)
        exact ⟨k, by omega⟩
theorem bits_eq {S : Nat → Prop} {C : Nat} (h : ∀ c, C.testBit c = true ↔ S c) : (fun c => C.testBit c = true) = S := funext fun c => propext (h c)
abbrev Rw := Int × Int × Int
def rwC (x : Rw) : List Value := [.int .i64 x.1, .int .i64 x.2.1, .int .i64 x.2.2]
def inC (x : Int) : List Value := [.int .i64 x]
inductive GD where
  | r (G : List (Sp × List Rw)) (ho : Option Sp)
  | p (G : List (Sp × List Int)) (ho : Option Sp)
def GD.holds : GD → World → Nat → (Nat → Prop) → Prop
  | .r G ho, w, b, S => GrpAt 3 rwC G ho w b S
  | .p G ho, w, b, S => GrpAt 1 inC G ho w b S
inductive OK where
  | grw | gpe | void
  deriving DecidableEq
def OK.den : OK → Type
  | .grw => List (Sp × List Rw) × Option Sp
  | .gpe => List (Sp × List Int) × Option Sp
  | .void => Nat
def OK.isNil : (k : OK) → k.den → Bool
  | .grw, _ => false
  | .gpe, _ => false
  | .void, _ => true
def OK.holds : (k : OK) → k.den → World → Nat → (Nat → Prop) → Prop
  | .grw, d, w, b, S => GrpAt 3 rwC d.1 d.2 w b S
  | .gpe, d, w, b, S => GrpAt 1 inC d.1 d.2 w b S
  | .void, _, _, _, _ => False
def OK.val : OK → Option Nat → Value
  | .grw, o => .map o
  | .gpe, o => .map o
  | _, o => .pointer (o.map fun b => ⟨b, 0, none⟩)
def OK.isPtr : OK → Bool
  | .grw => false
  | .gpe => false
  | _ => true
theorem OK.keep {k : OK} {d : k.den} {w w' : World} {b : Nat} {S : Nat → Prop} (h : k.holds d w b S) (hs : ∀ c, c = b ∨ S c → w'.heap[c]? = w.heap[c]?) : k.holds d w' b S := by
  cases k
  · exact GrpAt.keep h hs
  · exact GrpAt.keep h hs
  · exact h.elim
theorem OK.lt {k : OK} {d : k.den} {w : World} {b : Nat} {S : Nat → Prop} (h : k.holds d w b S) {c : Nat} (hc : c = b ∨ S c) : c < w.heap.size := by
  cases k
  · rcases hc with rfl | hc
    · exact GrpAt.blt h
    · exact GrpAt.lt h c hc
  · rcases hc with rfl | hc
    · exact GrpAt.blt h
    · exact GrpAt.lt h c hc
  · exact h.elim
theorem OK.val_cells (k : OK) (o : Option Nat) : (k.val o).cells = #[k.val o] := by cases k <;> rfl
theorem OK.val_one (k : OK) (o : Option Nat) : (k.val o).oneCell' = true := by cases k <;> rfl
theorem OK.val_ptr {k : OK} (h : k.isPtr = true) (o : Option Nat) : k.val o = .pointer (o.map fun b => ⟨b, 0, none⟩) := by cases k <;> first | rfl | cases h
def OK.asM : (k : OK) → k.den → Option (List (Int × Int)) := fun _ _ => none
def OK.ofM : (k : OK) → List (Int × Int) → Option k.den := fun _ _ => none
theorem OK.asM_ok {k : OK} {d : k.den} {l : List (Int × Int)} (h : k.asM d = some l) : k.isNil d = false ∧ (∀ o, k.val o = .map o) ∧ ∀ w b S, k.holds d w b S → MapAt l w b ∧ ∀ c, ¬ S c := by cases h
theorem OK.ofM_ok {k : OK} {d : k.den} {l : List (Int × Int)} (h : k.ofM l = some d) : k.isNil d = false ∧ (∀ o, k.val o = .map o) ∧ ∀ w b S, MapAt l w b → (∀ c, ¬ S c) → k.holds d w b S := by cases h
def OK.asG : (k : OK) → k.den → Option GD
  | .grw, d => some (.r d.1 d.2)
  | .gpe, d => some (.p d.1 d.2)
  | _, _ => none
def OK.ofG : (k : OK) → GD → Option k.den
  | .grw, .r G ho => some (G, ho)
  | .gpe, .p G ho => some (G, ho)
  | _, _ => none
theorem OK.asG_ok {k : OK} {d : k.den} {g : GD} (h : k.asG d = some g) : k.isNil d = false ∧ (∀ o, k.val o = .map o) ∧ ∀ w b S, k.holds d w b S → g.holds w b S := by
  cases k <;> cases h <;> exact ⟨rfl, fun _ => rfl, fun _ _ _ h => h⟩
theorem OK.ofG_ok {k : OK} {d : k.den} {g : GD} (h : k.ofG g = some d) : k.isNil d = false ∧ (∀ o, k.val o = .map o) ∧ ∀ w b S, g.holds w b S → k.holds d w b S := by
  cases k <;> cases g <;> cases h <;> exact ⟨rfl, fun _ => rfl, fun _ _ _ h => h⟩
def byteT : TypeId := 0
end Go.Vm
