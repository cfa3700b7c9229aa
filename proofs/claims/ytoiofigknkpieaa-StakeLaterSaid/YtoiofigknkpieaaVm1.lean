/-
  The engine, part 1: abstract values, how they stand for the model's values, and how that is kept while memory changes. No program in sight.
-/
import Derived.WalkKit
import Derived.Orders
namespace Go.Vm

/-- Types of plain data. -/
inductive Ty where
  | bool | str | int (k : IntKind) | slice (t : Ty) | pair (a b : Ty)
  deriving DecidableEq

/-- What a datum of a type is. -/
def Ty.den : Ty → Type
  | .bool => Bool
  | .str => List UInt8
  | .int _ => Int
  | .slice t => List t.den
  | .pair a b => a.den × b.den

/-- How many cells a datum takes. -/
def Ty.cells : Ty → Nat
  | .bool | .str | .int _ | .slice _ => 1
  | .pair a b => a.cells + b.cells

theorem Ty.cells_pos (t : Ty) : 0 < t.cells := by
  induction t with
  | pair a b iha ihb => simp only [Ty.cells]; omega
  | _ => simp [Ty.cells]

/-- Kinds of lists: 'full': no room behind; 'part': room, perhaps; 'tmp': nobody writes them while this call lasts. -/
inductive LK where
  | full | part | tmp
  deriving DecidableEq

/-- Abstract values. 'bq p': a truth of which 'p' is known. 'list': a slice (nil, if empty, perhaps) whose cells nobody writes any more. 'olist', 'optr': a list, a variable, that are handed over. 'slc': a slice of an array of the store. 'fptr': a pointer to cells that nobody writes. -/
inductive V where
  | any
  | kb (b : Bool)
  | bool (b : Bool)
  | bq (p : Bool → Prop)
  | int (k : IntKind) (n : Int)
  | str (l : List UInt8)
  | nilp | nils | nilm | nilf | nili
  | list (kd : LK) (t : Ty) (l : List t.den)
  | olist (t : Ty) (l : List t.den)
  | optr (cells : List V)
  | slc (id ep : Nat) (rng : Option (Nat × Nat))
  | fptr (cells : List V)
  | ptr (id off : Nat)
  | eptr (id ep i off : Nat)
  | fn (f : Fn) (first cap : List V)
  | agg (cells : List V)
  | tuple (vs : List V)
  | iface (t : TypeId) (v : V)

instance : Inhabited V := ⟨.any⟩

/-- Things of the store: a variable of cells; an array of data that grows. -/
inductive Obj where
  | box (cells : List V)
  | arr (ep : Nat) (t : Ty) (l : List t.den)

abbrev Store := List (Nat × Obj)

def Store.get : Store → Nat → Option Obj
  | [], _ => none
  | (i, o) :: r, k => if i = k then some o else Store.get r k

/-- A store's other half: which block each thing lies in: block, first cell, room. -/
abbrev Mu := Nat → Option (Nat × Nat × Nat)

/-- Blocks of others: the callers' (out), and those that are hidden (hid). -/
structure Fr where
  out : Nat → Prop
  hid : Nat → Prop

instance : CoeFun Fr fun _ => Nat → Prop := ⟨Fr.out⟩

def Fr.any (F : Fr) (b : Nat) : Prop := F.out b ∨ F.hid b

structure Ctx where
  w : World
  σ : Store
  μ : Mu
  F : Fr

/-- A block that is there, and is none of the store's. -/
def Ctx.T0 (X : Ctx) (b : Nat) : Prop := b < X.w.heap.size ∧ ∀ id o p, X.σ.get id = some o → X.μ id = some p → p.1 ≠ b

/-- A block that nobody writes while this call lasts: it is there, none of the store's, and not hidden. -/
def Ctx.T (X : Ctx) (b : Nat) : Prop := X.T0 b ∧ ¬ X.F.hid b

/-- A block that nobody writes any more: none of the callers' either. -/
def Ctx.G (X : Ctx) (b : Nat) : Prop := X.T b ∧ ¬ X.F b

def Ctx.H (X : Ctx) (kd : LK) (b : Nat) : Prop := X.T b ∧ (kd ≠ .tmp → ¬ X.F b)

/-- The i-th of a list. -/
abbrev nth {α : Type} (l : List α) (i : Nat) : Option α := l[i]?

/-- A datum lies in these cells. -/
def RepC (w : World) (G : Nat → Prop) : (t : Ty) → t.den → List Value → Prop
  | .bool, b, cs => cs = [.bool b]
  | .str, l, cs => ∃ s : ByteArray, cs = [.string s] ∧ s.data.toList = l
  | .int k, n, cs => cs = [.int k n]
  | .pair a b, x, cs => ∃ c1 c2, cs = c1 ++ c2 ∧ RepC w G a x.1 c1 ∧ RepC w G b x.2 c2
  | .slice t, l, cs => ∃ A cap, cs = [.slice A (List.length l) cap] ∧ List.length l ≤ cap ∧
      (0 < List.length l → ∃ b o, A = some ⟨b, o, none⟩ ∧ G b ∧
        ∀ (i : Nat) (x : t.den), nth (α := t.den) l i = some x → ∃ row, RepC w G t x row ∧ ∀ (j : Nat) (u : Value), row[j]? = some u → w.cell? ⟨b, o + i * t.cells + j, none⟩ = some u)

/-- A slice that reads as a list: its first block of a kind of its own. -/
def RepS (w : World) (H G : Nat → Prop) (t : Ty) (l : List t.den) (A : Option Addr) (len cap : Nat) : Prop :=
  len = l.length ∧ len ≤ cap ∧ (0 < len → ∃ b o, A = some ⟨b, o, none⟩ ∧ H b ∧
    ∀ (i : Nat) (x : t.den), nth l i = some x → ∃ row, RepC w G t x row ∧ ∀ (j : Nat) (u : Value), row[j]? = some u → w.cell? ⟨b, o + i * t.cells + j, none⟩ = some u)

theorem RepC.toS {w : World} {G : Nat → Prop} {t : Ty} {l : List t.den} {A : Option Addr} {len cap : Nat} (h : RepC w G (.slice t) l [.slice A len cap]) : RepS w G G t l A len cap := by
  obtain ⟨A', cap', e, hl, hc⟩ := h
  simp only [List.cons.injEq, Value.slice.injEq, and_true] at e
  obtain ⟨rfl, rfl, rfl⟩ := e
  exact ⟨rfl, hl, hc⟩

theorem RepS.toC {w : World} {H G : Nat → Prop} {t : Ty} {l : List t.den} {A : Option Addr} {len cap : Nat} (h : RepS w H G t l A len cap) (hG : ∀ b, H b → G b) : RepC w G (.slice t) l [.slice A len cap] := by
  obtain ⟨rfl, hl, hc⟩ := h
  refine ⟨A, cap, rfl, hl, fun h0 => ?_⟩
  obtain ⟨b, o, e, hb, hr⟩ := hc h0
  exact ⟨b, o, e, hG b hb, hr⟩

theorem RepC.len {w : World} {G : Nat → Prop} : ∀ {t : Ty} {x : t.den} {cs : List Value}, RepC w G t x cs → cs.length = t.cells
  | .bool, _, _, h => by simp only [RepC] at h; subst h; rfl
  | .int _, _, _, h => by simp only [RepC] at h; subst h; rfl
  | .str, _, _, h => by obtain ⟨s, rfl, _⟩ := h; rfl
  | .slice _, _, _, h => by obtain ⟨A, cap, rfl, _⟩ := h; rfl
  | .pair _ _, _, _, h => by
    obtain ⟨c1, c2, rfl, h1, h2⟩ := h
    rw [List.length_append, h1.len, h2.len]; rfl

theorem cell_same {w w' : World} {b o : Nat} (h : w'.heap[b]? = w.heap[b]?) : w'.cell? ⟨b, o, none⟩ = w.cell? ⟨b, o, none⟩ := by
  simp [World.cell?, h]

theorem RepC.keep {w w' : World} {G G' : Nat → Prop} (hG : ∀ b, G b → G' b ∧ w'.heap[b]? = w.heap[b]?) :
    ∀ {t : Ty} {x : t.den} {cs : List Value}, RepC w G t x cs → RepC w' G' t x cs
  | .bool, _, _, h => h
  | .int _, _, _, h => h
  | .str, _, _, h => h
  | .pair _ _, _, _, h => by
    obtain ⟨c1, c2, e, h1, h2⟩ := h
    exact ⟨c1, c2, e, h1.keep hG, h2.keep hG⟩
  | .slice t, _, _, h => by
    obtain ⟨A, cap, e, hl, hc⟩ := h
    refine ⟨A, cap, e, hl, fun h0 => ?_⟩
    obtain ⟨b, o, eA, hg, hi⟩ := hc h0
    obtain ⟨hg', hh⟩ := hG b hg
    refine ⟨b, o, eA, hg', fun i x hx => ?_⟩
    obtain ⟨row, hr, hcell⟩ := hi i x hx
    exact ⟨row, hr.keep hG, fun j u hu => by rw [cell_same hh]; exact hcell j u hu⟩

theorem RepS.keep {w w' : World} {H G H' G' : Nat → Prop} (hG : ∀ b, G b → G' b ∧ w'.heap[b]? = w.heap[b]?) (hH : ∀ b, H b → H' b ∧ w'.heap[b]? = w.heap[b]?) {t : Ty} {l : List t.den} {A : Option Addr} {len cap : Nat}
    (h : RepS w H G t l A len cap) : RepS w' H' G' t l A len cap := by
  obtain ⟨h1, h2, hc⟩ := h
  refine ⟨h1, h2, fun h0 => ?_⟩
  obtain ⟨b, o, e, hb, hr⟩ := hc h0
  obtain ⟨hb', hh⟩ := hH b hb
  refine ⟨b, o, e, hb', fun i x hx => ?_⟩
  obtain ⟨row, r1, r2⟩ := hr i x hx
  exact ⟨row, r1.keep hG, fun j u hu => by rw [cell_same hh]; exact r2 j u hu⟩

/-- A header of an array: whole, or a part. -/
def Hdr (p : Option (Nat × Nat × Nat)) (t : Ty) (n : Nat) (rng : Option (Nat × Nat)) (A : Option Addr) (len cap : Nat) : Prop :=
  match p, rng with
  | none, none => len = 0 ∧ cap = 0 ∧ n = 0
  | none, some (off, m) => off = 0 ∧ m = 0 ∧ len = 0 ∧ cap = 0 ∧ n = 0
  | some (b, base, C), none => len = n ∧ cap = C ∧ n ≤ C ∧ (∃ a, A = some a ∧ (0 < C → a = ⟨b, base, none⟩))
  | some (b, base, C), some (off, m) => len = m ∧ off + m ≤ n ∧ n ≤ C ∧ cap = C - off ∧ (∃ a, A = some a ∧ (0 < C - off → a = ⟨b, base + off * t.cells, none⟩))

/-- An abstract value stands for a value. -/
inductive Rep (X : Ctx) : V → Value → Prop where
  | any {v} : Rep X .any v
  | kb {b} : Rep X (.kb b) (.bool b)
  | bool {b} : Rep X (.bool b) (.bool b)
  | bq {p b} : p b → Rep X (.bq p) (.bool b)
  | int {k n} : Rep X (.int k n) (.int k n)
  | str {l s} : s.data.toList = l → Rep X (.str l) (.string s)
  | nilp : Rep X .nilp (.pointer none)
  | nils : Rep X .nils (.slice none 0 0)
  | nilm : Rep X .nilm (.map none)
  | nilf : Rep X .nilf .nilFunc
  | nili : Rep X .nili .nilIface
  | list {kd t l A len cap} : RepS X.w (X.H kd) X.G t l A len cap → (kd = .full → cap = len) → Rep X (.list kd t l) (.slice A len cap)
  | slc {id ep rng A len cap ep' t l} : X.σ.get id = some (.arr ep' t l) → ep ≤ ep' → (ep = ep' → Hdr (X.μ id) t l.length rng A len cap) → Rep X (.slc id ep rng) (.slice A len cap)
  | fptr {cells b o} (f : Nat → Value) : (0 < cells.length → X.T b) → (∀ (j : Nat) c, cells[j]? = some c → X.w.cell? ⟨b, o + j, none⟩ = some (f j)) →
      (∀ (j : Nat) c, cells[j]? = some c → Rep X c (f j)) → Rep X (.fptr cells) (.pointer (some ⟨b, o, none⟩))
  | ptr {id off cells b base C} : X.σ.get id = some (.box cells) → X.μ id = some (b, base, C) → Rep X (.ptr id off) (.pointer (some ⟨b, base + off, none⟩))
  | eptr {id ep i off a ep' t l} : X.σ.get id = some (.arr ep' t l) → ep ≤ ep' → (ep = ep' → ∃ b base C, X.μ id = some (b, base, C) ∧ a = ⟨b, base + i * t.cells + off, none⟩) →
      Rep X (.eptr id ep i off) (.pointer (some a))
  | fn {f first cap} {vs ws : Array Value} : vs.size = first.length → ws.size = cap.length → (∀ (j : Nat) c u, first[j]? = some c → vs[j]? = some u → Rep X c u) →
      (∀ (j : Nat) c u, cap[j]? = some c → ws[j]? = some u → Rep X c u) → Rep X (.fn f first cap) (.func f vs ws)
  | agg {cells} {vs : Array Value} : vs.size = cells.length → (∀ (j : Nat) c u, cells[j]? = some c → vs[j]? = some u → Rep X c u) → Rep X (.agg cells) (.agg vs)
  | tuple {cells} {vs : Array Value} : vs.size = cells.length → (∀ (j : Nat) c u, cells[j]? = some c → vs[j]? = some u → Rep X c u) → Rep X (.tuple cells) (.tuple vs)
  | iface {t c u} : Rep X c u → Rep X (.iface t c) (.iface t u)

/-- Rows of values, one by one. -/
def RepL (X : Ctx) (cs : List V) (vs : List Value) : Prop := vs.length = cs.length ∧ ∀ (j : Nat) c u, cs[j]? = some c → vs[j]? = some u → Rep X c u

/-- A step of memory that keeps what abstract values stand for. -/
structure Evo (X X' : Ctx) : Prop where
  os : X'.w.os = X.w.os
  tape : X'.w.tape = X.w.tape
  output : X'.w.output = X.w.output
  size : X.w.heap.size ≤ X'.w.heap.size
  outer : X'.F = X.F
  still : ∀ b, X.T0 b → X'.T0 b ∧ X'.w.heap[b]? = X.w.heap[b]?
  box : ∀ id cells, X.σ.get id = some (.box cells) → (∃ cells', X'.σ.get id = some (.box cells')) ∧ X'.μ id = X.μ id
  arr : ∀ id ep t l, X.σ.get id = some (.arr ep t l) → ∃ ep' l', X'.σ.get id = some (.arr ep' t l') ∧ ep ≤ ep' ∧ (ep' = ep → X'.μ id = X.μ id ∧ l'.length = l.length)

theorem Evo.tmp {X X' : Ctx} (h : Evo X X') (b : Nat) (hb : X.T b) : X'.T b ∧ X'.w.heap[b]? = X.w.heap[b]? :=
  ⟨⟨(h.still b hb.1).1, by rw [h.outer]; exact hb.2⟩, (h.still b hb.1).2⟩
theorem Evo.good {X X' : Ctx} (h : Evo X X') (b : Nat) (hb : X.G b) : X'.G b ∧ X'.w.heap[b]? = X.w.heap[b]? :=
  ⟨⟨(h.tmp b hb.1).1, by rw [h.outer]; exact hb.2⟩, (h.tmp b hb.1).2⟩
theorem Evo.head {X X' : Ctx} (h : Evo X X') (kd : LK) (b : Nat) (hb : X.H kd b) : X'.H kd b ∧ X'.w.heap[b]? = X.w.heap[b]? :=
  ⟨⟨(h.tmp b hb.1).1, fun hk => by rw [h.outer]; exact hb.2 hk⟩, (h.tmp b hb.1).2⟩

theorem Rep.evo {X X' : Ctx} (hE : Evo X X') {c : V} {v : Value} (h : Rep X c v) : Rep X' c v := by
  induction h with
  | any => exact .any
  | kb => exact .kb
  | bool => exact .bool
  | bq h => exact .bq h
  | int => exact .int
  | str h => exact .str h
  | nilp => exact .nilp
  | nils => exact .nils
  | nilm => exact .nilm
  | nilf => exact .nilf
  | nili => exact .nili
  | list h hf => exact .list (h.keep hE.good (hE.head _)) hf
  | slc hg he hh =>
    obtain ⟨ep', l', hg', hle, hs⟩ := hE.arr _ _ _ _ hg
    refine .slc hg' (Nat.le_trans he hle) (fun e => ?_)
    subst e
    have e2 := Nat.le_antisymm he hle
    obtain ⟨hm, hl⟩ := hs e2
    rw [hm, hl]
    exact hh e2
  | fptr f hG hc _ ih =>
    refine .fptr f (fun h0 => (hE.tmp _ (hG h0)).1) (fun j c hj => ?_) ih
    have h0 : 0 < _ := Nat.lt_of_le_of_lt (Nat.zero_le j) (List.getElem?_eq_some_iff.1 hj).1
    rw [cell_same (hE.tmp _ (hG h0)).2]
    exact hc j c hj
  | ptr hg hm =>
    obtain ⟨⟨cells', hg'⟩, hm'⟩ := hE.box _ _ hg
    exact .ptr hg' (hm'.trans hm)
  | eptr hg he hh =>
    obtain ⟨ep', l', hg', hle, hs⟩ := hE.arr _ _ _ _ hg
    refine .eptr hg' (Nat.le_trans he hle) (fun e => ?_)
    subst e
    have e2 := Nat.le_antisymm he hle
    rw [(hs e2).1]
    exact hh e2
  | fn h1 h2 _ _ ih1 ih2 => exact .fn h1 h2 ih1 ih2
  | agg h1 _ ih => exact .agg h1 ih
  | tuple h1 _ ih => exact .tuple h1 ih
  | iface _ ih => exact .iface ih

theorem Evo.refl (X : Ctx) : Evo X X :=
  ⟨rfl, rfl, rfl, Nat.le_refl _, rfl, fun _ h => ⟨h, rfl⟩, fun _ cells h => ⟨⟨cells, h⟩, rfl⟩, fun _ ep _ l h => ⟨ep, l, h, Nat.le_refl _, fun _ => ⟨rfl, rfl⟩⟩⟩

theorem Evo.trans {X Y Z : Ctx} (h : Evo X Y) (k : Evo Y Z) : Evo X Z := by
  refine ⟨k.os.trans h.os, k.tape.trans h.tape, k.output.trans h.output, Nat.le_trans h.size k.size, k.outer.trans h.outer, fun b hb => ?_, fun id cells hg => ?_, fun id ep t l hg => ?_⟩
  · obtain ⟨h1, h2⟩ := h.still b hb
    obtain ⟨k1, k2⟩ := k.still b h1
    exact ⟨k1, k2.trans h2⟩
  · obtain ⟨⟨c', h1⟩, h2⟩ := h.box id cells hg
    obtain ⟨k1, k2⟩ := k.box id c' h1
    exact ⟨k1, k2.trans h2⟩
  · obtain ⟨ep', l', h1, h2, h3⟩ := h.arr id ep t l hg
    obtain ⟨ep'', l'', k1, k2, k3⟩ := k.arr id ep' t l' h1
    refine ⟨ep'', l'', k1, Nat.le_trans h2 k2, fun e => ?_⟩
    subst e
    have e2 : ep' = ep'' := Nat.le_antisymm k2 h2
    obtain ⟨a1, a2⟩ := k3 e2.symm
    obtain ⟨b1, b2⟩ := h3 e2
    exact ⟨a1.trans b1, a2.trans b2⟩

theorem RepL.evo {X X' : Ctx} (hE : Evo X X') {cs : List V} {vs : List Value} (h : RepL X cs vs) : RepL X' cs vs :=
  ⟨h.1, fun j c u hc hu => (h.2 j c u hc hu).evo hE⟩

/-- A thing of the store lies where it should. -/
def ObjOk (X : Ctx) (id : Nat) : Obj → Prop
  | .box cells => ∃ b cs ty, X.μ id = some (b, 0, 1) ∧ X.w.heap[b]? = some (.cells cs ty (0, 0)) ∧ RepL X cells cs.toList
  | .arr _ t l => (X.μ id = none ∧ l.length = 0) ∨
      ∃ b base C cs ty, X.μ id = some (b, base, C) ∧ X.w.heap[b]? = some (.cells cs ty (0, 0)) ∧ base + C * t.cells = cs.size ∧ l.length ≤ C ∧ C ≤ maxLen ∧
        ∀ (i : Nat) (x : t.den), l[i]? = some x → ∃ row, RepC X.w X.G t x row ∧ ∀ (j : Nat) (u : Value), row[j]? = some u → cs[base + i * t.cells + j]? = some u

/-- The store is there, its things apart, in blocks of B. -/
structure Inv (B : Nat → Prop) (X : Ctx) : Prop where
  objs : ∀ id o, X.σ.get id = some o → ObjOk X id o
  inj : ∀ i j o o' p q, X.σ.get i = some o → X.σ.get j = some o' → X.μ i = some p → X.μ j = some q → p.1 = q.1 → i = j
  base : ∀ id o p, X.σ.get id = some o → X.μ id = some p → B p.1
  out : ∀ b, X.w.heap.size ≤ b → ¬ X.F.any b
  vis : ∀ b, B b → ¬ X.F.hid b

theorem Inv.lt {B : Nat → Prop} {X : Ctx} (h : Inv B X) {id : Nat} {o : Obj} {p : Nat × Nat × Nat} (hg : X.σ.get id = some o) (hm : X.μ id = some p) : p.1 < X.w.heap.size := by
  have := h.objs id o hg
  cases o with
  | box cells =>
    obtain ⟨b, cs, ty, h1, h2, _⟩ := this
    rw [hm] at h1; cases h1
    exact (Array.getElem?_eq_some_iff.1 h2).1
  | arr ep t l =>
    rcases this with ⟨h1, _⟩ | ⟨b, base, C, cs, ty, h1, h2, _⟩
    · rw [hm] at h1; cases h1
    · rw [hm] at h1; cases h1
      exact (Array.getElem?_eq_some_iff.1 h2).1

/-- A step that changes only what is above the store: new blocks, draws. -/
theorem evo_of_blocks {X : Ctx} {B : Nat → Prop} (hI : Inv B X) {w' : World} (hos : w'.os = X.w.os) (ht : w'.tape = X.w.tape) (ho : w'.output = X.w.output) (hs : X.w.heap.size ≤ w'.heap.size)
    (hb : ∀ b, b < X.w.heap.size → w'.heap[b]? = X.w.heap[b]?) : Evo X { X with w := w' } ∧ Inv B { X with w := w' } := by
  have hE : Evo X { X with w := w' } :=
    ⟨hos, ht, ho, hs, rfl, fun b h => ⟨⟨Nat.lt_of_lt_of_le h.1 hs, h.2⟩, hb b h.1⟩, fun _ cells h => ⟨⟨cells, h⟩, rfl⟩, fun _ ep _ l h => ⟨ep, l, h, Nat.le_refl _, fun _ => ⟨rfl, rfl⟩⟩⟩
  refine ⟨hE, ⟨fun id o hg => ?_, hI.inj, hI.base, fun b hb => hI.out b (Nat.le_trans hs hb), hI.vis⟩⟩
  have h0 := hI.objs id o hg
  cases o with
  | box cells =>
    obtain ⟨b, cs, ty, h1, h2, h3⟩ := h0
    exact ⟨b, cs, ty, h1, (hb b (hI.lt hg h1)).trans h2, h3.evo hE⟩
  | arr ep t l =>
    rcases h0 with h0 | ⟨b, base, C, cs, ty, h1, h2, h3, h4, h5, h6⟩
    · exact .inl h0
    · refine .inr ⟨b, base, C, cs, ty, h1, (hb b (hI.lt hg h1)).trans h2, h3, h4, h5, fun i x hx => ?_⟩
      obtain ⟨row, hr, hc⟩ := h6 i x hx
      exact ⟨row, hr.keep hE.good, hc⟩

end Go.Vm
