/-
  The engine, part 1: abstract values, how they stand for the model's values, and how that is kept while memory changes. No program in sight.
-/
import Derived.Test.YtdplodofdfkndaaDoorVm0
namespace Go.Vm

/-- Types of plain data. -/
inductive Ty where
  | bool | str | int (k : IntKind) | slice (t : Ty) | pair (a b : Ty)
  deriving DecidableEq

/-- What a datum of a type is. -/
def Ty.den : Ty → Type
  | .bool => Bool
  | .str => List UInt8
  | .int _ => Int
  | .slice t => List t.den
  | .pair a b => a.den × b.den

/-- How many cells a datum takes. -/
def Ty.cells : Ty → Nat
  | .bool | .str | .int _ | .slice _ => 1
  | .pair a b => a.cells + b.cells

theorem Ty.cells_pos (t : Ty) : 0 < t.cells := by
  induction t with
  | pair a b iha ihb => simp only [Ty.cells]; omega
  | _ => simp [Ty.cells]

/-- Kinds of lists: 'full': no room behind; 'part': room, perhaps; 'tmp': nobody writes them while this call lasts. -/
inductive LK where
  | full | part | tmp
  deriving DecidableEq

/-- Abstract values. 'bq p': a truth of which 'p' is known. 'list': a slice (nil, if empty, perhaps) whose cells nobody writes any more. 'olist', 'optr': a list, a variable, that are handed over. 'slc': a slice of an array of the store. 'fptr': a pointer to cells that nobody writes. 'nslc', 'nptr', 'nin': a nest, a place in it, a row's own list. -/
inductive V where
  | any
  | kb (b : Bool)
  | bool (b : Bool)
  | bq (p : Bool → Prop)
  | int (k : IntKind) (n : Int)
  | str (l : List UInt8)
  | nilp | nils | nilm | nilf | nili
  | err (b : Bool)
  | list (kd : LK) (t : Ty) (l : List t.den)
  | olist (t : Ty) (l : List t.den)
  | optr (cells : List V)
  | slc (id ep : Nat) (rng : Option (Nat × Nat))
  | fptr (cells : List V)
  | ptr (id off : Nat)
  | eptr (id ep i off : Nat)
  | nslc (id : Nat)
  | nptr (id i off : Nat)
  | nin (id iv i : Nat)
  | rows (n : Nat) (cells : List V)
  | fn (f : Fn) (first cap : List V)
  | agg (cells : List V)
  | tuple (vs : List V)
  | iface (t : TypeId) (v : V)

instance : Inhabited V := ⟨.any⟩

/-- Things of the store: a variable of cells; an array of data that grows; an array of rows of which each owns the list in its cell f (but for the row 'hole'). -/
inductive Obj where
  | box (cells : List V)
  | arr (ep : Nat) (t : Ty) (l : List t.den)
  | nest (iv : Nat) (t : Ty) (f : Nat) (hole : Option Nat) (l : List t.den)

def isNest : Option Obj → Bool
  | some (.nest ..) => true
  | _ => false

/-- The abstract cells of a datum. -/
def enc : (t : Ty) → t.den → List V
  | .bool, b => [.bool b]
  | .str, l => [.str l]
  | .int k, n => [.int k n]
  | .slice t, l => [.list .part t l]
  | .pair a b, x => enc a x.1 ++ enc b x.2

abbrev Store := List (Nat × Obj)

def Store.get : Store → Nat → Option Obj
  | [], _ => none
  | (i, o) :: r, k => if i = k then some o else Store.get r k

/-- A store's other half: which block each thing lies in: block, first cell, room. -/
abbrev Mu := Nat → Option (Nat × Nat × Nat)

/-- Blocks of others: the callers' (out), and those that are hidden (hid). Boxes that were handed in, to be written (pin); blocks that stay as they are (gnd). -/
structure Fr where
  out : Nat → Prop
  hid : Nat → Prop
  pin : List (Nat × (Nat × Nat × Nat))
  gnd : { l : List (Nat × _root_.Go.Obj) // Tabs l }

instance : CoeFun Fr fun _ => Nat → Prop := ⟨Fr.out⟩

def Fr.any (F : Fr) (b : Nat) : Prop := F.out b ∨ F.hid b

structure Ctx where
  w : World
  σ : Store
  μ : Mu
  F : Fr

/-- The block of a row's own list. -/
def hblk : Value → Option Nat
  | .slice (some a) _ cap => if 0 < cap then some a.block else none
  | _ => none

/-- The cell in which a row's own list stands. -/
def hcell (w : World) (p : Nat × Nat × Nat) (t : Ty) (f i : Nat) : Option Value := w.cell? ⟨p.1, p.2.1 + i * t.cells + f, none⟩

/-- The blocks of the rows' own lists. -/
def Obj.inn (w : World) (p : Nat × Nat × Nat) (o : Obj) (b : Nat) : Prop :=
  match o with
  | .nest _ t f h l => ∃ i u, i < l.length ∧ h ≠ some i ∧ hcell w p t f i = some u ∧ hblk u = some b
  | _ => False

/-- The blocks of a thing. -/
def Blk (X : Ctx) (id : Nat) (o : Obj) (b : Nat) : Prop := ∃ p, X.μ id = some p ∧ (p.1 = b ∨ o.inn X.w p b)

/-- A block that is there, and is none of the store's. -/
def Ctx.T0 (X : Ctx) (b : Nat) : Prop := b < X.w.heap.size ∧ ∀ id o, X.σ.get id = some o → ¬ Blk X id o b

theorem Ctx.T0.off {X : Ctx} {b : Nat} (h : X.T0 b) {id : Nat} {o : Obj} {p : Nat × Nat × Nat} (hg : X.σ.get id = some o) (hm : X.μ id = some p) : p.1 ≠ b :=
  fun e => h.2 id o hg ⟨p, hm, .inl e⟩

/-- A block that nobody writes while this call lasts: it is there, none of the store's, and not hidden. -/
def Ctx.T (X : Ctx) (b : Nat) : Prop := X.T0 b ∧ ¬ X.F.hid b

/-- A block that nobody writes any more: none of the callers' either. -/
def Ctx.G (X : Ctx) (b : Nat) : Prop := X.T b ∧ ¬ X.F b

def Ctx.H (X : Ctx) (kd : LK) (b : Nat) : Prop := X.T b ∧ (kd ≠ .tmp → ¬ X.F b)

/-- The i-th of a list. -/
abbrev nth {α : Type} (l : List α) (i : Nat) : Option α := l[i]?

/-- A datum lies in these cells. -/
def RepC (w : World) (G : Nat → Prop) : (t : Ty) → t.den → List Value → Prop
  | .bool, b, cs => cs = [.bool b]
  | .str, l, cs => ∃ s : ByteArray, cs = [.string s] ∧ s.data.toList = l
  | .int k, n, cs => cs = [.int k n]
  | .pair a b, x, cs => ∃ c1 c2, cs = c1 ++ c2 ∧ RepC w G a x.1 c1 ∧ RepC w G b x.2 c2
  | .slice t, l, cs => ∃ A cap, cs = [.slice A (List.length l) cap] ∧ List.length l ≤ cap ∧
      (0 < List.length l → ∃ b o, A = some ⟨b, o, none⟩ ∧ G b ∧
        ∀ (i : Nat) (x : t.den), nth (α := t.den) l i = some x → ∃ row, RepC w G t x row ∧ ∀ (j : Nat) (u : Value), row[j]? = some u → w.cell? ⟨b, o + i * t.cells + j, none⟩ = some u)

/-- A slice that reads as a list: its first block of a kind of its own. -/
def RepS (w : World) (H G : Nat → Prop) (t : Ty) (l : List t.den) (A : Option Addr) (len cap : Nat) : Prop :=
  len = l.length ∧ len ≤ cap ∧ (0 < len → ∃ b o, A = some ⟨b, o, none⟩ ∧ H b ∧
    ∀ (i : Nat) (x : t.den), nth l i = some x → ∃ row, RepC w G t x row ∧ ∀ (j : Nat) (u : Value), row[j]? = some u → w.cell? ⟨b, o + i * t.cells + j, none⟩ = some u)

theorem RepC.toS {w : World} {G : Nat → Prop} {t : Ty} {l : List t.den} {A : Option Addr} {len cap : Nat} (h : RepC w G (.slice t) l [.slice A len cap]) : RepS w G G t l A len cap := by
  obtain ⟨A', cap', e, hl, hc⟩ := h
  simp only [List.cons.injEq, Value.slice.injEq, and_true] at e
  obtain ⟨rfl, rfl, rfl⟩ := e
  exact ⟨rfl, hl, hc⟩

theorem RepS.toC {w : World} {H G : Nat → Prop} {t : Ty} {l : List t.den} {A : Option Addr} {len cap : Nat} (h : RepS w H G t l A len cap) (hG : ∀ b, H b → G b) : RepC w G (.slice t) l [.slice A len cap] := by
  obtain ⟨rfl, hl, hc⟩ := h
  refine ⟨A, cap, rfl, hl, fun h0 => ?_⟩
  obtain ⟨b, o, e, hb, hr⟩ := hc h0
  exact ⟨b, o, e, hG b hb, hr⟩

theorem RepC.len {w : World} {G : Nat → Prop} : ∀ {t : Ty} {x : t.den} {cs : List Value}, RepC w G t x cs → cs.length = t.cells
  | .bool, _, _, h => by simp only [RepC] at h; subst h; rfl
  | .int _, _, _, h => by simp only [RepC] at h; subst h; rfl
  | .str, _, _, h => by obtain ⟨s, rfl, _⟩ := h; rfl
  | .slice _, _, _, h => by obtain ⟨A, cap, rfl, _⟩ := h; rfl
  | .pair _ _, _, _, h => by
    obtain ⟨c1, c2, rfl, h1, h2⟩ := h
    rw [List.length_append, h1.len, h2.len]; rfl

theorem cell_same {w w' : World} {b o : Nat} (h : w'.heap[b]? = w.heap[b]?) : w'.cell? ⟨b, o, none⟩ = w.cell? ⟨b, o, none⟩ := by
  simp [World.cell?, h]

theorem RepC.keep {w w' : World} {G G' : Nat → Prop} (hG : ∀ b, G b → G' b ∧ w'.heap[b]? = w.heap[b]?) :
    ∀ {t : Ty} {x : t.den} {cs : List Value}, RepC w G t x cs → RepC w' G' t x cs
  | .bool, _, _, h => h
  | .int _, _, _, h => h
  | .str, _, _, h => h
  | .pair _ _, _, _, h => by
    obtain ⟨c1, c2, e, h1, h2⟩ := h
    exact ⟨c1, c2, e, h1.keep hG, h2.keep hG⟩
  | .slice t, _, _, h => by
    obtain ⟨A, cap, e, hl, hc⟩ := h
    refine ⟨A, cap, e, hl, fun h0 => ?_⟩
    obtain ⟨b, o, eA, hg, hi⟩ := hc h0
    obtain ⟨hg', hh⟩ := hG b hg
    refine ⟨b, o, eA, hg', fun i x hx => ?_⟩
    obtain ⟨row, hr, hcell⟩ := hi i x hx
    exact ⟨row, hr.keep hG, fun j u hu => by rw [cell_same hh]; exact hcell j u hu⟩

theorem RepS.keep {w w' : World} {H G H' G' : Nat → Prop} (hG : ∀ b, G b → G' b ∧ w'.heap[b]? = w.heap[b]?) (hH : ∀ b, H b → H' b ∧ w'.heap[b]? = w.heap[b]?) {t : Ty} {l : List t.den} {A : Option Addr} {len cap : Nat}
    (h : RepS w H G t l A len cap) : RepS w' H' G' t l A len cap := by
  obtain ⟨h1, h2, hc⟩ := h
  refine ⟨h1, h2, fun h0 => ?_⟩
  obtain ⟨b, o, e, hb, hr⟩ := hc h0
  obtain ⟨hb', hh⟩ := hH b hb
  refine ⟨b, o, e, hb', fun i x hx => ?_⟩
  obtain ⟨row, r1, r2⟩ := hr i x hx
  exact ⟨row, r1.keep hG, fun j u hu => by rw [cell_same hh]; exact r2 j u hu⟩

/-- A header of an array: whole, or a part. -/
def Hdr (p : Option (Nat × Nat × Nat)) (t : Ty) (n : Nat) (rng : Option (Nat × Nat)) (A : Option Addr) (len cap : Nat) : Prop :=
  match p, rng with
  | none, none => len = 0 ∧ cap = 0 ∧ n = 0
  | none, some (off, m) => off = 0 ∧ m = 0 ∧ len = 0 ∧ cap = 0 ∧ n = 0
  | some (b, base, C), none => len = n ∧ cap = C ∧ n ≤ C ∧ (∃ a, A = some a ∧ (0 < C → a = ⟨b, base, none⟩))
  | some (b, base, C), some (off, m) => len = m ∧ off + m ≤ n ∧ n ≤ C ∧ cap = C - off ∧ (∃ a, A = some a ∧ (0 < C - off → a = ⟨b, base + off * t.cells, none⟩))

/-- An abstract value stands for a value. -/
inductive Rep (X : Ctx) : V → Value → Prop where
  | any {v} : Rep X .any v
  | kb {b} : Rep X (.kb b) (.bool b)
  | bool {b} : Rep X (.bool b) (.bool b)
  | bq {p b} : p b → Rep X (.bq p) (.bool b)
  | int {k n} : Rep X (.int k n) (.int k n)
  | str {l s} : s.data.toList = l → Rep X (.str l) (.string s)
  | nilp : Rep X .nilp (.pointer none)
  | nils : Rep X .nils (.slice none 0 0)
  | nilm : Rep X .nilm (.map none)
  | nilf : Rep X .nilf .nilFunc
  | nili : Rep X .nili .nilIface
  | errN : Rep X (.err false) .nilIface
  | errS {t : TypeId} {v : Value} : Rep X (.err true) (.iface t v)
  | list {kd t l A len cap} : RepS X.w (X.H kd) X.G t l A len cap → (kd = .full → cap = len) → Rep X (.list kd t l) (.slice A len cap)
  | slc {id ep rng A len cap ep' t l} : X.σ.get id = some (.arr ep' t l) → ep ≤ ep' → (ep = ep' → Hdr (X.μ id) t l.length rng A len cap) → Rep X (.slc id ep rng) (.slice A len cap)
  | fptr {cells b o} (f : Nat → Value) : (0 < cells.length → X.T b) → (∀ (j : Nat) c, cells[j]? = some c → X.w.cell? ⟨b, o + j, none⟩ = some (f j)) →
      (∀ (j : Nat) c, cells[j]? = some c → Rep X c (f j)) → Rep X (.fptr cells) (.pointer (some ⟨b, o, none⟩))
  | ptr {id off cells b base C} : X.σ.get id = some (.box cells) → X.μ id = some (b, base, C) → Rep X (.ptr id off) (.pointer (some ⟨b, base + off, none⟩))
  | eptr {id ep i off a ep' t l} : X.σ.get id = some (.arr ep' t l) → ep ≤ ep' → (ep = ep' → ∃ b base C, X.μ id = some (b, base, C) ∧ a = ⟨b, base + i * t.cells + off, none⟩) →
      Rep X (.eptr id ep i off) (.pointer (some a))
  | rows {n cells A len cap} (f : Nat → Value) : len * n = cells.length → len ≤ cap → (0 < cells.length → ∃ b o, A = some ⟨b, o, none⟩ ∧ X.G b ∧ ∀ (j : Nat) c, cells[j]? = some c → X.w.cell? ⟨b, o + j, none⟩ = some (f j)) →
      (∀ (j : Nat) c, cells[j]? = some c → Rep X c (f j)) → Rep X (.rows n cells) (.slice A len cap)
  | nslc {id A len cap iv t f h l} : X.σ.get id = some (.nest iv t f h l) → Hdr (X.μ id) t l.length none A len cap → Rep X (.nslc id) (.slice A len cap)
  | nptr {id i off iv t f h l b base C} : X.σ.get id = some (.nest iv t f h l) → X.μ id = some (b, base, C) → Rep X (.nptr id i off) (.pointer (some ⟨b, base + i * t.cells + off, none⟩))
  | nin {id iv i u iv' t f h l} : X.σ.get id = some (.nest iv' t f h l) → iv ≤ iv' → (iv = iv' → i < l.length ∧ h ≠ some i ∧ ∃ p, X.μ id = some p ∧ hcell X.w p t f i = some u) → Rep X (.nin id iv i) u
  | fn {f first cap} {vs ws : Array Value} : vs.size = first.length → ws.size = cap.length → (∀ (j : Nat) c u, first[j]? = some c → vs[j]? = some u → Rep X c u) →
      (∀ (j : Nat) c u, cap[j]? = some c → ws[j]? = some u → Rep X c u) → Rep X (.fn f first cap) (.func f vs ws)
  | agg {cells} {vs : Array Value} : vs.size = cells.length → (∀ (j : Nat) c u, cells[j]? = some c → vs[j]? = some u → Rep X c u) → Rep X (.agg cells) (.agg vs)
  | tuple {cells} {vs : Array Value} : vs.size = cells.length → (∀ (j : Nat) c u, cells[j]? = some c → vs[j]? = some u → Rep X c u) → Rep X (.tuple cells) (.tuple vs)
  | iface {t c u} : Rep X c u → Rep X (.iface t c) (.iface t u)

/-- Rows of values, one by one. -/
def RepL (X : Ctx) (cs : List V) (vs : List Value) : Prop := vs.length = cs.length ∧ ∀ (j : Nat) c u, cs[j]? = some c → vs[j]? = some u → Rep X c u

/-- A step of memory that keeps what abstract values stand for. -/
structure Evo (X X' : Ctx) : Prop where
  os : X'.w.os = X.w.os
  tape : X'.w.tape = X.w.tape
  output : X'.w.output = X.w.output
  size : X.w.heap.size ≤ X'.w.heap.size
  outer : X'.F = X.F
  still : ∀ b, X.T0 b → X'.T0 b ∧ X'.w.heap[b]? = X.w.heap[b]?
  box : ∀ id cells, X.σ.get id = some (.box cells) → (∃ cells', X'.σ.get id = some (.box cells')) ∧ X'.μ id = X.μ id
  arr : ∀ id ep t l, X.σ.get id = some (.arr ep t l) → ∃ ep' l', X'.σ.get id = some (.arr ep' t l') ∧ ep ≤ ep' ∧ (ep' = ep → X'.μ id = X.μ id ∧ l'.length = l.length)
  nest : ∀ id iv t f h l, X.σ.get id = some (.nest iv t f h l) → ∃ iv' h' l', X'.σ.get id = some (.nest iv' t f h' l') ∧ iv ≤ iv' ∧ X'.μ id = X.μ id ∧ l'.length = l.length ∧
    (iv' = iv → l' = l ∧ h' = h ∧ ∀ p, X.μ id = some p → X'.w.heap[p.1]? = X.w.heap[p.1]?)

theorem Evo.tmp {X X' : Ctx} (h : Evo X X') (b : Nat) (hb : X.T b) : X'.T b ∧ X'.w.heap[b]? = X.w.heap[b]? :=
  ⟨⟨(h.still b hb.1).1, by rw [h.outer]; exact hb.2⟩, (h.still b hb.1).2⟩
theorem Evo.good {X X' : Ctx} (h : Evo X X') (b : Nat) (hb : X.G b) : X'.G b ∧ X'.w.heap[b]? = X.w.heap[b]? :=
  ⟨⟨(h.tmp b hb.1).1, by rw [h.outer]; exact hb.2⟩, (h.tmp b hb.1).2⟩
theorem Evo.head {X X' : Ctx} (h : Evo X X') (kd : LK) (b : Nat) (hb : X.H kd b) : X'.H kd b ∧ X'.w.heap[b]? = X.w.heap[b]? :=
  ⟨⟨(h.tmp b hb.1).1, fun hk => by rw [h.outer]; exact hb.2 hk⟩, (h.tmp b hb.1).2⟩

theorem Rep.evo {X X' : Ctx} (hE : Evo X X') {c : V} {v : Value} (h : Rep X c v) : Rep X' c v := by
  induction h with
  | any => exact .any
  | kb => exact .kb
  | bool => exact .bool
  | bq h => exact .bq h
  | int => exact .int
  | str h => exact .str h
  | nilp => exact .nilp
  | nils => exact .nils
  | nilm => exact .nilm
  | nilf => exact .nilf
  | nili => exact .nili
  | errN => exact .errN
  | errS => exact .errS
  | list h hf => exact .list (h.keep hE.good (hE.head _)) hf
  | slc hg he hh =>
    obtain ⟨ep', l', hg', hle, hs⟩ := hE.arr _ _ _ _ hg
    refine .slc hg' (Nat.le_trans he hle) (fun e => ?_)
    subst e
    have e2 := Nat.le_antisymm he hle
    obtain ⟨hm, hl⟩ := hs e2
    rw [hm, hl]
    exact hh e2
  | fptr f hG hc _ ih =>
    refine .fptr f (fun h0 => (hE.tmp _ (hG h0)).1) (fun j c hj => ?_) ih
    have h0 : 0 < _ := Nat.lt_of_le_of_lt (Nat.zero_le j) (List.getElem?_eq_some_iff.1 hj).1
    rw [cell_same (hE.tmp _ (hG h0)).2]
    exact hc j c hj
  | ptr hg hm =>
    obtain ⟨⟨cells', hg'⟩, hm'⟩ := hE.box _ _ hg
    exact .ptr hg' (hm'.trans hm)
  | eptr hg he hh =>
    obtain ⟨ep', l', hg', hle, hs⟩ := hE.arr _ _ _ _ hg
    refine .eptr hg' (Nat.le_trans he hle) (fun e => ?_)
    subst e
    have e2 := Nat.le_antisymm he hle
    rw [(hs e2).1]
    exact hh e2
  | rows f h1 h2 h3 _ ih =>
    refine .rows f h1 h2 (fun h0 => ?_) ih
    obtain ⟨b, o, e, hb, hc⟩ := h3 h0
    exact ⟨b, o, e, (hE.good b hb).1, fun j c hj => by rw [cell_same (hE.good b hb).2]; exact hc j c hj⟩
  | nslc hg hh =>
    obtain ⟨iv', h', l', hg', _, hm, hl, _⟩ := hE.nest _ _ _ _ _ _ hg
    refine .nslc hg' ?_
    rw [hm, hl]
    exact hh
  | nptr hg hm =>
    obtain ⟨iv', h', l', hg', _, hm', _⟩ := hE.nest _ _ _ _ _ _ hg
    exact .nptr hg' (hm'.trans hm)
  | nin hg hle hc =>
    obtain ⟨iv2, h2, l2, hg', hle2, hm, hl, hs⟩ := hE.nest _ _ _ _ _ _ hg
    refine .nin hg' (Nat.le_trans hle hle2) (fun e => ?_)
    subst e
    have e2 := Nat.le_antisymm hle hle2
    obtain ⟨rfl, rfl, hb⟩ := hs (by first | exact e2 | exact e2.symm)
    obtain ⟨c1, c2, p, c3, c4⟩ := hc (by first | exact e2 | exact e2.symm)
    exact ⟨c1, c2, p, hm.trans c3, by unfold hcell at c4 ⊢; rw [cell_same (hb p c3)]; exact c4⟩
  | fn h1 h2 _ _ ih1 ih2 => exact .fn h1 h2 ih1 ih2
  | agg h1 _ ih => exact .agg h1 ih
  | tuple h1 _ ih => exact .tuple h1 ih
  | iface _ ih => exact .iface ih

theorem Evo.refl (X : Ctx) : Evo X X :=
  ⟨rfl, rfl, rfl, Nat.le_refl _, rfl, fun _ h => ⟨h, rfl⟩, fun _ cells h => ⟨⟨cells, h⟩, rfl⟩, fun _ ep _ l h => ⟨ep, l, h, Nat.le_refl _, fun _ => ⟨rfl, rfl⟩⟩,
    fun _ iv _ _ h l hg => ⟨iv, h, l, hg, Nat.le_refl _, rfl, rfl, fun _ => ⟨rfl, rfl, fun _ _ => rfl⟩⟩⟩

theorem Evo.trans {X Y Z : Ctx} (h : Evo X Y) (k : Evo Y Z) : Evo X Z := by
  refine ⟨k.os.trans h.os, k.tape.trans h.tape, k.output.trans h.output, Nat.le_trans h.size k.size, k.outer.trans h.outer, fun b hb => ?_, fun id cells hg => ?_, fun id ep t l hg => ?_, fun id iv t f hh l hg => ?_⟩
  · obtain ⟨h1, h2⟩ := h.still b hb
    obtain ⟨k1, k2⟩ := k.still b h1
    exact ⟨k1, k2.trans h2⟩
  · obtain ⟨⟨c', h1⟩, h2⟩ := h.box id cells hg
    obtain ⟨k1, k2⟩ := k.box id c' h1
    exact ⟨k1, k2.trans h2⟩
  · obtain ⟨ep', l', h1, h2, h3⟩ := h.arr id ep t l hg
    obtain ⟨ep'', l'', k1, k2, k3⟩ := k.arr id ep' t l' h1
    refine ⟨ep'', l'', k1, Nat.le_trans h2 k2, fun e => ?_⟩
    subst e
    have e2 : ep' = ep'' := Nat.le_antisymm k2 h2
    obtain ⟨a1, a2⟩ := k3 e2.symm
    obtain ⟨b1, b2⟩ := h3 e2
    exact ⟨a1.trans b1, a2.trans b2⟩
  · obtain ⟨iv1, h1, l1, g1, e1, m1, n1, s1⟩ := h.nest id iv t f hh l hg
    obtain ⟨iv2, h2, l2, g2, e2, m2, n2, s2⟩ := k.nest id iv1 t f h1 l1 g1
    refine ⟨iv2, h2, l2, g2, Nat.le_trans e1 e2, m2.trans m1, n2.trans n1, fun e => ?_⟩
    subst e
    have e3 : iv1 = iv2 := Nat.le_antisymm e2 e1
    obtain ⟨rfl, rfl, a3⟩ := s2 e3.symm
    obtain ⟨rfl, rfl, b3⟩ := s1 e3
    exact ⟨rfl, rfl, fun p hp => (a3 p (m1.trans hp)).trans (b3 p hp)⟩

theorem RepL.evo {X X' : Ctx} (hE : Evo X X') {cs : List V} {vs : List Value} (h : RepL X cs vs) : RepL X' cs vs :=
  ⟨h.1, fun j c u hc hu => (h.2 j c u hc hu).evo hE⟩

/-- Values that name nothing of the store. -/
def datV : V → Bool
  | .bool _ | .kb _ | .int _ _ | .str _ | .nils | .list .part _ _ | .list .full _ _ => true
  | _ => false

theorem enc_dat : ∀ {t : Ty} {x : t.den} {c : V}, c ∈ enc t x → datV c = true
  | .bool, _, c, h => by simp [enc] at h; subst h; rfl
  | .str, _, c, h => by simp [enc] at h; subst h; rfl
  | .int _, _, c, h => by simp [enc] at h; subst h; rfl
  | .slice _, _, c, h => by simp [enc] at h; subst h; rfl
  | .pair _ _, _, c, h => by
    simp only [enc, List.mem_append] at h
    rcases h with h | h
    · exact enc_dat h
    · exact enc_dat h

theorem Rep.dat {X X' : Ctx} (hG : ∀ b, X.G b → X'.G b ∧ X'.w.heap[b]? = X.w.heap[b]?) {c : V} {u : Value} (hc : datV c = true) (h : Rep X c u) : Rep X' c u := by
  cases h with
  | kb => exact .kb
  | bool => exact .bool
  | int => exact .int
  | str h => exact .str h
  | nils => exact .nils
  | @list kd t l A len cap h hf =>
    have hne : kd ≠ .tmp := by rintro rfl; simp [datV] at hc
    refine .list (h.keep hG (fun b hb => ?_)) hf
    obtain ⟨h1, h2⟩ := hG b ⟨hb.1, hb.2 hne⟩
    exact ⟨⟨h1.1, fun _ => h1.2⟩, h2⟩
  | _ => simp [datV] at hc

/-- A row's own list. -/
def RepH (w : World) (G : Nat → Prop) (c : V) (u : Value) : Prop :=
  ∃ tin l A cap, c = .list .part tin l ∧ u = .slice A l.length cap ∧
    ((cap = 0 ∧ l.length = 0) ∨ ∃ b base cs ty, A = some ⟨b, base, none⟩ ∧ 0 < cap ∧ w.heap[b]? = some (.cells cs ty (0, 0)) ∧ base + cap * tin.cells = cs.size ∧ l.length ≤ cap ∧ cap ≤ maxLen ∧
      ∀ (i : Nat) (x : tin.den), l[i]? = some x → ∃ row, RepC w G tin x row ∧ ∀ (j : Nat) (u : Value), row[j]? = some u → cs[base + i * tin.cells + j]? = some u)

/-- A thing of the store lies where it should. -/
def ObjOk (X : Ctx) (id : Nat) : Obj → Prop
  | .box cells => ∃ b cs ty, X.μ id = some (b, 0, 1) ∧ X.w.heap[b]? = some (.cells cs ty (0, 0)) ∧ RepL X cells cs.toList
  | .arr _ t l => (X.μ id = none ∧ l.length = 0) ∨
      ∃ b base C cs ty, X.μ id = some (b, base, C) ∧ X.w.heap[b]? = some (.cells cs ty (0, 0)) ∧ base + C * t.cells = cs.size ∧ l.length ≤ C ∧ C ≤ maxLen ∧
        ∀ (i : Nat) (x : t.den), l[i]? = some x → ∃ row, RepC X.w X.G t x row ∧ ∀ (j : Nat) (u : Value), row[j]? = some u → cs[base + i * t.cells + j]? = some u
  | .nest _ t f h l => ∃ b base C cs ty, X.μ id = some (b, base, C) ∧ X.w.heap[b]? = some (.cells cs ty (0, 0)) ∧ base + C * t.cells = cs.size ∧ l.length ≤ C ∧ C ≤ maxLen ∧ f < t.cells ∧
      (∀ (i : Nat) (x : t.den), l[i]? = some x → ∀ (j : Nat) c, (enc t x)[j]? = some c → ∃ u, cs[base + i * t.cells + j]? = some u ∧ (j ≠ f → Rep X c u) ∧ (j = f → h ≠ some i → RepH X.w X.G c u)) ∧
      (∀ i j u v b', i < l.length → j < l.length → h ≠ some i → h ≠ some j → hcell X.w (b, base, C) t f i = some u → hcell X.w (b, base, C) t f j = some v → hblk u = some b' → hblk v = some b' → i = j) ∧
      ∀ i u, i < l.length → h ≠ some i → hcell X.w (b, base, C) t f i = some u → hblk u ≠ some b

/-- What stays: the boxes that were handed in, the blocks of the ground. -/
structure Marks (B : Nat → Prop) (X : Ctx) : Prop where
  pin : ∀ e ∈ X.F.pin, (∃ cells, X.σ.get e.1 = some (.box cells)) ∧ X.μ e.1 = some e.2
  gnd : ∀ e ∈ X.F.gnd.1, X.w.heap[e.1]? = some e.2 ∧ ¬ B e.1

/-- The store is there, its things apart, in blocks of B. -/
structure Inv (B : Nat → Prop) (X : Ctx) : Prop where
  objs : ∀ id o, X.σ.get id = some o → ObjOk X id o
  injB : ∀ i j o o' b, X.σ.get i = some o → X.σ.get j = some o' → Blk X i o b → Blk X j o' b → i = j
  baseB : ∀ id o b, X.σ.get id = some o → Blk X id o b → B b
  out : ∀ b, X.w.heap.size ≤ b → ¬ X.F.any b
  vis : ∀ b, B b → ¬ X.F.any b
  marks : Marks B X

theorem Blk.top {X : Ctx} {id : Nat} {o : Obj} {p : Nat × Nat × Nat} (h : X.μ id = some p) : Blk X id o p.1 := ⟨p, h, .inl rfl⟩

theorem Inv.inj {B : Nat → Prop} {X : Ctx} (h : Inv B X) (i j : Nat) (o o' : Obj) (p q : Nat × Nat × Nat) (hi : X.σ.get i = some o) (hj : X.σ.get j = some o') (hp : X.μ i = some p) (hq : X.μ j = some q) (e : p.1 = q.1) : i = j :=
  h.injB i j o o' q.1 hi hj ⟨p, hp, .inl e⟩ (.top hq)
theorem Inv.base {B : Nat → Prop} {X : Ctx} (h : Inv B X) (id : Nat) (o : Obj) (p : Nat × Nat × Nat) (hg : X.σ.get id = some o) (hm : X.μ id = some p) : B p.1 := h.baseB id o p.1 hg (.top hm)
theorem Inv.hid {B : Nat → Prop} {X : Ctx} (h : Inv B X) : ∀ b, B b → ¬ X.F.hid b := fun b hb hh => h.vis b hb (.inr hh)
theorem Inv.own {B : Nat → Prop} {X : Ctx} (h : Inv B X) : ∀ b, B b → ¬ X.F b := fun b hb hh => h.vis b hb (.inl hh)

theorem enc_get {t : Ty} {x : t.den} {j : Nat} (hj : j < t.cells) : ∃ c, (enc t x)[j]? = some c := by
  have : (enc t x).length = t.cells := by
    clear hj
    induction t with
    | pair a b iha ihb => simp only [enc, List.length_append, iha, ihb, Ty.cells]
    | _ => rfl
  exact ⟨_, List.getElem?_eq_getElem (by omega)⟩

theorem hcell_of {w : World} {b base C : Nat} {cs : Array Value} {ty : TypeId} {t : Ty} {f i : Nat} {u : Value} (h : w.heap[b]? = some (.cells cs ty (0, 0))) (hc : cs[base + i * t.cells + f]? = some u) : hcell w (b, base, C) t f i = some u := by
  simp [hcell, World.cell?, h, hc]

/-- A row's own list, if it has room, is a block that is there. -/
theorem nest_row {X : Ctx} {id iv : Nat} {t : Ty} {f : Nat} {h : Option Nat} {l : List t.den} (hO : ObjOk X id (.nest iv t f h l)) {p : Nat × Nat × Nat} (hp : X.μ id = some p) {i : Nat} (hi : i < l.length) (hh : h ≠ some i) :
    ∃ c u, (enc t l[i])[f]? = some c ∧ hcell X.w p t f i = some u ∧ RepH X.w X.G c u := by
  obtain ⟨b, base, C, cs, ty, h1, h2, h3, h4, h5, hf, h6, h7, h8⟩ := hO
  rw [hp] at h1
  cases h1
  obtain ⟨c, hc⟩ := enc_get (x := l[i]) hf
  obtain ⟨u, k1, _, k2⟩ := h6 i l[i] (List.getElem?_eq_getElem hi) f c hc
  exact ⟨c, u, hc, hcell_of h2 k1, k2 rfl hh⟩

theorem RepH.lt {w : World} {G : Nat → Prop} {c : V} {u : Value} {b : Nat} (h : RepH w G c u) (hb : hblk u = some b) : b < w.heap.size := by
  obtain ⟨tin, l, A, cap, rfl, rfl, h⟩ := h
  rcases h with ⟨rfl, _⟩ | ⟨b', base, cs, ty, rfl, h1, h2, _⟩
  · cases A <;> simp [hblk] at hb
  · simp [hblk, h1] at hb
    subst hb
    exact (Array.getElem?_eq_some_iff.1 h2).1

theorem Inv.ltB {B : Nat → Prop} {X : Ctx} (h : Inv B X) {id : Nat} {o : Obj} {b : Nat} (hg : X.σ.get id = some o) (hb : Blk X id o b) : b < X.w.heap.size := by
  have h0 := h.objs id o hg
  obtain ⟨p, hm, hb⟩ := hb
  rcases hb with rfl | hb
  · cases o with
    | box cells =>
      obtain ⟨b, cs, ty, h1, h2, _⟩ := h0
      rw [hm] at h1; cases h1
      exact (Array.getElem?_eq_some_iff.1 h2).1
    | arr ep t l =>
      rcases h0 with ⟨h1, _⟩ | ⟨b, base, C, cs, ty, h1, h2, _⟩
      · rw [hm] at h1; cases h1
      · rw [hm] at h1; cases h1
        exact (Array.getElem?_eq_some_iff.1 h2).1
    | nest iv t f hh l =>
      obtain ⟨b, base, C, cs, ty, h1, h2, _⟩ := h0
      rw [hm] at h1; cases h1
      exact (Array.getElem?_eq_some_iff.1 h2).1
  · cases o with
    | box cells => exact hb.elim
    | arr ep t l => exact hb.elim
    | nest iv t f hh l =>
      obtain ⟨i, u, k1, k2, k3, k4⟩ := hb
      obtain ⟨c, u', _, k6, k7⟩ := nest_row h0 hm k1 k2
      rw [k3] at k6
      cases k6
      exact k7.lt k4

theorem Inv.lt {B : Nat → Prop} {X : Ctx} (h : Inv B X) {id : Nat} {o : Obj} {p : Nat × Nat × Nat} (hg : X.σ.get id = some o) (hm : X.μ id = some p) : p.1 < X.w.heap.size := h.ltB hg (.top hm)

theorem Inv.ground {B : Nat → Prop} {X : Ctx} (h : Inv B X) {e : Nat × _root_.Go.Obj} (he : e ∈ X.F.gnd.1) : X.T0 e.1 := by
  obtain ⟨h1, h2⟩ := h.marks.gnd e he
  exact ⟨(Array.getElem?_eq_some_iff.1 h1).1, fun id o hg hb => h2 (h.baseB id o _ hg hb)⟩

theorem Marks.evo {B : Nat → Prop} {X X' : Ctx} (hI : Inv B X) (hE : Evo X X') : Marks B X' := by
  refine ⟨fun e he => ?_, fun e he => ?_⟩
  · rw [hE.outer] at he
    obtain ⟨⟨cells, h1⟩, h2⟩ := hI.marks.pin e he
    obtain ⟨k1, k2⟩ := hE.box _ _ h1
    exact ⟨k1, k2.trans h2⟩
  · rw [hE.outer] at he
    obtain ⟨h1, h2⟩ := hI.marks.gnd e he
    exact ⟨(hE.still _ (hI.ground he)).2.trans h1, h2⟩

theorem hcell_same {w w' : World} {p : Nat × Nat × Nat} {t : Ty} {f i : Nat} (h : w'.heap[p.1]? = w.heap[p.1]?) : hcell w' p t f i = hcell w p t f i := cell_same h

/-- A thing's blocks, seen from elsewhere. -/
theorem Blk.move {X X' : Ctx} {id id' : Nat} {o : Obj} {b : Nat} (hmu : X'.μ id' = X.μ id) (hw : ∀ p, X.μ id = some p → X'.w.heap[p.1]? = X.w.heap[p.1]?) (h : Blk X' id' o b) : Blk X id o b := by
  obtain ⟨p, hm, h⟩ := h
  rw [hmu] at hm
  refine ⟨p, hm, ?_⟩
  rcases h with h | h
  · exact .inl h
  · refine .inr ?_
    cases o with
    | box _ => exact h
    | arr _ _ _ => exact h
    | nest iv t f hh l =>
      obtain ⟨i, u, k1, k2, k3, k4⟩ := h
      exact ⟨i, u, k1, k2, by rw [← hcell_same (hw p hm)]; exact k3, k4⟩

theorem RepH.keep {w w' : World} {G G' : Nat → Prop} (hG : ∀ b, G b → G' b ∧ w'.heap[b]? = w.heap[b]?) {c : V} {u : Value} (hb : ∀ b, hblk u = some b → w'.heap[b]? = w.heap[b]?) (h : RepH w G c u) : RepH w' G' c u := by
  obtain ⟨tin, l, A, cap, rfl, rfl, h⟩ := h
  refine ⟨tin, l, A, cap, rfl, rfl, ?_⟩
  rcases h with h | ⟨b, base, cs, ty, rfl, h1, h2, h3, h4, h5, h6⟩
  · exact .inl h
  · refine .inr ⟨b, base, cs, ty, rfl, h1, (hb b (by simp [hblk, h1])).trans h2, h3, h4, h5, fun i x hx => ?_⟩
    obtain ⟨row, r1, r2⟩ := h6 i x hx
    exact ⟨row, r1.keep hG, r2⟩

/-- A thing lies where it should, seen from elsewhere. -/
theorem ObjOk.move {X X' : Ctx} {id id' : Nat} {o : Obj} (hmu : X'.μ id' = X.μ id) (hw : ∀ b, Blk X id o b → X'.w.heap[b]? = X.w.heap[b]?) (hG : ∀ b, X.G b → X'.G b ∧ X'.w.heap[b]? = X.w.heap[b]?)
    (hbox : ∀ cells vs, o = .box cells → RepL X cells vs → RepL X' cells vs) (h : ObjOk X id o) : ObjOk X' id' o := by
  cases o with
  | box cells =>
    obtain ⟨b, cs, ty, h1, h2, h3⟩ := h
    exact ⟨b, cs, ty, hmu.trans h1, (hw b (Blk.top h1)).trans h2, hbox _ _ rfl h3⟩
  | arr ep t l =>
    rcases h with ⟨h1, h2⟩ | ⟨b, base, C, cs, ty, h1, h2, h3, h4, h5, h6⟩
    · exact .inl ⟨hmu.trans h1, h2⟩
    · refine .inr ⟨b, base, C, cs, ty, hmu.trans h1, (hw b (Blk.top h1)).trans h2, h3, h4, h5, fun i x hx => ?_⟩
      obtain ⟨row, hr, hc⟩ := h6 i x hx
      exact ⟨row, hr.keep hG, hc⟩
  | nest iv t f hh l =>
    obtain ⟨b, base, C, cs, ty, h1, h2, h3, h4, h5, hf, h6, h7, h8⟩ := h
    have e := hw b (Blk.top h1)
    refine ⟨b, base, C, cs, ty, hmu.trans h1, e.trans h2, h3, h4, h5, hf, fun i x hx j c hc => ?_, fun i j u v b' a1 a2 a3 a4 a5 a6 => ?_, fun i u a1 a2 a3 => ?_⟩
    · obtain ⟨u, k1, k2, k3⟩ := h6 i x hx j c hc
      refine ⟨u, k1, fun hj => (k2 hj).dat hG (enc_dat (List.mem_of_getElem? hc)), fun hj hi => (k3 hj hi).keep hG (fun b' hb' => ?_)⟩
      subst hj
      exact hw b' ⟨_, h1, .inr ⟨i, u, (List.getElem?_eq_some_iff.1 hx).1, hi, hcell_of h2 k1, hb'⟩⟩
    · rw [hcell_same e] at a5 a6
      exact h7 i j u v b' a1 a2 a3 a4 a5 a6
    · rw [hcell_same e] at a3
      exact h8 i u a1 a2 a3

theorem blk_old {X : Ctx} {B : Nat → Prop} (hI : Inv B X) {w' : World} (hb : ∀ b, b < X.w.heap.size → w'.heap[b]? = X.w.heap[b]?) {id : Nat} {o : Obj} {b : Nat} (hg : X.σ.get id = some o) (h : Blk ⟨w', X.σ, X.μ, X.F⟩ id o b) : Blk X id o b :=
  Blk.move (X := X) (X' := ⟨w', X.σ, X.μ, X.F⟩) rfl (fun p hm => hb _ (hI.lt hg hm)) h

/-- A step that changes only what is above the store: new blocks, draws. -/
theorem evo_of_blocks {X : Ctx} {B : Nat → Prop} (hI : Inv B X) {w' : World} (hos : w'.os = X.w.os) (ht : w'.tape = X.w.tape) (ho : w'.output = X.w.output) (hs : X.w.heap.size ≤ w'.heap.size)
    (hb : ∀ b, b < X.w.heap.size → w'.heap[b]? = X.w.heap[b]?) : Evo X { X with w := w' } ∧ Inv B { X with w := w' } := by
  have hblk : ∀ {id o b}, X.σ.get id = some o → Blk { X with w := w' } id o b → Blk X id o b := fun {id o b} hg h => Blk.move (X := X) (X' := { X with w := w' }) rfl (fun p hm => hb _ (hI.lt hg hm)) h
  have hE : Evo X { X with w := w' } :=
    ⟨hos, ht, ho, hs, rfl, fun b h => ⟨⟨Nat.lt_of_lt_of_le h.1 hs, fun id o hg hk => h.2 id o hg (hblk hg hk)⟩, hb b h.1⟩, fun _ cells h => ⟨⟨cells, h⟩, rfl⟩, fun _ ep _ l h => ⟨ep, l, h, Nat.le_refl _, fun _ => ⟨rfl, rfl⟩⟩,
      fun _ iv _ _ h l hg => ⟨iv, h, l, hg, Nat.le_refl _, rfl, rfl, fun _ => ⟨rfl, rfl, fun p hp => hb _ (hI.lt hg hp)⟩⟩⟩
  exact ⟨hE, ⟨fun id o hg => ObjOk.move (X := X) (X' := { X with w := w' }) (id' := id) rfl (fun b hk => hb b (hI.ltB hg hk)) hE.good (fun _ _ _ h => h.evo hE) (hI.objs id o hg),
    fun i j o o' b hi hj h1 h2 => hI.injB i j o o' b hi hj (hblk hi h1) (hblk hj h2), fun id o b hg h => hI.baseB id o b hg (hblk hg h), fun b hb => hI.out b (Nat.le_trans hs hb), hI.vis, .evo hI hE⟩⟩

end Go.Vm
