/-
  The engine, part 2: what the operations do to abstract values: a predicate transformer that the kernel can reckon.
-/
import Derived.Test.YtdplodofdfkndaaDoorVm1
namespace Go.Vm

def decBool : List V → Option (Bool × List V)
  | .bool b :: r => some (b, r)
  | .kb b :: r => some (b, r)
  | _ => none

def decStr : List V → Option (List UInt8 × List V)
  | .str l :: r => some (l, r)
  | _ => none

def decInt (k : IntKind) : List V → Option (Int × List V)
  | .int k' n :: r => if k' = k then some (n, r) else none
  | _ => none

def decSlice (t : Ty) : List V → Option (List t.den × List V)
  | .nils :: r => some ([], r)
  | .list kd t' l :: r => if kd = .tmp then none else if h : t' = t then some (h ▸ l, r) else none
  | _ => none

/-- The datum of abstract cells, and the cells behind it. -/
def dec : (t : Ty) → List V → Option (t.den × List V)
  | .bool, cs => decBool cs
  | .str, cs => decStr cs
  | .int k, cs => decInt k cs
  | .slice t, cs => decSlice t cs
  | .pair a b, cs =>
    match dec a cs with
    | some (x, r) => match dec b r with
      | some (y, r') => some ((x, y), r')
      | none => none
    | none => none

/-- The whole of the cells is one datum. -/
def decAll (t : Ty) (cs : List V) : Option t.den :=
  match dec t cs with
  | some (x, []) => some x
  | _ => none

/-- A constant of the program. -/
def cv1 : Value → V
  | .bool b => .kb b
  | .int k n => .int k n
  | .string s => .str s.data.toList
  | .pointer none => .nilp
  | .slice none 0 0 => .nils
  | .map none => .nilm
  | .nilFunc => .nilf
  | .nilIface => .nili
  | _ => .any

def cv : Value → V
  | .agg cs => .agg (cs.toList.map cv1)
  | .func (.func g) vs ws => if vs.size = 0 ∧ ws.size = 0 then .fn (.func g) [] [] else .any
  | v => cv1 v

/-- Within an integer kind. -/
def InK (k : IntKind) (n : Int) : Prop :=
  match k with
  | .i64 => -9223372036854775808 ≤ n ∧ n ≤ 9223372036854775807
  | .u64 => 0 ≤ n ∧ n ≤ 18446744073709551615
  | .u8 => 0 ≤ n ∧ n ≤ 255
  | .i32 => -2147483648 ≤ n ∧ n ≤ 2147483647
  | .u32 => 0 ≤ n ∧ n ≤ 4294967295
  | .i8 => -128 ≤ n ∧ n ≤ 127
  | .u16 => 0 ≤ n ∧ n ≤ 65535
  | .i16 => -32768 ≤ n ∧ n ≤ 32767

/-- How a value is read at a head: what may turn. 'slc id t': a slice over an array of its own, named anew. -/
inductive Pat where
  | any | bool | str
  | int (k : IntKind)
  | list (kd : LK) (t : Ty)
  | slc (id : Nat) (t : Ty)
  | nst (id : Nat) (t : Ty) (f : Nat)

def Pat.den : Pat → Type
  | .any => Unit
  | .bool => Bool
  | .str => List UInt8
  | .int _ => Int
  | .list _ t => List t.den
  | .slc _ t => List t.den
  | .nst _ t _ => List t.den

/-- What the patterns of a row are read as. -/
def Xs : List Pat → Type
  | [] => Unit
  | p :: r => p.den × Xs r

structure St where
  s : List V
  σ : Store

/-- A head: the slots and boxes that turn, the things that are kept, what holds, what every round lowers. -/
structure Ann where
  slots : List (Nat × Pat)
  boxes : List (Nat × List Pat) := []
  keep : List Nat := []
  inv : St → Xs (slots.map (·.2) ++ boxes.flatMap (·.2)) → Prop
  measure : St → Xs (slots.map (·.2) ++ boxes.flatMap (·.2)) → Nat := fun _ _ => 0

structure Env where
  P : Program
  ty : TypeId → Option Ty := fun _ => none
  specs : FuncId → List V → Option (Prop × V) := fun _ _ => none
  upd : FuncId → List V → Store → Option (Prop × V × Store) := fun _ _ _ => none
  ext : FuncId → List V → Option (Prop × V) := fun _ _ => none
  wrap : Nat → Bool := fun _ => false
  asArr : Nat → Bool := fun _ => false
  asNest : Nat → Option Nat := fun _ => none
  asRows : Nat → Bool := fun _ => false
  zspecs : FuncId → List V → Option (Prop × V) := fun _ _ => none
  frz : Nat → Bool := fun _ => false
  heads : Nat → Option Ann := fun _ => none
  joins : Nat → Option Ann := fun _ => none
  pins : List Nat := []

abbrev K := V → Store → Prop

def size? (P : Program) (t : TypeId) : Option Nat := (P.info? t).map (·.size)

def isAgg? (P : Program) (t : TypeId) : Option Bool :=
  match P.underlying t with
  | some (.struct _) | some (.array _ _) => some true
  | some _ => some false
  | none => none

/-- A value of cells. -/
def ofCells (agg : Bool) (cs : List V) : Option V :=
  if agg then some (.agg cs) else match cs with
  | [c] => some c
  | _ => none

def cut (cells : List V) (off n : Nat) : Option (List V) := if off + n ≤ cells.length then some ((cells.drop off).take n) else none

/-- A value's cells. -/
def cellsV : V → List V
  | .agg cs => cs
  | v => [v]

def loadV (P : Program) (t : TypeId) (a : V) (σ : Store) (k : K) : Prop :=
  match isAgg? P t, size? P t with
  | some g, some n =>
    match a with
    | .fptr cells => match (cut cells 0 n).bind (ofCells g) with
      | some v => k v σ
      | none => False
    | .ptr id off => match σ.get id with
      | some (.box cells) => match (cut cells off n).bind (ofCells g) with
        | some v => k v σ
        | none => False
      | _ => False
    | .eptr id ep i off => match σ.get id with
      | some (.arr ep' t' l) => if ep = ep' then
          i < l.length ∧ ∀ x : t'.den, nth l i = some x → match (cut (enc t' x) off n).bind (ofCells g) with
            | some v => k v σ
            | none => False
        else False
      | _ => False
    | .nptr id i off => match σ.get id with
      | some (.nest iv t' f none l) => i < l.length ∧ ∀ x : t'.den, nth l i = some x → match (cut ((enc t' x).set f (.nin id iv i)) off n).bind (ofCells g) with
          | some v => k v σ
          | none => False
      | _ => False
    | _ => False
  | _, _ => False

def notAny : V → Bool
  | .any | .nin _ _ _ => false
  | _ => true

/-- Cells with some written over. -/
def over (cells : List V) (off : Nat) (new : List V) : List V := cells.take off ++ new ++ cells.drop (off + new.length)

def oneV : V → Bool
  | .agg _ | .tuple _ | .any | .olist _ _ | .optr _ | .nin _ _ _ => false
  | _ => true

/-- The row that is open. -/
def holeIs (h : Option Nat) (i : Nat) : Prop :=
  match h with
  | none => True
  | some j => i = j

/-- A row of a nest is written over. -/
def storeN (id i off n : Nat) (new : List V) (σ : Store) (k : K) : Prop :=
  match σ.get id with
  | some (.nest iv t f h l) => if off + n ≤ t.cells then
      if off ≤ f ∧ f < off + n then
        match new[f - off]? with
        | some .nils => (i < l.length ∧ holeIs h i) ∧ ∀ y : t.den, nth l i = some y → match decAll t (over (enc t y) off new) with
          | some z => k .any ((id, .nest (iv + 1) t f none (List.set l i z)) :: σ)
          | none => False
        | some (.slc id2 ep none) => match σ.get id2 with
          | some (.arr ep2 tin l2) => if ep = ep2 then (i < l.length ∧ holeIs h i) ∧ ∀ y : t.den, nth l i = some y → match decAll t ((over (enc t y) off new).set f (.list .part tin l2)) with
              | some z => k .any ((id2, .arr (ep2 + 1) tin []) :: (id, .nest (iv + 2) t f none (List.set l i z)) :: (id, .nest (iv + 1) t f (some i) (List.set l i z)) :: σ)
              | none => False
            else False
          | _ => False
        | _ => False
      else match h with
        | none => i < l.length ∧ ∀ y : t.den, nth l i = some y → match decAll t (over (enc t y) off new) with
          | some z => k .any ((id, .nest (iv + 1) t f none (List.set l i z)) :: σ)
          | none => False
        | some _ => False
    else False
  | _ => False

def storeV (P : Program) (t : TypeId) (a x : V) (σ : Store) (k : K) : Prop :=
  match size? P t with
  | some n => if (cellsV x).length = n ∧ (cellsV x).all oneV then
      match a with
      | .ptr id off => match σ.get id with
        | some (.box cells) => if off + n ≤ cells.length then k .any ((id, .box (over cells off (cellsV x))) :: σ) else False
        | _ => False
      | .eptr id ep i off => match σ.get id with
        | some (.arr ep' t' l) => if ep = ep' ∧ off + n ≤ t'.cells then
            i < l.length ∧ ∀ y : t'.den, nth l i = some y → match decAll t' (over (enc t' y) off (cellsV x)) with
              | some z => k .any ((id, .arr ep' t' (List.set l i z)) :: σ)
              | none => False
          else False
        | _ => False
      | .nptr id i off => storeN id i off n (cellsV x) σ k
      | _ => False
    else False
  | none => False

def isFresh (σ : Store) (id : Nat) : Bool := match σ.get id with
  | none => true
  | some _ => false

def allocV (P : Program) (t : TypeId) (id : Nat) (σ : Store) (k : K) : Prop :=
  match P.info? t with
  | some i => match i.zero with
    | some z => if isFresh σ id then k (.ptr id 0) ((id, .box (cellsV (cv z))) :: σ) else False
    | none => False
  | none => False

def boxV (id : Nat) (v : V) (σ : Store) (k : K) : Prop :=
  if isFresh σ id = true ∧ notAny v = true then k (.ptr id 0) ((id, .box (cellsV v)) :: σ) else False

/-- Parts laid over cells. -/
def fillV (place : Nat → Option (Nat × Nat)) (cells : List V) : List (Nat × V) → Option (List V)
  | [] => some cells
  | (i, v) :: rest =>
    match place i with
    | none => none
    | some (off, size) => if (cellsV v).length = size ∧ off + size ≤ cells.length ∧ notAny v = true then fillV place (over cells off (cellsV v)) rest else none

def buildV (P : Program) (t : TypeId) (parts : List (Nat × V)) (σ : Store) (k : K) : Prop :=
  match P.info? t, P.underlying t with
  | some i, some (.struct fs) => match i.zero, fs.toList.mapM (fun f => (P.info? f.type).map fun i => (f.offset, i.size)) with
    | some z, some places => match fillV (places.toArray[·]?) (cellsV (cv z)) parts with
      | some cells => k (.agg cells) σ
      | none => False
    | _, _ => False
  | some i, some (.array _ e) => match i.zero, P.info? e with
    | some z, some ie => match fillV (fun i => some (i * ie.size, ie.size)) (cellsV (cv z)) parts with
      | some cells => k (.agg cells) σ
      | none => False
    | _, _ => False
  | _, _ => False

/-- A slice literal of rows of values. -/
def buildRowsV (E : Env) (t : TypeId) (n : Nat) (parts : List (Nat × V)) (σ : Store) (k : K) : Prop :=
  match E.P.underlying t with
  | some (.slice e) => match E.P.info? e with
    | some i => if 0 < n * i.size ∧ n * i.size ≤ 16777216 ∧ (i.zero.isSome = true) then
        match fillV (fun j => some (j * i.size, i.size)) (List.replicate (n * i.size) .any) parts with
        | some cells => k (.rows i.size cells) σ
        | none => False
      else False
    | none => False
  | _ => False

/-- The data of a slice's parts, in order. -/
def partsD (t : Ty) : Nat → List (Nat × V) → Option (List t.den)
  | _, [] => some []
  | i, (j, v) :: rest => if i = j then
      if notAny v then
        match decAll t (cellsV v), partsD t (i + 1) rest with
        | some x, some xs => some (x :: xs)
        | _, _ => none
      else none
    else none

def buildSliceV (E : Env) (t : TypeId) (n : Nat) (parts : List (Nat × V)) (dst : Nat) (σ : Store) (k : K) : Prop :=
  if E.asRows dst then buildRowsV E t n parts σ k else
  match E.P.underlying t with
  | some (.slice e) => match E.P.info? e, E.ty e with
    | some i, some ty => if i.size = ty.cells ∧ parts.length = n ∧ n * i.size ≤ 16777216 ∧ (i.zero.isSome = true) then
        match partsD ty 0 parts with
        | some xs => if E.asArr dst then (if isFresh σ dst then k (.slc dst 0 none) ((dst, .arr 0 ty xs) :: σ) else False) else k (.list .full ty xs) σ
        | none => False
      else False
    | _, _ => False
  | _ => False

def nilCheckV (x : V) (σ : Store) (k : K) : Prop :=
  match x with
  | .ptr id off => k (.ptr id off) σ
  | .fptr cells => k (.fptr cells) σ
  | .eptr id ep i off => k (.eptr id ep i off) σ
  | .nptr id i off => k (.nptr id i off) σ
  | .fn (.func f) a b => k (.fn (.func f) a b) σ
  | _ => False

/-- A number that an operation makes. -/
def num (wr : Bool) (kd : IntKind) (n : Int) (σ : Store) (k : K) : Prop :=
  if wr then k (.int kd (kd.wrap n)) σ else InK kd n ∧ k (.int kd n) σ

def boolOf : V → Option Bool
  | .kb b => some b
  | .bool b => some b
  | _ => none

/-- Is 'nil' asked of what is, or isn't, nil? -/
def nilEq (P : Program) (t : TypeId) : V → V → Option Bool
  | .nilp, .nilp => match P.underlying t with
    | some (.pointer _) => some true
    | _ => none
  | .nilf, .nilf => match P.underlying t with
    | some (.func _ _ _) => some true
    | _ => none
  | .ptr _ _, .nilp => match P.underlying t with
    | some (.pointer _) => some false
    | _ => none
  | .fptr _, .nilp => match P.underlying t with
    | some (.pointer _) => some false
    | _ => none
  | .eptr _ _ _ _, .nilp => match P.underlying t with
    | some (.pointer _) => some false
    | _ => none
  | .fn _ _ _, .nilf => match P.underlying t with
    | some (.func _ _ _) => some false
    | _ => none
  | _, _ => none

mutual
/-- Are two plain values of a type the same? -/
def eqT (P : Program) : Nat → TypeId → V → V → Option Bool
  | 0, _, _, _ => none
  | n + 1, t, x, y =>
    match P.underlying t with
    | some (.int kd) => match x, y with
      | .int k a, .int k' b => if k = kd ∧ k' = kd then some (decide (a = b)) else none
      | _, _ => none
    | some .bool => match boolOf x, boolOf y with
      | some a, some b => some (a == b)
      | _, _ => none
    | some .string => match x, y with
      | .str a, .str b => some (decide (a = b))
      | _, _ => none
    | some (.struct fs) => match x, y with
      | .agg xs, .agg ys => if P.stoodInHeld t = false then eqFieldsV P n xs ys fs.toList else none
      | _, _ => none
    | some (.array len e) => match x, y with
      | .agg xs, .agg ys => if (P.info? e).isSome then eqItemsV P n e xs ys (List.range len) else none
      | _, _ => none
    | _ => none
def eqItemsV (P : Program) : Nat → TypeId → List V → List V → List Nat → Option Bool
  | 0, _, _, _, _ => none
  | _ + 1, _, _, _, [] => some true
  | n + 1, e, xs, ys, j :: js =>
    match isAgg? P e, size? P e with
    | some g, some sz => match (cut xs (j * sz) sz).bind (ofCells g), (cut ys (j * sz) sz).bind (ofCells g) with
      | some x, some y => match eqT P n e x y, eqItemsV P n e xs ys js with
        | some b, some c => some (b && c)
        | _, _ => none
      | _, _ => none
    | _, _ => none
def eqFieldsV (P : Program) : Nat → List V → List V → List Field → Option Bool
  | 0, _, _, _ => none
  | _ + 1, _, _, [] => some true
  | n + 1, xs, ys, f :: fs =>
    if f.name ≠ "_" then
      match isAgg? P f.type, size? P f.type with
      | some g, some sz => match (cut xs f.offset sz).bind (ofCells g), (cut ys f.offset sz).bind (ofCells g) with
        | some x, some y => match eqT P n f.type x y, eqFieldsV P n xs ys fs with
          | some b, some c => some (b && c)
          | _, _ => none
        | _, _ => none
      | _, _ => none
    else none
end

def intBin (wr : Bool) (op : BinOp) (kd : IntKind) (a b : Int) (σ : Store) (k : K) : Prop :=
  match op with
  | .add => num wr kd (a + b) σ k
  | .sub => num wr kd (a - b) σ k
  | .mul => num wr kd (a * b) σ k
  | .quo => b ≠ 0 ∧ num wr kd (a.tdiv b) σ k
  | .rem => b ≠ 0 ∧ k (.int kd (a.tmod b)) σ
  | .eql => k (.bool (decide (a = b))) σ
  | .neq => k (.bool (!decide (a = b))) σ
  | .lss => k (.bool (decide (a < b))) σ
  | .leq => k (.bool (decide (a ≤ b))) σ
  | .gtr => k (.bool (decide (b < a))) σ
  | .geq => k (.bool (decide (b ≤ a))) σ
  | _ => False

def strBin (op : BinOp) (a b : List UInt8) (σ : Store) (k : K) : Prop :=
  match op with
  | .eql => k (.bool (decide (a = b))) σ
  | .neq => k (.bool (!decide (a = b))) σ
  | .add => (a.length + b.length ≤ 9223372036854775807) ∧ k (.str (a ++ b)) σ
  | .lss => k (.bool (Op.bytesLess a b)) σ
  | _ => False

def eqBin (op : BinOp) (c : Option Bool) (known : Bool) (σ : Store) (k : K) : Prop :=
  match op, c, known with
  | .eql, some c, true => k (.kb c) σ
  | .neq, some c, true => k (.kb (!c)) σ
  | .eql, some c, false => k (.bool c) σ
  | .neq, some c, false => k (.bool (!c)) σ
  | _, _, _ => False

/-- Is a slice nil? What is known of the answer. -/
def nilQ (P : Program) (t : TypeId) (σ : Store) (x y : V) : Option (Bool → Prop) :=
  match P.underlying t, y with
  | some (.slice _), .nils => match x with
    | .nils => some fun b => b = true
    | .list _ _ l => some fun b => b = true → l.length = 0
    | .slc id ep none => match σ.get id with
      | some (.arr ep' _ l) => if ep = ep' then some fun b => b = true → l.length = 0 else none
      | _ => none
    | _ => none
  | _, _ => none

def binV (E : Env) (op : BinOp) (t : TypeId) (x y : V) (dst : Nat) (σ : Store) (k : K) : Prop :=
  match x, y with
  | .int kx a, .int ky b => match op with
    | .shr => (0 ≤ b ∧ b ≤ kx.bits) ∧ k (.int kx (a / ((2 ^ b.toNat : Nat) : Int))) σ
    | .shl => (0 ≤ b ∧ b ≤ kx.bits) ∧ k (.int kx (kx.wrap (a * ((2 ^ b.toNat : Nat) : Int)))) σ
    | _ => if kx = ky then intBin (E.wrap dst) op kx a b σ k else False
  | .str a, .str b => strBin op a b σ k
  | .agg xs, .agg ys => if E.P.eqGuardType E.P.depth t = false then eqBin op (eqT E.P 60 t (.agg xs) (.agg ys)) false σ k else False
  | .kb a, y => match E.P.underlying t, boolOf y with
    | some .bool, some b => eqBin op (some (a == b)) false σ k
    | _, _ => False
  | .bool a, y => match E.P.underlying t, boolOf y with
    | some .bool, some b => eqBin op (some (a == b)) false σ k
    | _, _ => False
  | x, y => match nilQ E.P t σ x y with
    | some p => (match op with
      | .eql => k (.bq p) σ
      | .neq => k (.bq fun b => p (!b)) σ
      | _ => False)
    | none => eqBin op (nilEq E.P t x y) true σ k

/-- A value that may be an error, held against the literal nil. -/
def errQ (P : Program) (t : TypeId) (yo : Operand) (x y : V) : Option Bool :=
  match yo, x, y, P.underlying t with
  | .const .nilIface, .err b, .nili, some (.interface _) => some b
  | _, _, _, _ => none

def binO (E : Env) (op : BinOp) (t : TypeId) (yo : Operand) (x y : V) (dst : Nat) (σ : Store) (k : K) : Prop :=
  match errQ E.P t yo x y with
  | some b => eqBin op (some (!b)) false σ k
  | none => binV E op t x y dst σ k

def unV (E : Env) (op : UnOp) (x : V) (dst : Nat) (σ : Store) (k : K) : Prop :=
  match op, x with
  | .neg, .int kd n => num (E.wrap dst) kd (0 - n) σ k
  | .not, .kb b => k (.kb (!b)) σ
  | .not, .bool b => k (.bool (!b)) σ
  | .not, .bq p => k (.bq fun b => p (!b)) σ
  | _, _ => False

def convV (E : Env) (s d : TypeId) (x : V) (dst : Nat) (σ : Store) (k : K) : Prop :=
  match E.P.underlying s, E.P.underlying d, x with
  | some (.int _), some (.int kd), .int _ n => num (E.wrap dst) kd n σ k
  | some .string, some .string, .str l => k (.str l) σ
  | some (.slice e), some .string, .list _ (.int .u8) l => match E.P.underlying e with
    | some (.int .u8) => k (.str ((l : List Int).map fun n => UInt8.ofNat n.toNat)) σ
    | _ => False
  | _, _, _ => False

/-- A bound of a slice expression, if it is there. -/
def boundOf : Option V → Option (Option Int)
  | none => some none
  | some (.int _ n) => some (some n)
  | _ => none

/-- A piece of a list. -/
def piece {α : Type} (l : List α) (lo hi : Option Int) : List α :=
  match lo, hi with
  | none, none => l
  | none, some h => l.take h.toNat
  | some a, none => l.drop a.toNat
  | some a, some h => (l.take h.toNat).drop a.toNat

/-- The bounds of a piece of so many. -/
def boundsOk (n : Nat) (lo hi : Option Int) : Prop :=
  match lo, hi with
  | none, none => True
  | none, some h => 0 ≤ h ∧ h ≤ n
  | some a, none => 0 ≤ a ∧ a ≤ n
  | some a, some h => 0 ≤ a ∧ a ≤ h ∧ h ≤ n

def sliceV (E : Env) (t : TypeId) (x : V) (lo hi mx : Option V) (σ : Store) (k : K) : Prop :=
  match mx, boundOf lo, boundOf hi with
  | none, some lo, some hi =>
    match E.P.underlying t with
    | some .string => match x with
      | .str l => boundsOk l.length lo hi ∧ k (.str (piece l lo hi)) σ
      | _ => False
    | some (.slice e) => match size? E.P e with
      | some sz => match x with
        | .list kd t' l => if sz = t'.cells then boundsOk l.length lo hi ∧ k (.list (if kd = .tmp then .tmp else .part) t' (piece l lo hi)) σ else False
        | .nils => match lo, hi with
          | none, none => k .nils σ
          | _, _ => False
        | .slc id ep none => match σ.get id with
          | some (.arr ep' t' l) => if ep = ep' ∧ sz = t'.cells then
              match lo, hi with
              | none, none => k (.slc id ep none) σ
              | none, some h => (0 ≤ h ∧ h ≤ l.length) ∧ k (.slc id ep (some (0, h.toNat))) σ
              | some a, none => (0 ≤ a ∧ a ≤ l.length) ∧ k (.slc id ep (some (a.toNat, l.length - a.toNat))) σ
              | some a, some h => (0 ≤ a ∧ a ≤ h ∧ h ≤ l.length) ∧ k (.slc id ep (some (a.toNat, h.toNat - a.toNat))) σ
            else False
          | _ => False
        | .slc id ep (some (off, m)) => match σ.get id with
          | some (.arr ep' t' _) => if ep = ep' ∧ sz = t'.cells then
              match lo, hi with
              | none, none => k (.slc id ep (some (off, m))) σ
              | none, some h => (0 ≤ h ∧ h ≤ m) ∧ k (.slc id ep (some (off, h.toNat))) σ
              | some a, none => (0 ≤ a ∧ a ≤ m) ∧ k (.slc id ep (some (off + a.toNat, m - a.toNat))) σ
              | some a, some h => (0 ≤ a ∧ a ≤ h ∧ h ≤ m) ∧ k (.slc id ep (some (off + a.toNat, h.toNat - a.toNat))) σ
            else False
          | _ => False
        | _ => False
      | none => False
    | _ => False
  | _, _, _ => False

def fieldAddrV (P : Program) (t : TypeId) (x : V) (f : Nat) (σ : Store) (k : K) : Prop :=
  match P.underlying t with
  | some (.struct fs) => match fs[f]? with
    | some fd => match size? P fd.type with
      | some (_ + 1) => match x with
        | .ptr id off => k (.ptr id (off + fd.offset)) σ
        | .fptr cells => k (.fptr (cells.drop fd.offset)) σ
        | .eptr id ep i off => k (.eptr id ep i (off + fd.offset)) σ
        | .nptr id i off => k (.nptr id i (off + fd.offset)) σ
        | _ => False
      | _ => False
    | none => False
  | _ => False

def fieldV (P : Program) (t : TypeId) (x : V) (f : Nat) (σ : Store) (k : K) : Prop :=
  match P.underlying t with
  | some (.struct fs) => match fs[f]? with
    | some fd => match isAgg? P fd.type, size? P fd.type, x with
      | some g, some n, .agg cs => match (cut cs fd.offset n).bind (ofCells g) with
        | some v => k v σ
        | none => False
      | _, _, _ => False
    | none => False
  | _ => False

def indexAddrV (E : Env) (t : TypeId) (x i : V) (σ : Store) (k : K) : Prop :=
  match i with
  | .int _ n =>
    match E.P.underlying t with
    | some (.slice e) => match size? E.P e with
      | some sz => match x with
        | .list _ t' l => if sz = t'.cells then (0 ≤ n ∧ n < l.length) ∧ ∀ x : t'.den, nth l n.toNat = some x → k (.fptr (enc t' x)) σ else False
        | .slc id ep none => match σ.get id with
          | some (.arr ep' t' l) => if ep = ep' ∧ sz = t'.cells then (0 ≤ n ∧ n < l.length) ∧ k (.eptr id ep n.toNat 0) σ else False
          | _ => False
        | .slc id ep (some (off, m)) => match σ.get id with
          | some (.arr ep' t' _) => if ep = ep' ∧ sz = t'.cells then (0 ≤ n ∧ n < m) ∧ k (.eptr id ep (off + n.toNat) 0) σ else False
          | _ => False
        | .rows n' cells => if sz = n' ∧ 0 < n' then (0 ≤ n ∧ n < ((cells.length / n' : Nat) : Int)) ∧ (List.range (cells.length / n')).foldr (fun (i : Nat) (acc : Prop) => (n = (i : Int) → k (.fptr (cells.drop (i * sz))) σ) ∧ acc) True else False
        | .nslc id => match σ.get id with
          | some (.nest _ t' _ _ l) => if sz = t'.cells then (0 ≤ n ∧ n < l.length) ∧ k (.nptr id n.toNat 0) σ else False
          | _ => False
        | _ => False
      | none => False
    | some (.array len e) => match size? E.P e, n with
      | some sz, .ofNat m => if m < len then
          match x with
          | .ptr id off => k (.ptr id (off + m * sz)) σ
          | .fptr cells => k (.fptr (cells.drop (m * sz))) σ
          | _ => False
        else False
      | _, _ => False
    | _ => False
  | _ => False

def indexV (E : Env) (t : TypeId) (x i : V) (σ : Store) (k : K) : Prop :=
  match i, E.P.underlying t, x with
  | .int _ n, some .string, .str l => (0 ≤ n ∧ n < l.length) ∧ ∀ c : UInt8, nth l n.toNat = some c → k (.int .u8 c.toNat) σ
  | _, _, _ => False

def lenV (E : Env) (t : TypeId) (x : V) (σ : Store) (k : K) : Prop :=
  match E.P.underlying t, x with
  | some .string, .str l => k (.int .i64 l.length) σ
  | some (.slice _), .nils => k (.int .i64 0) σ
  | some (.slice _), .list _ _ l => k (.int .i64 l.length) σ
  | some (.slice _), .slc id ep none => match σ.get id with
    | some (.arr ep' _ l) => if ep = ep' then k (.int .i64 l.length) σ else False
    | _ => False
  | some (.slice _), .slc id ep (some (_, m)) => match σ.get id with
    | some (.arr ep' _ _) => if ep = ep' then k (.int .i64 m) σ else False
    | _ => False
  | some (.slice _), .rows n cells => if 0 < n then k (.int .i64 ((cells.length / n : Nat) : Int)) σ else False
  | some (.slice _), .nslc id => match σ.get id with
    | some (.nest _ _ _ _ l) => k (.int .i64 l.length) σ
    | _ => False
  | some (.slice _), .nin id iv i => match σ.get id with
    | some (.nest iv' t f none l) => if iv = iv' then i < l.length ∧ ∀ y : t.den, nth l i = some y → match (enc t y)[f]? with
        | some (.list .part _ l2) => k (.int .i64 l2.length) σ
        | _ => False
      else False
    | _ => False
  | _, _ => False

/-- What a slice holds, as a list of data of a type. -/
def segV (ty : Ty) (σ : Store) : V → Option (List ty.den)
  | .nils => some []
  | .list _ t l => if h : t = ty then some (h ▸ l) else none
  | .slc id ep rng => match σ.get id with
    | some (.arr ep' t l) => if ep = ep' then
        if h : t = ty then
          match rng with
          | none => some (h ▸ l)
          | some (off, m) => some (((h ▸ l : List ty.den).drop off).take m)
        else none
      else none
    | _ => none
  | _ => none

def appendV (E : Env) (t : TypeId) (d x : V) (dst : Nat) (σ : Store) (k : K) : Prop :=
  match E.P.underlying t with
  | some (.slice e) => match E.P.info? e, E.ty e with
    | some i, some ty => if i.size = ty.cells ∧ (i.zero.any fun z => z.cells.size == i.size) then
        match segV ty σ x with
        | some m =>
          match d with
          | .nils => if isFresh σ dst then (m.length * i.bytes ≤ 140737488355328 ∧ m.length ≤ 4611686018427387904) ∧ k (.slc dst 0 none) ((dst, .arr 0 ty m) :: σ) else False
          | .list .full t' l => if h : t' = ty then
              if isFresh σ dst then ((l.length + m.length) * i.bytes ≤ 140737488355328 ∧ l.length + m.length ≤ 4611686018427387904 ∧ (0 < m.length ∨ l.length = 0)) ∧
                k (.slc dst 0 none) ((dst, .arr 0 ty ((h ▸ l : List ty.den) ++ m)) :: σ) else False
            else False
          | .slc id ep none => match σ.get id with
            | some (.arr ep' t' l) => if h : t' = ty then
                if ep = ep' then ((l.length + m.length) * i.bytes ≤ 140737488355328 ∧ l.length + m.length ≤ 4611686018427387904) ∧
                  k (.slc id (ep + 1) none) ((id, .arr (ep + 1) ty ((h ▸ l : List ty.den) ++ m)) :: σ) else False
              else False
            | _ => False
          | .slc id ep (some (off, n)) => match σ.get id with
            | some (.arr ep' t' l) => if h : t' = ty then
                if ep = ep' then (off + n = l.length ∧ (n + m.length) * i.bytes ≤ 140737488355328 ∧ n + m.length ≤ 4611686018427387904) ∧
                  k (.slc id (ep + 1) none) ((id, .arr (ep + 1) ty ((h ▸ l : List ty.den).drop off ++ m)) :: σ) else False
              else False
            | _ => False
          | .nin id iv j => match σ.get id with
            | some (.nest iv' t' f none l) => if iv = iv' ∧ isFresh σ dst = true then
                j < l.length ∧ ∀ y : t'.den, nth l j = some y → match (enc t' y)[f]? with
                  | some (.list .part tin li) => if h : tin = ty then ((List.length li + m.length) * i.bytes ≤ 140737488355328 ∧ List.length li + m.length ≤ 4611686018427387904) ∧
                      k (.slc dst 1 none) ((dst, .arr 1 ty ((h ▸ li : List ty.den) ++ m)) :: (dst, .arr 0 tin li) :: (id, .nest (iv + 1) t' f (some j) l) :: σ) else False
                  | _ => False
              else False
            | _ => False
          | _ => False
        | none => False
      else False
    | _, _ => False
  | _ => False

def makeSliceV (E : Env) (t : TypeId) (n c : V) (dst : Nat) (σ : Store) (k : K) : Prop :=
  match E.P.underlying t, n, c with
  | some (.slice e), .int _ a, .int _ b => match E.P.info? e, E.ty e with
    | some i, some ty => if i.size = ty.cells ∧ isFresh σ dst then
        match i.zero with
        | some z => match decAll ty (cellsV (cv z)) with
          | some x => (0 ≤ a ∧ a ≤ b ∧ b * i.bytes ≤ 140737488355328 ∧ b ≤ 4611686018427387904) ∧
            match E.asNest dst with
            | none => k (.slc dst 0 none) ((dst, .arr 0 ty (List.replicate a.toNat x)) :: σ)
            | some f => match (cellsV (cv z))[f]? with
              | some .nils => k (.nslc dst) ((dst, .nest 0 ty f none (List.replicate a.toNat x)) :: σ)
              | _ => False
          | none => False
        | none => False
      else False
    | _, _ => False
  | _, _, _ => False

mutual
/-- A value as a callee may see it that writes nothing that was there. -/
def snap (σ : Store) : Nat → V → Option V
  | 0, _ => none
  | n + 1, v => match v with
    | .ptr id off => match σ.get id with
      | some (.box cells) => if off ≤ cells.length then (snapL σ n (cells.drop off)).map .fptr else none
      | _ => none
    | .slc id ep rng => match σ.get id with
      | some (.arr ep' t l) => if ep = ep' then
          match rng with
          | none => some (.list .tmp t l)
          | some (off, m) => some (.list .tmp t ((List.drop off l).take m))
        else none
      | _ => none
    | .eptr .. => none
    | .olist .. => none
    | .optr _ => none
    | .fptr cells => (snapL σ n cells).map .fptr
    | .fn f a b => match snapL σ n a, snapL σ n b with
      | some a', some b' => some (.fn f a' b')
      | _, _ => none
    | .agg cells => (snapL σ n cells).map .agg
    | .tuple cells => (snapL σ n cells).map .tuple
    | .iface t x => (snap σ n x).map (.iface t)
    | .nslc _ => none
    | .nptr _ _ _ => none
    | .nin _ _ _ => none
    | .rows m cells => (snapL σ n cells).map (.rows m)
    | v => some v
def snapL (σ : Store) : Nat → List V → Option (List V)
  | 0, _ => none
  | _ + 1, [] => some []
  | n + 1, v :: r => match snap σ n v, snapL σ n r with
    | some v', some r' => some (v' :: r')
    | _, _ => none
end

mutual
/-- What a function hands back, seen without its store: its arrays and variables as values that are handed over. -/
def own (σ : Store) : Nat → V → Option V
  | 0, _ => none
  | n + 1, v => match v with
    | .slc id ep none => match σ.get id with
      | some (.arr ep' t l) => if ep = ep' then some (.olist t l) else none
      | _ => none
    | .ptr id 0 => match σ.get id with
      | some (.box cells) => (ownL σ n cells).map .optr
      | _ => none
    | .list kd t l => if kd = .tmp then none else some (.list kd t l)
    | .rows m cells => (ownL σ n cells).map (.rows m)
    | .agg cells => (ownL σ n cells).map .agg
    | .tuple cells => (ownL σ n cells).map .tuple
    | .fn g a b => match ownL σ n a, ownL σ n b with
      | some a', some b' => some (.fn g a' b')
      | _, _ => none
    | .any => some .any
    | .kb b => some (.kb b)
    | .bool b => some (.bool b)
    | .int k m => some (.int k m)
    | .str l => some (.str l)
    | .nilp => some .nilp
    | .nils => some .nils
    | .nilm => some .nilm
    | .nilf => some .nilf
    | .nili => some .nili
    | .err b => some (.err b)
    | _ => none
def ownL (σ : Store) : Nat → List V → Option (List V)
  | 0, _ => none
  | _ + 1, [] => some []
  | n + 1, v :: r => match own σ n v, ownL σ n r with
    | some v', some r' => some (v' :: r')
    | _, _ => none
end

mutual
/-- The things of the store that are handed back, in order. -/
def ids (σ : Store) : Nat → V → List Nat
  | 0, _ => []
  | n + 1, v => match v with
    | .slc id _ none => [id]
    | .nslc id => [id]
    | .ptr id 0 => match σ.get id with
      | some (.box cells) => id :: idsL σ n cells
      | _ => []
    | .agg cells => idsL σ n cells
    | .tuple cells => idsL σ n cells
    | .fn _ a b => idsL σ n a ++ idsL σ n b
    | _ => []
def idsL (σ : Store) : Nat → List V → List Nat
  | 0, _ => []
  | _ + 1, [] => []
  | n + 1, v :: r => ids σ n v ++ idsL σ n r
end

mutual
/-- A callee's result, what it hands over taken into the store. 'f': the numbers to give. -/
def expo (f : Nat → Nat) : Nat → Nat → V → Option (V × Store × Nat)
  | 0, _, _ => none
  | n + 1, j, v => match v with
    | .olist t l => some (.slc (f j) 0 none, [(f j, .arr 0 t l)], j + 1)
    | .optr cells => match expoL f n (j + 1) cells with
      | some (cs, s, j') => some (.ptr (f j) 0, (f j, .box cs) :: s, j')
      | none => none
    | .list kd t l => if kd = .tmp then none else some (.list kd t l, [], j)
    | .agg cells => match expoL f n j cells with
      | some (cs, s, j') => some (.agg cs, s, j')
      | none => none
    | .tuple cells => match expoL f n j cells with
      | some (cs, s, j') => some (.tuple cs, s, j')
      | none => none
    | .fn g a b => match expoL f n j a with
      | some (a', s, j') => match expoL f n j' b with
        | some (b', s', j'') => some (.fn g a' b', s ++ s', j'')
        | none => none
      | none => none
    | .any => some (.any, [], j)
    | .kb b => some (.kb b, [], j)
    | .bool b => some (.bool b, [], j)
    | .int k m => some (.int k m, [], j)
    | .str l => some (.str l, [], j)
    | .nilp => some (.nilp, [], j)
    | .nils => some (.nils, [], j)
    | .nilm => some (.nilm, [], j)
    | .nilf => some (.nilf, [], j)
    | .nili => some (.nili, [], j)
    | .err b => some (.err b, [], j)
    | _ => none
def expoL (f : Nat → Nat) : Nat → Nat → List V → Option (List V × Store × Nat)
  | 0, _, _ => none
  | _ + 1, j, [] => some ([], [], j)
  | n + 1, j, v :: r => match expo f n j v with
    | some (v', s, j') => match expoL f n j' r with
      | some (r', s', j'') => some (v' :: r', s ++ s', j'')
      | none => none
    | none => none
end

mutual
/-- A callee's result, what it hands over never written again. -/
def frzV : Nat → V → Option V
  | 0, _ => none
  | n + 1, v => match v with
    | .olist t l => some (.list .part t l)
    | .optr cells => (frzL n cells).map .fptr
    | .list kd t l => if kd = .tmp then none else some (.list kd t l)
    | .rows m cells => (frzL n cells).map (.rows m)
    | .agg cells => (frzL n cells).map .agg
    | .tuple cells => (frzL n cells).map .tuple
    | .fn g a b => match frzL n a, frzL n b with
      | some a', some b' => some (.fn g a' b')
      | _, _ => none
    | .any => some .any
    | .kb b => some (.kb b)
    | .bool b => some (.bool b)
    | .int k m => some (.int k m)
    | .str l => some (.str l)
    | .nilp => some .nilp
    | .nils => some .nils
    | .nilm => some .nilm
    | .nilf => some .nilf
    | .nili => some .nili
    | .err b => some (.err b)
    | _ => none
def frzL : Nat → List V → Option (List V)
  | 0, _ => none
  | _ + 1, [] => some []
  | n + 1, v :: r => match frzV n v, frzL n r with
    | some v', some r' => some (v' :: r')
    | _, _ => none
end

/-- The numbers of what a call makes. -/
def idf (dst j : Nat) : Nat := dst + 1000 * j

def allFresh (σ : Store) : Store → Bool
  | [] => true
  | (i, o) :: r => isFresh σ i && (!isNest (some o)) && allFresh ((i, o) :: σ) r

def hasBody (P : Program) (g : FuncId) : Bool :=
  match P.funcs[g]? with
  | some fn => fn.body.isSome && !(fn.name == "runtime.NumGoroutine")
  | none => false

def callV (E : Env) (f : V) (args : List V) (dst : Nat) (σ : Store) (k : K) : Prop :=
  match f with
  | .fn (.func g) a b => if hasBody E.P g then
      match (if E.frz dst then none else E.upd g (a ++ args ++ b) σ) with
      | some (pre, r, new) => pre ∧ k r (new ++ σ)
      | none => match snapL σ 60 (a ++ args ++ b) with
        | some as => match (if E.frz dst then E.zspecs g as else none) with
          | some (pre, r) => pre ∧ (match frzV 60 r with
              | some r' => k r' σ
              | none => False)
          | none => match E.specs g as with
          | some (pre, r) => pre ∧ (if E.frz dst then (match frzV 60 r with
              | some r' => k r' σ
              | none => False) else
              match expo (idf dst) 60 0 r with
              | some (r', new, _) => if allFresh σ new then k r' (new ++ σ) else False
              | none => False)
          | none => False
        | none => False
    else match E.ext g (a ++ args ++ b) with
      | some (pre, r) => pre ∧ k r σ
      | none => False
  | _ => False

/-- An operation. -/
def vcOp (E : Env) (o : Oper) (ρ : Operand → V) (σ : Store) (k : K) : Prop :=
  let dst := o.dst.getD 0
  match o.op with
  | .move x | .assign x => k (ρ x) σ
  | .pick c a b => match ρ c with
    | .kb true => k (ρ a) σ
    | .kb false => k (ρ b) σ
    | .bool c => match boolOf (ρ a), boolOf (ρ b) with
      | some x, some y => k (.bool (if c then x else y)) σ
      | _, _ => False
    | _ => False
  | .alloc t => allocV E.P t dst σ k
  | .box _ x => boxV dst (ρ x) σ k
  | .build t ps => buildV E.P t (ps.toList.map fun (i, x) => (i, ρ x)) σ k
  | .buildSlice t n ps => buildSliceV E t n (ps.toList.map fun (i, x) => (i, ρ x)) dst σ k
  | .load t a => loadV E.P t (ρ a) σ k
  | .store t a x => storeV E.P t (ρ a) (ρ x) σ k
  | .nilCheck x => nilCheckV (ρ x) σ k
  | .binOp op t x y _ => binO E op t y (ρ x) (ρ y) dst σ k
  | .unOp op _ x => unV E op (ρ x) dst σ k
  | .convert s d x => convV E s d (ρ x) dst σ k
  | .makeFunc fn a b => k (.fn fn (a.toList.map ρ) (b.toList.map ρ)) σ
  | .makeSlice t l c => makeSliceV E t (ρ l) (ρ c) dst σ k
  | .slice t x lo hi mx => sliceV E t (ρ x) (lo.map ρ) (hi.map ρ) (mx.map ρ) σ k
  | .fieldAddr t x f => fieldAddrV E.P t (ρ x) f σ k
  | .field t x f => fieldV E.P t (ρ x) f σ k
  | .indexAddr t x i => indexAddrV E t (ρ x) (ρ i) σ k
  | .index t x i => indexV E t (ρ x) (ρ i) σ k
  | .extract x i => match ρ x with
    | .tuple vs => match vs[i]? with
      | some v => k v σ
      | none => False
    | _ => False
  | .call c => match c.callee with
    | .builtin .len => match c.args[0]?, c.argTypes[0]? with
      | some x, some t => if c.args.size = 1 then lenV E t (ρ x) σ k else False
      | _, _ => False
    | .builtin .append => match c.args[0]?, c.args[1]?, c.argTypes[0]?, c.argTypes[1]? with
      | some d, some x, some t, some t' => if t = t' ∧ c.args.size = 2 ∧ c.argTypes.size = 2 then appendV E t (ρ d) (ρ x) dst σ k else False
      | _, _, _, _ => False
    | .value f => callV E (ρ f) (c.args.toList.map ρ) dst σ k
    | _ => False
  | _ => False

end Go.Vm
