/-
  The engine, part 0: what is asked of the blocks that stay as they are: the library's variables that numerals read.
-/
import Derived.WalkKit
import Derived.Orders
import Derived.Lib.ItoaNum
namespace Go.Vm

/-- A block that stays, of plain cells. -/
def Lies0 (g : List (Nat × _root_.Go.Obj)) (b : Nat) (p : Array Value → Prop) : Prop := ∃ cs t, (b, _root_.Go.Obj.cells cs t (0, 0)) ∈ g ∧ p cs

/-- Blocks 1, 2: an error each; 0: the powers of ten. -/
def Tabs (g : List (Nat × _root_.Go.Obj)) : Prop :=
  Lies0 g 1 (fun cs => ∃ t v, cs[0]? = some (.iface t v)) ∧ Lies0 g 2 (fun cs => ∃ t v, cs[0]? = some (.iface t v)) ∧ Lies0 g 0 (fun cs => cs = (Lib.pow10Tab.map fun z => Value.int .u64 z).toArray)

/-- The type of bytes. -/
def byteT : TypeId := 5

end Go.Vm
