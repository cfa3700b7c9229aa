/-
  The engine, part 0: what is asked of the blocks that stay as they are: the library's table that zeros behind are read off.
-/
import Derived.WalkKit
import Derived.Orders
import Derived.Lib.TrailingZeros
namespace Go.Vm

/-- A block that stays, of plain cells. -/
def Lies0 (g : List (Nat × _root_.Go.Obj)) (b : Nat) (p : Array Value → Prop) : Prop := ∃ cs t, (b, _root_.Go.Obj.cells cs t (0, 0)) ∈ g ∧ p cs

/-- Block 1: the table. -/
def Tabs (g : List (Nat × _root_.Go.Obj)) : Prop := Lies0 g 1 (fun cs => cs = (Lib.deBruijn64tab.map fun (z : Nat) => Value.int .u8 (z : Int)).toArray)

end Go.Vm
