/-
  The engine, part 0: what is asked of the blocks that stay as they are: nothing, in a plain seat.
-/
import Derived.WalkKit
import Derived.Orders
namespace Go.Vm
def Tabs (_ : List (Nat × _root_.Go.Obj)) : Prop := True
def byteT : TypeId := 0
end Go.Vm
