/-
  The seat's types.
-/
import Derived.Test.YtemgelifnjefoaaDoorVmJ
import Derived.Test.YtemgelifnjefoaaDoorProg
namespace Go.Proofs.YtemgelifnjefoaaDoor
open Go.Vm

abbrev I : Ty := .int .i64
abbrev B8 : Ty := .int .u8

abbrev Ce : Ty := .pair I (.pair I (.pair I (.pair I (.pair I I))))
theorem mixed : Tryd.prog.follows .mixedOrders = true := rfl
noncomputable def tys0 : TypeId → Option Ty := fun | 3 => some I | 5 => some B8 | 23 => some Ce | _ => none

end Go.Proofs.YtemgelifnjefoaaDoor
