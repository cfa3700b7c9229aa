/-
  The seat's types.
-/
import Derived.Test.YtdplodofdfkndaaDoorVm29
import Derived.Test.YtdplodofdfkndaaDoorProg
namespace Go.Proofs.YtdplodofdfkndaaDoor
open Go.Vm

abbrev I : Ty := .int .i64
abbrev B8 : Ty := .int .u8
theorem mixed : Tryd.prog.follows .mixedOrders = true := rfl
noncomputable def tys0 : TypeId → Option Ty := fun | 3 => some I | 5 => some B8 | _ => none

end Go.Proofs.YtdplodofdfkndaaDoor
