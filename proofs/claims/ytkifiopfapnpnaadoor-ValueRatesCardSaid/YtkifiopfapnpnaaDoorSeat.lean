/-
  The seat's types.
-/
import Derived.Test.YtkifiopfapnpnaaDoorVmJ
import Derived.Test.YtkifiopfapnpnaaDoorProg
namespace Go.Proofs.YtkifiopfapnpnaaDoor
open Go.Vm

abbrev I : Ty := .int .i64
abbrev B8 : Ty := .int .u8
abbrev Vl : Ty := .pair I I
theorem mixed : Tryd.prog.follows .mixedOrders = true := rfl
noncomputable def tys0 : TypeId → Option Ty := fun | 3 => some I | 5 => some B8 | 74 => some (.int .u64) | 24 => some Vl | _ => none

end Go.Proofs.YtkifiopfapnpnaaDoor
