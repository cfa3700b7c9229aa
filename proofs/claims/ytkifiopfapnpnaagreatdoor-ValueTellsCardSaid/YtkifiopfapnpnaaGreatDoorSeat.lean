/-
  The seat's types.
-/
import Derived.Test.YtkifiopfapnpnaaGreatDoorVmJ
import Derived.Test.YtkifiopfapnpnaaGreatDoorProg
namespace Go.Proofs.YtkifiopfapnpnaaGreatDoor
open Go.Vm

abbrev I : Ty := .int .i64
abbrev B8 : Ty := .int .u8
abbrev Vl : Ty := .pair I I
theorem mixed : Tryz.prog.follows .mixedOrders = true := rfl
noncomputable def tys0 : TypeId → Option Ty := fun | 3 => some I | 5 => some B8 | 54 => some (.int .u64) | 25 => some Vl | _ => none

end Go.Proofs.YtkifiopfapnpnaaGreatDoor
