/-
  The seat's types.
-/
import Derived.Test.YtgdcjefnhcamgaaDoorVmJ
import Derived.Test.YtgdcjefnhcamgaaDoorProg
namespace Go.Proofs.YtgdcjefnhcamgaaDoor
open Go.Vm

abbrev I : Ty := .int .i64
abbrev B8 : Ty := .int .u8
abbrev Ln : Ty := .pair I (.pair I (.pair I I))
abbrev Cm : Ty := .pair I (.pair I (.pair I (.pair I (.pair I (.pair .bool (.pair .bool (.pair (.pair I I) (.slice Ln))))))))
theorem mixed : Tryd.prog.follows .mixedOrders = true := rfl
noncomputable def tys0 : TypeId → Option Ty := fun | 3 => some I | 5 => some B8 | 62 => some Ln | _ => none

end Go.Proofs.YtgdcjefnhcamgaaDoor
