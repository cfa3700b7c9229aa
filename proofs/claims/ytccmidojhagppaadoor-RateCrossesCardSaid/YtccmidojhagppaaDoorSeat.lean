/-
  The seat's types.
-/
import Derived.Test.YtccmidojhagppaaDoorVmJ
import Derived.Test.YtccmidojhagppaaDoorProg
namespace Go.Proofs.YtccmidojhagppaaDoor
open Go.Vm

abbrev I : Ty := .int .i64
abbrev Vl : Ty := .pair I I
abbrev RTy : Ty := .pair I (.pair I (.pair I (.pair I Vl)))
theorem mixed : Tryd.prog.follows .mixedOrders = true := rfl
noncomputable def tys0 : TypeId → Option Ty := fun | 3 => some I | 63 => some (.int .u64) | 24 => some Vl | 26 => some RTy | _ => none

end Go.Proofs.YtccmidojhagppaaDoor
