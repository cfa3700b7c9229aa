/-
  The seat's types.
-/
import Derived.Test.YtgjpehgnagfghaaGreatVmJ
import Derived.Test.YtgjpehgnagfghaaGreatProg
namespace Go.Proofs.YtgjpehgnagfghaaGreat
open Go.Vm
abbrev I : Ty := .int .i64
abbrev Vl : Ty := .pair I I
abbrev RTy : Ty := .pair I (.pair I (.pair I (.pair I Vl)))
abbrev LnT : Ty := .pair I (.pair I (.pair I I))
abbrev EnT : Ty := .pair I (.pair I (.slice LnT))
abbrev AcT : Ty := .pair I (.pair I (.pair .bool .bool))
abbrev PoT : Ty := .pair I (.pair I (.pair I LnT))
theorem mixed : Tryz.prog.follows .mixedOrders = true := rfl
noncomputable def tys0 : TypeId → Option Ty := fun | 3 => some I | 153 => some (.int .u64) | 46 => some Vl | 48 => some RTy | 55 => some LnT | 53 => some EnT | 42 => some AcT | 44 => some LnT | 50 => some Vl | 63 => some PoT | 88 => some PoT | _ => none
end Go.Proofs.YtgjpehgnagfghaaGreat
