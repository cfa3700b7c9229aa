/-
  The seat's types.
-/
import Derived.Test.YteaajihmfacinaaVmJ
import Derived.Test.YteaajihmfacinaaProg
namespace Go.Proofs.Yteaajihmfacinaa
open Go.Vm
abbrev I : Ty := .int .i64
abbrev LnT : Ty := .pair I (.pair I (.pair I I))
abbrev EnT : Ty := .pair I (.pair I (.slice LnT))
abbrev PoT : Ty := .pair I (.pair I (.pair I LnT))
abbrev RoT : Ty := .pair I (.pair I (.pair I I))
theorem mixed : Try.prog.follows .mixedOrders = true := rfl
noncomputable def tys0 : TypeId → Option Ty := fun | 3 => some I | 118 => some (.int .u64) | 38 => some LnT | 25 => some EnT | 62 => some PoT | 94 => some PoT | 79 => some RwT | 48 => some RoT | 49 => some RoT | _ => none
end Go.Proofs.Yteaajihmfacinaa
