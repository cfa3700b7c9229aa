/-
  The seat's types.
-/
import Derived.Test.YtojflfogjkajaaaVmJ
import Derived.Test.YtojflfogjkajaaaProg
namespace Go.Proofs.Ytojflfogjkajaaa
open Go.Vm
abbrev I : Ty := .int .i64
abbrev LI : Ty := .slice I
abbrev AcT : Ty := .pair I LI
abbrev Ac : Type := Int × List Int
theorem mixed : Try.prog.follows .mixedOrders = true := rfl
abbrev LLI : Ty := .slice LI
noncomputable def tys0 : TypeId → Option Ty := fun | 3 => some I | 36 => some LI | 27 => some LLI | 46 => some AcT | _ => none
end Go.Proofs.Ytojflfogjkajaaa
