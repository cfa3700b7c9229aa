/-
  num.Net: the plain law.
-/
import Derived.Test.YteaajihmfacinaaNum2
import Derived.Test.YteaajihmfacinaaBig3
namespace Go.Proofs.Yteaajihmfacinaa
open Go.Vm
end Go.Proofs.Yteaajihmfacinaa
