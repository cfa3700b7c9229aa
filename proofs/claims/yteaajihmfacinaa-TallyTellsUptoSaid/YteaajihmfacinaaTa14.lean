/-
  The document's Sheet.
-/
import Derived.Test.YteaajihmfacinaaTa13
namespace Go.Proofs.Yteaajihmfacinaa.Ta
open Go.Vm
set_option maxRecDepth 20000
end Go.Proofs.Yteaajihmfacinaa.Ta
