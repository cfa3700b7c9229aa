/-
  law14: OrderStands.
-/
import Derived.Test.YtojflfogjkajaaaOd15b
namespace Go.Proofs.Ytojflfogjkajaaa.Od
open Go.Vm Go.Proofs.Ytojflfogjkajaaa.Gr Go.Proofs.Ytojflfogjkajaaa.Rc
abbrev RR (m : Int) (l : List Ac) : GI := actsR (Gr.newR m) l
set_option maxRecDepth 20000
end Go.Proofs.Ytojflfogjkajaaa.Od
