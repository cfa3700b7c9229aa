/-
  TallySheets, TallyGrows: the walks.
-/
import Derived.Test.YteaajihmfacinaaTa18
namespace Go.Proofs.Yteaajihmfacinaa.Ta
open Go.Vm
def NIn (N : List En) : Prop := NOk N
theorem NIn.wn {N : List En} (h : NIn N) : WN N := h.2.2
set_option maxRecDepth 20000
end Go.Proofs.Yteaajihmfacinaa.Ta
