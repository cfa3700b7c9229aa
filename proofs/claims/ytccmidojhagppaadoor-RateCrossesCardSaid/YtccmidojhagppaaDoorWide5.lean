/-
  By a rate.
-/
import Derived.Test.YtccmidojhagppaaDoorWide4
namespace Go.Proofs.YtccmidojhagppaaDoor
open Go.Vm

def applyF (x a b : Int) : Int × Int := if ratioF a b = 0 then evenF (x * a) b else (0, 11)

end Go.Proofs.YtccmidojhagppaaDoor
