/-
  num.Net, num.Sum.
-/
import Derived.Test.YtccmidojhagppaaDoorNum1
namespace Go.Proofs.YtccmidojhagppaaDoor
open Go.Vm

def sumW (l m : List Int) : Int × Int := m.foldl subW (l.foldl addW (0, 0))
def netF (l m : List Int) : Int × Int := intF (sumW l m).1 (sumW l m).2
theorem addW_w {l : List Int} : ∀ {s : Int × Int}, InW s.1 ∧ InW s.2 → InW (l.foldl addW s).1 ∧ InW (l.foldl addW s).2 := by
  induction l with
  | nil => exact fun h => h
  | cons a r ih => exact fun _ => ih ⟨mod_w _, mod_w _⟩

end Go.Proofs.YtccmidojhagppaaDoor
