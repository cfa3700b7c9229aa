/-
  The document's whole numbers: sums, differences, what is in range.
-/
import Derived.Test.YtemgelifnjefoaaDoorBig2
namespace Go.Proofs.YtemgelifnjefoaaDoor
open Go.Vm

def TrimInv (l : List Int) (n : Int) : Prop := 0 ≤ n ∧ n ≤ l.length ∧ ∀ (i : Nat) d, n ≤ i → l[i]? = some d → d = 0
def cmpV (a b : Int) : Int := if a < b then -1 else if b < a then 1 else 0
/-- The number, if it is in range. -/
def intB (z : Int) : Int := if -9223372036854775808 ≤ z ∧ z ≤ 9223372036854775807 then z else 0
def okB (z : Int) : Bool := decide (-9223372036854775808 ≤ z) && decide (z ≤ 9223372036854775807)
def IntInv (s : Bool) (l : List Int) (i n : Int) : Prop := -1 ≤ i ∧ i < l.length ∧ n = big s (l.drop (i + 1).toNat)
/-- The fault of a number beyond the range. -/
def faultB (z : Int) : Int := if okB z then 0 else 10

end Go.Proofs.YtemgelifnjefoaaDoor
