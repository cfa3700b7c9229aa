/-
  No cell of these rows narrows 'for every input' (looked for: loops, veiled, ifaces, maps, wideKeys, modest, calm, conditions, laid).
  DERIVED. THE GIVEN ROWS OF THIS SEAT. 12 by the template 'for every input the law returns true; each argument reads behind the call as it read before'; 0 by the template 'total and deterministic' (their statements: YtojflfogjkajaaaTotals.lean).
  GIVEN WITH THE SEED: the statements are not yours to turn. If you find one false, say at which input.
  Laid BY PROGRAM, IN A SANDBOX (cutbox-rows.mjs): the forced cells as the released guide's own fill.sh prints them over the translation c4107319872dbd59… (all of the seat's roots in one cut). By AI agents, Wed Nov 11 2026. No macro, syntax, notation, axiom, sorry.
-/
import Derived.Test.YtojflfogjkajaaaChecked
import GoSem.Claim
import GoSem.ClaimJoined
import GoSem.ClaimMapViews
import Derived.JoinedTies
import Derived.KernelRfl
namespace Go.Proofs.Ytojflfogjkajaaa
/- THE CELL 'sum', in the pinned program and in every row, IS THE sha256 OF THE DUMP (.gsa) THAT YtojflfogjkajaaaProg.lean LOADS. Nothing in Lean hashes anything: it is a label: what it is worth is what the hold of that sum in a sandbox is worth. -/
noncomputable def Try.pinned : Pinned := { name := "ytojflfogjkajaaa", sum := "c4107319872dbd592e8f47c62d654d03552be85f1095852cb94be80250e21dab", checked := Try.checked }
namespace Rows
def none {H : Type} : Left H := { results := [], args := [] }

/-- 'gavelkindlaw12.GraphPlays': WHATEVER THE INPUT: true; the input reads as it did. -/
def graphPlaysSpec : ChangeSpec := { name := "graphPlays", fn := fun _ => fun
  | [d1, d2, d3] => { results := [.lit (.bool true)], args := [d1, d2, d3] }
  | _ => none }
def graphPlaysRow : OpenClaim := { program := "ytojflfogjkajaaa", sum := "c4107319872dbd592e8f47c62d654d03552be85f1095852cb94be80250e21dab", func := "gavelkind/gavelkindlaw12.GraphPlays", spec := "graphPlays", unfollowed := true, recurses := true, apart := false }
def GraphPlaysSaid : Prop := graphPlaysRow.holds Try.pinned (OpenSpec.ofChange graphPlaysSpec)

/-- ITS FALSE NEIGHBOUR: 'it returns false'. Refute it at one input. -/
def graphPlaysWrong : ChangeSpec := { name := "graphPlays", fn := fun _ => fun
  | [d1, d2, d3] => { results := [.lit (.bool false)], args := [d1, d2, d3] }
  | _ => none }
def GraphPlaysWrongFalsely : Prop := graphPlaysRow.holds Try.pinned (OpenSpec.ofChange graphPlaysWrong)

/-- 'gavelkindlaw12.GraphTurns': WHATEVER THE INPUT: true; the input reads as it did. -/
def graphTurnsSpec : ChangeSpec := { name := "graphTurns", fn := fun _ => fun
  | [d1, d2] => { results := [.lit (.bool true)], args := [d1, d2] }
  | _ => none }
def graphTurnsRow : OpenClaim := { program := "ytojflfogjkajaaa", sum := "c4107319872dbd592e8f47c62d654d03552be85f1095852cb94be80250e21dab", func := "gavelkind/gavelkindlaw12.GraphTurns", spec := "graphTurns", unfollowed := true, recurses := true, apart := false }
def GraphTurnsSaid : Prop := graphTurnsRow.holds Try.pinned (OpenSpec.ofChange graphTurnsSpec)

/-- ITS FALSE NEIGHBOUR: 'it returns false'. Refute it at one input. -/
def graphTurnsWrong : ChangeSpec := { name := "graphTurns", fn := fun _ => fun
  | [d1, d2] => { results := [.lit (.bool false)], args := [d1, d2] }
  | _ => none }
def GraphTurnsWrongFalsely : Prop := graphTurnsRow.holds Try.pinned (OpenSpec.ofChange graphTurnsWrong)

/-- 'gavelkindlaw12.GraphLast': WHATEVER THE INPUT: true; the input reads as it did. -/
def graphLastSpec : ChangeSpec := { name := "graphLast", fn := fun _ => fun
  | [d1, d2] => { results := [.lit (.bool true)], args := [d1, d2] }
  | _ => none }
def graphLastRow : OpenClaim := { program := "ytojflfogjkajaaa", sum := "c4107319872dbd592e8f47c62d654d03552be85f1095852cb94be80250e21dab", func := "gavelkind/gavelkindlaw12.GraphLast", spec := "graphLast", unfollowed := true, recurses := true, apart := false }
def GraphLastSaid : Prop := graphLastRow.holds Try.pinned (OpenSpec.ofChange graphLastSpec)

/-- ITS FALSE NEIGHBOUR: 'it returns false'. Refute it at one input. -/
def graphLastWrong : ChangeSpec := { name := "graphLast", fn := fun _ => fun
  | [d1, d2] => { results := [.lit (.bool false)], args := [d1, d2] }
  | _ => none }
def GraphLastWrongFalsely : Prop := graphLastRow.holds Try.pinned (OpenSpec.ofChange graphLastWrong)

/-- 'gavelkindlaw13.ReachTells': WHATEVER THE INPUT: true; the input reads as it did. -/
def reachTellsSpec : ChangeSpec := { name := "reachTells", fn := fun _ => fun
  | [d1, d2, d3] => { results := [.lit (.bool true)], args := [d1, d2, d3] }
  | _ => none }
def reachTellsRow : OpenClaim := { program := "ytojflfogjkajaaa", sum := "c4107319872dbd592e8f47c62d654d03552be85f1095852cb94be80250e21dab", func := "gavelkind/gavelkindlaw13.ReachTells", spec := "reachTells", unfollowed := true, recurses := true, apart := false }
def ReachTellsSaid : Prop := reachTellsRow.holds Try.pinned (OpenSpec.ofChange reachTellsSpec)

/-- ITS FALSE NEIGHBOUR: 'it returns false'. Refute it at one input. -/
def reachTellsWrong : ChangeSpec := { name := "reachTells", fn := fun _ => fun
  | [d1, d2, d3] => { results := [.lit (.bool false)], args := [d1, d2, d3] }
  | _ => none }
def ReachTellsWrongFalsely : Prop := reachTellsRow.holds Try.pinned (OpenSpec.ofChange reachTellsWrong)

/-- 'gavelkindlaw13.ReachSteps': WHATEVER THE INPUT: true; the input reads as it did. -/
def reachStepsSpec : ChangeSpec := { name := "reachSteps", fn := fun _ => fun
  | [d1, d2, d3] => { results := [.lit (.bool true)], args := [d1, d2, d3] }
  | _ => none }
def reachStepsRow : OpenClaim := { program := "ytojflfogjkajaaa", sum := "c4107319872dbd592e8f47c62d654d03552be85f1095852cb94be80250e21dab", func := "gavelkind/gavelkindlaw13.ReachSteps", spec := "reachSteps", unfollowed := true, recurses := true, apart := false }
def ReachStepsSaid : Prop := reachStepsRow.holds Try.pinned (OpenSpec.ofChange reachStepsSpec)

/-- ITS FALSE NEIGHBOUR: 'it returns false'. Refute it at one input. -/
def reachStepsWrong : ChangeSpec := { name := "reachSteps", fn := fun _ => fun
  | [d1, d2, d3] => { results := [.lit (.bool false)], args := [d1, d2, d3] }
  | _ => none }
def ReachStepsWrongFalsely : Prop := reachStepsRow.holds Try.pinned (OpenSpec.ofChange reachStepsWrong)

/-- 'gavelkindlaw13.ReachCloses': WHATEVER THE INPUT: true; the input reads as it did. -/
def reachClosesSpec : ChangeSpec := { name := "reachCloses", fn := fun _ => fun
  | [d1, d2, d3] => { results := [.lit (.bool true)], args := [d1, d2, d3] }
  | _ => none }
def reachClosesRow : OpenClaim := { program := "ytojflfogjkajaaa", sum := "c4107319872dbd592e8f47c62d654d03552be85f1095852cb94be80250e21dab", func := "gavelkind/gavelkindlaw13.ReachCloses", spec := "reachCloses", unfollowed := true, recurses := true, apart := false }
def ReachClosesSaid : Prop := reachClosesRow.holds Try.pinned (OpenSpec.ofChange reachClosesSpec)

/-- ITS FALSE NEIGHBOUR: 'it returns false'. Refute it at one input. -/
def reachClosesWrong : ChangeSpec := { name := "reachCloses", fn := fun _ => fun
  | [d1, d2, d3] => { results := [.lit (.bool false)], args := [d1, d2, d3] }
  | _ => none }
def ReachClosesWrongFalsely : Prop := reachClosesRow.holds Try.pinned (OpenSpec.ofChange reachClosesWrong)

/-- 'gavelkindlaw14.OrderTells': WHATEVER THE INPUT: true; the input reads as it did. -/
def orderTellsSpec : ChangeSpec := { name := "orderTells", fn := fun _ => fun
  | [d1, d2, d3] => { results := [.lit (.bool true)], args := [d1, d2, d3] }
  | _ => none }
def orderTellsRow : OpenClaim := { program := "ytojflfogjkajaaa", sum := "c4107319872dbd592e8f47c62d654d03552be85f1095852cb94be80250e21dab", func := "gavelkind/gavelkindlaw14.OrderTells", spec := "orderTells", unfollowed := true, recurses := true, apart := false }
def OrderTellsSaid : Prop := orderTellsRow.holds Try.pinned (OpenSpec.ofChange orderTellsSpec)

/-- ITS FALSE NEIGHBOUR: 'it returns false'. Refute it at one input. -/
def orderTellsWrong : ChangeSpec := { name := "orderTells", fn := fun _ => fun
  | [d1, d2, d3] => { results := [.lit (.bool false)], args := [d1, d2, d3] }
  | _ => none }
def OrderTellsWrongFalsely : Prop := orderTellsRow.holds Try.pinned (OpenSpec.ofChange orderTellsWrong)

/-- 'gavelkindlaw14.OrderStands': WHATEVER THE INPUT: true; the input reads as it did. -/
def orderStandsSpec : ChangeSpec := { name := "orderStands", fn := fun _ => fun
  | [d1, d2, d3] => { results := [.lit (.bool true)], args := [d1, d2, d3] }
  | _ => none }
def orderStandsRow : OpenClaim := { program := "ytojflfogjkajaaa", sum := "c4107319872dbd592e8f47c62d654d03552be85f1095852cb94be80250e21dab", func := "gavelkind/gavelkindlaw14.OrderStands", spec := "orderStands", unfollowed := true, recurses := true, apart := false }
def OrderStandsSaid : Prop := orderStandsRow.holds Try.pinned (OpenSpec.ofChange orderStandsSpec)

/-- ITS FALSE NEIGHBOUR: 'it returns false'. Refute it at one input. -/
def orderStandsWrong : ChangeSpec := { name := "orderStands", fn := fun _ => fun
  | [d1, d2, d3] => { results := [.lit (.bool false)], args := [d1, d2, d3] }
  | _ => none }
def OrderStandsWrongFalsely : Prop := orderStandsRow.holds Try.pinned (OpenSpec.ofChange orderStandsWrong)

/-- 'gavelkindlaw14.OrderCircles': WHATEVER THE INPUT: true; the input reads as it did. -/
def orderCirclesSpec : ChangeSpec := { name := "orderCircles", fn := fun _ => fun
  | [d1, d2, d3] => { results := [.lit (.bool true)], args := [d1, d2, d3] }
  | _ => none }
def orderCirclesRow : OpenClaim := { program := "ytojflfogjkajaaa", sum := "c4107319872dbd592e8f47c62d654d03552be85f1095852cb94be80250e21dab", func := "gavelkind/gavelkindlaw14.OrderCircles", spec := "orderCircles", unfollowed := true, recurses := true, apart := false }
def OrderCirclesSaid : Prop := orderCirclesRow.holds Try.pinned (OpenSpec.ofChange orderCirclesSpec)

/-- ITS FALSE NEIGHBOUR: 'it returns false'. Refute it at one input. -/
def orderCirclesWrong : ChangeSpec := { name := "orderCircles", fn := fun _ => fun
  | [d1, d2, d3] => { results := [.lit (.bool false)], args := [d1, d2, d3] }
  | _ => none }
def OrderCirclesWrongFalsely : Prop := orderCirclesRow.holds Try.pinned (OpenSpec.ofChange orderCirclesWrong)

/-- 'gavelkindlaw15.PlanTells': WHATEVER THE INPUT: true; the input reads as it did. -/
def planTellsSpec : ChangeSpec := { name := "planTells", fn := fun _ => fun
  | [d1, d2, d3] => { results := [.lit (.bool true)], args := [d1, d2, d3] }
  | _ => none }
def planTellsRow : OpenClaim := { program := "ytojflfogjkajaaa", sum := "c4107319872dbd592e8f47c62d654d03552be85f1095852cb94be80250e21dab", func := "gavelkind/gavelkindlaw15.PlanTells", spec := "planTells", unfollowed := true, recurses := true, apart := false }
def PlanTellsSaid : Prop := planTellsRow.holds Try.pinned (OpenSpec.ofChange planTellsSpec)

/-- ITS FALSE NEIGHBOUR: 'it returns false'. Refute it at one input. -/
def planTellsWrong : ChangeSpec := { name := "planTells", fn := fun _ => fun
  | [d1, d2, d3] => { results := [.lit (.bool false)], args := [d1, d2, d3] }
  | _ => none }
def PlanTellsWrongFalsely : Prop := planTellsRow.holds Try.pinned (OpenSpec.ofChange planTellsWrong)

/-- 'gavelkindlaw15.PlanBounds': WHATEVER THE INPUT: true; the input reads as it did. -/
def planBoundsSpec : ChangeSpec := { name := "planBounds", fn := fun _ => fun
  | [d1, d2, d3] => { results := [.lit (.bool true)], args := [d1, d2, d3] }
  | _ => none }
def planBoundsRow : OpenClaim := { program := "ytojflfogjkajaaa", sum := "c4107319872dbd592e8f47c62d654d03552be85f1095852cb94be80250e21dab", func := "gavelkind/gavelkindlaw15.PlanBounds", spec := "planBounds", unfollowed := true, recurses := true, apart := false }
def PlanBoundsSaid : Prop := planBoundsRow.holds Try.pinned (OpenSpec.ofChange planBoundsSpec)

/-- ITS FALSE NEIGHBOUR: 'it returns false'. Refute it at one input. -/
def planBoundsWrong : ChangeSpec := { name := "planBounds", fn := fun _ => fun
  | [d1, d2, d3] => { results := [.lit (.bool false)], args := [d1, d2, d3] }
  | _ => none }
def PlanBoundsWrongFalsely : Prop := planBoundsRow.holds Try.pinned (OpenSpec.ofChange planBoundsWrong)

/-- 'gavelkindlaw15.PlanStops': WHATEVER THE INPUT: true; the input reads as it did. -/
def planStopsSpec : ChangeSpec := { name := "planStops", fn := fun _ => fun
  | [d1, d2, d3] => { results := [.lit (.bool true)], args := [d1, d2, d3] }
  | _ => none }
def planStopsRow : OpenClaim := { program := "ytojflfogjkajaaa", sum := "c4107319872dbd592e8f47c62d654d03552be85f1095852cb94be80250e21dab", func := "gavelkind/gavelkindlaw15.PlanStops", spec := "planStops", unfollowed := true, recurses := true, apart := false }
def PlanStopsSaid : Prop := planStopsRow.holds Try.pinned (OpenSpec.ofChange planStopsSpec)

/-- ITS FALSE NEIGHBOUR: 'it returns false'. Refute it at one input. -/
def planStopsWrong : ChangeSpec := { name := "planStops", fn := fun _ => fun
  | [d1, d2, d3] => { results := [.lit (.bool false)], args := [d1, d2, d3] }
  | _ => none }
def PlanStopsWrongFalsely : Prop := planStopsRow.holds Try.pinned (OpenSpec.ofChange planStopsWrong)

/- THE SECOND FORM. 'bulk': how many values and letters a reading holds, each counted each time it is reached (what is shared counts as often as it is met; a slice's spare places count too). A statement '..UptoSaid' is the law's where the arguments, and the package variables that the reading takes, are together of bulk at most 1048576: NARROWER than '..Said'. Prove '..Said' where nothing that the law and all that it calls make is longer than what came in: it says more and counts as full. Else prove '..UptoSaid'. A law counts once. -/
mutual
def uptoBulk {H : Type} : DataW H → Nat
  | .lit (.string bytes) => bytes.length + 1
  | .lit _ => 1
  | .nil => 1
  | .ptr d => uptoBulk d + 1
  | .slice elems spare => uptoBulkAll elems + uptoBulkAll spare + 1
  | .agg parts => uptoBulkAll parts + 1
  | .iface _ d => uptoBulk d + 1
  | .map entries => uptoBulkEntries entries + 1
  | .held _ => 1
def uptoBulkAll {H : Type} : List (DataW H) → Nat
  | [] => 0
  | d :: r => uptoBulk d + uptoBulkAll r
def uptoBulkEntries {H : Type} : List (Lit × DataW H) → Nat
  | [] => 0
  | x :: r => uptoBulkEntry x + uptoBulkEntries r
def uptoBulkEntry {H : Type} : Lit × DataW H → Nat
  | (.string bytes, d) => bytes.length + uptoBulk d + 1
  | (_, d) => uptoBulk d + 1
 end
def uptoSmall : (H : Type) → List (DataW H) → Bool := fun _ ds => decide (uptoBulkAll ds ≤ 1048576)
def OpenSpec.upto (s : _root_.Go.ChangeSpec) : _root_.Go.OpenSpec := { _root_.Go.OpenSpec.ofChange s with cond := some uptoSmall }

/-- 'gavelkindlaw12.GraphPlays', WHERE WHAT IT READS IS OF BULK AT MOST 1048576: true; the input reads as it did. -/
def graphPlaysUptoRow : OpenClaim := { program := "ytojflfogjkajaaa", sum := "c4107319872dbd592e8f47c62d654d03552be85f1095852cb94be80250e21dab", func := "gavelkind/gavelkindlaw12.GraphPlays", spec := "graphPlays", unfollowed := true, recurses := true, apart := false, narrowed := true }
def GraphPlaysUptoSaid : Prop := graphPlaysUptoRow.holds Try.pinned (OpenSpec.upto graphPlaysSpec)

/-- 'gavelkindlaw12.GraphTurns', WHERE WHAT IT READS IS OF BULK AT MOST 1048576: true; the input reads as it did. -/
def graphTurnsUptoRow : OpenClaim := { program := "ytojflfogjkajaaa", sum := "c4107319872dbd592e8f47c62d654d03552be85f1095852cb94be80250e21dab", func := "gavelkind/gavelkindlaw12.GraphTurns", spec := "graphTurns", unfollowed := true, recurses := true, apart := false, narrowed := true }
def GraphTurnsUptoSaid : Prop := graphTurnsUptoRow.holds Try.pinned (OpenSpec.upto graphTurnsSpec)

/-- 'gavelkindlaw12.GraphLast', WHERE WHAT IT READS IS OF BULK AT MOST 1048576: true; the input reads as it did. -/
def graphLastUptoRow : OpenClaim := { program := "ytojflfogjkajaaa", sum := "c4107319872dbd592e8f47c62d654d03552be85f1095852cb94be80250e21dab", func := "gavelkind/gavelkindlaw12.GraphLast", spec := "graphLast", unfollowed := true, recurses := true, apart := false, narrowed := true }
def GraphLastUptoSaid : Prop := graphLastUptoRow.holds Try.pinned (OpenSpec.upto graphLastSpec)

/-- 'gavelkindlaw13.ReachTells', WHERE WHAT IT READS IS OF BULK AT MOST 1048576: true; the input reads as it did. -/
def reachTellsUptoRow : OpenClaim := { program := "ytojflfogjkajaaa", sum := "c4107319872dbd592e8f47c62d654d03552be85f1095852cb94be80250e21dab", func := "gavelkind/gavelkindlaw13.ReachTells", spec := "reachTells", unfollowed := true, recurses := true, apart := false, narrowed := true }
def ReachTellsUptoSaid : Prop := reachTellsUptoRow.holds Try.pinned (OpenSpec.upto reachTellsSpec)

/-- 'gavelkindlaw13.ReachSteps', WHERE WHAT IT READS IS OF BULK AT MOST 1048576: true; the input reads as it did. -/
def reachStepsUptoRow : OpenClaim := { program := "ytojflfogjkajaaa", sum := "c4107319872dbd592e8f47c62d654d03552be85f1095852cb94be80250e21dab", func := "gavelkind/gavelkindlaw13.ReachSteps", spec := "reachSteps", unfollowed := true, recurses := true, apart := false, narrowed := true }
def ReachStepsUptoSaid : Prop := reachStepsUptoRow.holds Try.pinned (OpenSpec.upto reachStepsSpec)

/-- 'gavelkindlaw13.ReachCloses', WHERE WHAT IT READS IS OF BULK AT MOST 1048576: true; the input reads as it did. -/
def reachClosesUptoRow : OpenClaim := { program := "ytojflfogjkajaaa", sum := "c4107319872dbd592e8f47c62d654d03552be85f1095852cb94be80250e21dab", func := "gavelkind/gavelkindlaw13.ReachCloses", spec := "reachCloses", unfollowed := true, recurses := true, apart := false, narrowed := true }
def ReachClosesUptoSaid : Prop := reachClosesUptoRow.holds Try.pinned (OpenSpec.upto reachClosesSpec)

/-- 'gavelkindlaw14.OrderTells', WHERE WHAT IT READS IS OF BULK AT MOST 1048576: true; the input reads as it did. -/
def orderTellsUptoRow : OpenClaim := { program := "ytojflfogjkajaaa", sum := "c4107319872dbd592e8f47c62d654d03552be85f1095852cb94be80250e21dab", func := "gavelkind/gavelkindlaw14.OrderTells", spec := "orderTells", unfollowed := true, recurses := true, apart := false, narrowed := true }
def OrderTellsUptoSaid : Prop := orderTellsUptoRow.holds Try.pinned (OpenSpec.upto orderTellsSpec)

/-- 'gavelkindlaw14.OrderStands', WHERE WHAT IT READS IS OF BULK AT MOST 1048576: true; the input reads as it did. -/
def orderStandsUptoRow : OpenClaim := { program := "ytojflfogjkajaaa", sum := "c4107319872dbd592e8f47c62d654d03552be85f1095852cb94be80250e21dab", func := "gavelkind/gavelkindlaw14.OrderStands", spec := "orderStands", unfollowed := true, recurses := true, apart := false, narrowed := true }
def OrderStandsUptoSaid : Prop := orderStandsUptoRow.holds Try.pinned (OpenSpec.upto orderStandsSpec)

/-- 'gavelkindlaw14.OrderCircles', WHERE WHAT IT READS IS OF BULK AT MOST 1048576: true; the input reads as it did. -/
def orderCirclesUptoRow : OpenClaim := { program := "ytojflfogjkajaaa", sum := "c4107319872dbd592e8f47c62d654d03552be85f1095852cb94be80250e21dab", func := "gavelkind/gavelkindlaw14.OrderCircles", spec := "orderCircles", unfollowed := true, recurses := true, apart := false, narrowed := true }
def OrderCirclesUptoSaid : Prop := orderCirclesUptoRow.holds Try.pinned (OpenSpec.upto orderCirclesSpec)

/-- 'gavelkindlaw15.PlanTells', WHERE WHAT IT READS IS OF BULK AT MOST 1048576: true; the input reads as it did. -/
def planTellsUptoRow : OpenClaim := { program := "ytojflfogjkajaaa", sum := "c4107319872dbd592e8f47c62d654d03552be85f1095852cb94be80250e21dab", func := "gavelkind/gavelkindlaw15.PlanTells", spec := "planTells", unfollowed := true, recurses := true, apart := false, narrowed := true }
def PlanTellsUptoSaid : Prop := planTellsUptoRow.holds Try.pinned (OpenSpec.upto planTellsSpec)

/-- 'gavelkindlaw15.PlanBounds', WHERE WHAT IT READS IS OF BULK AT MOST 1048576: true; the input reads as it did. -/
def planBoundsUptoRow : OpenClaim := { program := "ytojflfogjkajaaa", sum := "c4107319872dbd592e8f47c62d654d03552be85f1095852cb94be80250e21dab", func := "gavelkind/gavelkindlaw15.PlanBounds", spec := "planBounds", unfollowed := true, recurses := true, apart := false, narrowed := true }
def PlanBoundsUptoSaid : Prop := planBoundsUptoRow.holds Try.pinned (OpenSpec.upto planBoundsSpec)

/-- 'gavelkindlaw15.PlanStops', WHERE WHAT IT READS IS OF BULK AT MOST 1048576: true; the input reads as it did. -/
def planStopsUptoRow : OpenClaim := { program := "ytojflfogjkajaaa", sum := "c4107319872dbd592e8f47c62d654d03552be85f1095852cb94be80250e21dab", func := "gavelkind/gavelkindlaw15.PlanStops", spec := "planStops", unfollowed := true, recurses := true, apart := false, narrowed := true }
def PlanStopsUptoSaid : Prop := planStopsUptoRow.holds Try.pinned (OpenSpec.upto planStopsSpec)

end Rows
end Go.Proofs.Ytojflfogjkajaaa
