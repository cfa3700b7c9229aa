/-
  No cell of these rows narrows 'for every input' (looked for: loops, veiled, ifaces, maps, wideKeys, modest, calm, conditions, laid).
  DERIVED. THE GIVEN ROWS OF THIS SEAT. 5 by the template 'for every input the law returns true; each argument reads behind the call as it read before'; 0 by the template 'total and deterministic' (their statements: YteaajihmfacinaaTotals.lean).
  GIVEN WITH THE SEED: the statements are not yours to turn. If you find one false, say at which input.
  Laid BY PROGRAM, IN A SANDBOX (cutbox-rows.mjs): the forced cells as the released guide's own fill.sh prints them over the translation c1e042879f3ddc88… (all of the seat's roots in one cut). By AI agents, Wed Nov 11 2026. No macro, syntax, notation, axiom, sorry.
-/
import Derived.Test.YteaajihmfacinaaChecked
import GoSem.Claim
import GoSem.ClaimJoined
import GoSem.ClaimMapViews
import Derived.JoinedTies
import Derived.KernelRfl
namespace Go.Proofs.Yteaajihmfacinaa
/- THE CELL 'sum', in the pinned program and in every row, IS THE sha256 OF THE DUMP (.gsa) THAT YteaajihmfacinaaProg.lean LOADS. Nothing in Lean hashes anything: it is a label: what it is worth is what the hold of that sum in a sandbox is worth. -/
noncomputable def Try.pinned : Pinned := { name := "yteaajihmfacinaa", sum := "c1e042879f3ddc889ff445dc7c46b2393e542b2508f879bc819407bc539d831d", checked := Try.checked }
namespace Rows
def none {H : Type} : Left H := { results := [], args := [] }

/-- 'gavelkindlaw25.TallyGrows': WHATEVER THE INPUT: true; the input reads as it did. -/
def tallyGrowsSpec : ChangeSpec := { name := "tallyGrows", fn := fun _ => fun
  | [d1, d2, d3] => { results := [.lit (.bool true)], args := [d1, d2, d3] }
  | _ => none }
def tallyGrowsRow : OpenClaim := { program := "yteaajihmfacinaa", sum := "c1e042879f3ddc889ff445dc7c46b2393e542b2508f879bc819407bc539d831d", func := "gavelkind/gavelkindlaw25.TallyGrows", spec := "tallyGrows", inPlace := ["math/bits.Add64", "math/bits.Sub64"], unfollowed := true, recurses := true, plainKeys := false, apart := false }
def TallyGrowsSaid : Prop := tallyGrowsRow.holds Try.pinned (OpenSpec.ofChange tallyGrowsSpec)

/-- ITS FALSE NEIGHBOUR: 'it returns false'. Refute it at one input. -/
def tallyGrowsWrong : ChangeSpec := { name := "tallyGrows", fn := fun _ => fun
  | [d1, d2, d3] => { results := [.lit (.bool false)], args := [d1, d2, d3] }
  | _ => none }
def TallyGrowsWrongFalsely : Prop := tallyGrowsRow.holds Try.pinned (OpenSpec.ofChange tallyGrowsWrong)

/-- 'gavelkindlaw25.TallySheets': WHATEVER THE INPUT: true; the input reads as it did. -/
def tallySheetsSpec : ChangeSpec := { name := "tallySheets", fn := fun _ => fun
  | [d1, d2, d3] => { results := [.lit (.bool true)], args := [d1, d2, d3] }
  | _ => none }
def tallySheetsRow : OpenClaim := { program := "yteaajihmfacinaa", sum := "c1e042879f3ddc889ff445dc7c46b2393e542b2508f879bc819407bc539d831d", func := "gavelkind/gavelkindlaw25.TallySheets", spec := "tallySheets", inPlace := ["math/bits.Add64", "math/bits.Sub64"], unfollowed := true, recurses := true, plainKeys := false, apart := false }
def TallySheetsSaid : Prop := tallySheetsRow.holds Try.pinned (OpenSpec.ofChange tallySheetsSpec)

/-- ITS FALSE NEIGHBOUR: 'it returns false'. Refute it at one input. -/
def tallySheetsWrong : ChangeSpec := { name := "tallySheets", fn := fun _ => fun
  | [d1, d2, d3] => { results := [.lit (.bool false)], args := [d1, d2, d3] }
  | _ => none }
def TallySheetsWrongFalsely : Prop := tallySheetsRow.holds Try.pinned (OpenSpec.ofChange tallySheetsWrong)

/-- 'gavelkindlaw25.TallyTells': WHATEVER THE INPUT: true; the input reads as it did. -/
def tallyTellsSpec : ChangeSpec := { name := "tallyTells", fn := fun _ => fun
  | [d1, d2, d3] => { results := [.lit (.bool true)], args := [d1, d2, d3] }
  | _ => none }
def tallyTellsRow : OpenClaim := { program := "yteaajihmfacinaa", sum := "c1e042879f3ddc889ff445dc7c46b2393e542b2508f879bc819407bc539d831d", func := "gavelkind/gavelkindlaw25.TallyTells", spec := "tallyTells", inPlace := ["math/bits.Add64", "math/bits.Sub64"], unfollowed := true, recurses := true, plainKeys := false, apart := false }
def TallyTellsSaid : Prop := tallyTellsRow.holds Try.pinned (OpenSpec.ofChange tallyTellsSpec)

/-- ITS FALSE NEIGHBOUR: 'it returns false'. Refute it at one input. -/
def tallyTellsWrong : ChangeSpec := { name := "tallyTells", fn := fun _ => fun
  | [d1, d2, d3] => { results := [.lit (.bool false)], args := [d1, d2, d3] }
  | _ => none }
def TallyTellsWrongFalsely : Prop := tallyTellsRow.holds Try.pinned (OpenSpec.ofChange tallyTellsWrong)

/-- 'gavelkindlaw25.TallyParts': WHATEVER THE INPUT: true; the input reads as it did. -/
def tallyPartsSpec : ChangeSpec := { name := "tallyParts", fn := fun _ => fun
  | [d1, d2] => { results := [.lit (.bool true)], args := [d1, d2] }
  | _ => none }
def tallyPartsRow : OpenClaim := { program := "yteaajihmfacinaa", sum := "c1e042879f3ddc889ff445dc7c46b2393e542b2508f879bc819407bc539d831d", func := "gavelkind/gavelkindlaw25.TallyParts", spec := "tallyParts", inPlace := ["math/bits.Add64", "math/bits.Sub64"], unfollowed := true, recurses := true, plainKeys := false, apart := false }
def TallyPartsSaid : Prop := tallyPartsRow.holds Try.pinned (OpenSpec.ofChange tallyPartsSpec)

/-- ITS FALSE NEIGHBOUR: 'it returns false'. Refute it at one input. -/
def tallyPartsWrong : ChangeSpec := { name := "tallyParts", fn := fun _ => fun
  | [d1, d2] => { results := [.lit (.bool false)], args := [d1, d2] }
  | _ => none }
def TallyPartsWrongFalsely : Prop := tallyPartsRow.holds Try.pinned (OpenSpec.ofChange tallyPartsWrong)

/-- 'gavelkindlaw25.TallyRuns': WHATEVER THE INPUT: true; the input reads as it did. -/
def tallyRunsSpec : ChangeSpec := { name := "tallyRuns", fn := fun _ => fun
  | [d1, d2] => { results := [.lit (.bool true)], args := [d1, d2] }
  | _ => none }
def tallyRunsRow : OpenClaim := { program := "yteaajihmfacinaa", sum := "c1e042879f3ddc889ff445dc7c46b2393e542b2508f879bc819407bc539d831d", func := "gavelkind/gavelkindlaw25.TallyRuns", spec := "tallyRuns", inPlace := ["math/bits.Add64", "math/bits.Sub64"], unfollowed := true, recurses := true, plainKeys := false, apart := false }
def TallyRunsSaid : Prop := tallyRunsRow.holds Try.pinned (OpenSpec.ofChange tallyRunsSpec)

/-- ITS FALSE NEIGHBOUR: 'it returns false'. Refute it at one input. -/
def tallyRunsWrong : ChangeSpec := { name := "tallyRuns", fn := fun _ => fun
  | [d1, d2] => { results := [.lit (.bool false)], args := [d1, d2] }
  | _ => none }
def TallyRunsWrongFalsely : Prop := tallyRunsRow.holds Try.pinned (OpenSpec.ofChange tallyRunsWrong)

/- THE SECOND FORM. 'bulk': how many values and letters a reading holds, each counted each time it is reached (what is shared counts as often as it is met; a slice's spare places count too). A statement '..UptoSaid' is the law's where the arguments, and the package variables that the reading takes, are together of bulk at most 1048576: NARROWER than '..Said'. Prove '..Said' where nothing that the law and all that it calls make is longer than what came in: it says more and counts as full. Else prove '..UptoSaid'. A law counts once. -/
mutual
def uptoBulk {H : Type} : DataW H → Nat
  | .lit (.string bytes) => bytes.length + 1
  | .lit _ => 1
  | .nil => 1
  | .ptr d => uptoBulk d + 1
  | .slice elems spare => uptoBulkAll elems + uptoBulkAll spare + 1
  | .agg parts => uptoBulkAll parts + 1
  | .iface _ d => uptoBulk d + 1
  | .map entries => uptoBulkEntries entries + 1
  | .held _ => 1
def uptoBulkAll {H : Type} : List (DataW H) → Nat
  | [] => 0
  | d :: r => uptoBulk d + uptoBulkAll r
def uptoBulkEntries {H : Type} : List (Lit × DataW H) → Nat
  | [] => 0
  | x :: r => uptoBulkEntry x + uptoBulkEntries r
def uptoBulkEntry {H : Type} : Lit × DataW H → Nat
  | (.string bytes, d) => bytes.length + uptoBulk d + 1
  | (_, d) => uptoBulk d + 1
 end
def uptoSmall : (H : Type) → List (DataW H) → Bool := fun _ ds => decide (uptoBulkAll ds ≤ 1048576)
def OpenSpec.upto (s : _root_.Go.ChangeSpec) : _root_.Go.OpenSpec := { _root_.Go.OpenSpec.ofChange s with cond := some uptoSmall }

/-- 'gavelkindlaw25.TallyGrows', WHERE WHAT IT READS IS OF BULK AT MOST 1048576: true; the input reads as it did. -/
def tallyGrowsUptoRow : OpenClaim := { program := "yteaajihmfacinaa", sum := "c1e042879f3ddc889ff445dc7c46b2393e542b2508f879bc819407bc539d831d", func := "gavelkind/gavelkindlaw25.TallyGrows", spec := "tallyGrows", inPlace := ["math/bits.Add64", "math/bits.Sub64"], unfollowed := true, recurses := true, plainKeys := false, apart := false, narrowed := true }
def TallyGrowsUptoSaid : Prop := tallyGrowsUptoRow.holds Try.pinned (OpenSpec.upto tallyGrowsSpec)

/-- 'gavelkindlaw25.TallySheets', WHERE WHAT IT READS IS OF BULK AT MOST 1048576: true; the input reads as it did. -/
def tallySheetsUptoRow : OpenClaim := { program := "yteaajihmfacinaa", sum := "c1e042879f3ddc889ff445dc7c46b2393e542b2508f879bc819407bc539d831d", func := "gavelkind/gavelkindlaw25.TallySheets", spec := "tallySheets", inPlace := ["math/bits.Add64", "math/bits.Sub64"], unfollowed := true, recurses := true, plainKeys := false, apart := false, narrowed := true }
def TallySheetsUptoSaid : Prop := tallySheetsUptoRow.holds Try.pinned (OpenSpec.upto tallySheetsSpec)

/-- 'gavelkindlaw25.TallyTells', WHERE WHAT IT READS IS OF BULK AT MOST 1048576: true; the input reads as it did. -/
def tallyTellsUptoRow : OpenClaim := { program := "yteaajihmfacinaa", sum := "c1e042879f3ddc889ff445dc7c46b2393e542b2508f879bc819407bc539d831d", func := "gavelkind/gavelkindlaw25.TallyTells", spec := "tallyTells", inPlace := ["math/bits.Add64", "math/bits.Sub64"], unfollowed := true, recurses := true, plainKeys := false, apart := false, narrowed := true }
def TallyTellsUptoSaid : Prop := tallyTellsUptoRow.holds Try.pinned (OpenSpec.upto tallyTellsSpec)

/-- 'gavelkindlaw25.TallyParts', WHERE WHAT IT READS IS OF BULK AT MOST 1048576: true; the input reads as it did. -/
def tallyPartsUptoRow : OpenClaim := { program := "yteaajihmfacinaa", sum := "c1e042879f3ddc889ff445dc7c46b2393e542b2508f879bc819407bc539d831d", func := "gavelkind/gavelkindlaw25.TallyParts", spec := "tallyParts", inPlace := ["math/bits.Add64", "math/bits.Sub64"], unfollowed := true, recurses := true, plainKeys := false, apart := false, narrowed := true }
def TallyPartsUptoSaid : Prop := tallyPartsUptoRow.holds Try.pinned (OpenSpec.upto tallyPartsSpec)

/-- 'gavelkindlaw25.TallyRuns', WHERE WHAT IT READS IS OF BULK AT MOST 1048576: true; the input reads as it did. -/
def tallyRunsUptoRow : OpenClaim := { program := "yteaajihmfacinaa", sum := "c1e042879f3ddc889ff445dc7c46b2393e542b2508f879bc819407bc539d831d", func := "gavelkind/gavelkindlaw25.TallyRuns", spec := "tallyRuns", inPlace := ["math/bits.Add64", "math/bits.Sub64"], unfollowed := true, recurses := true, plainKeys := false, apart := false, narrowed := true }
def TallyRunsUptoSaid : Prop := tallyRunsUptoRow.holds Try.pinned (OpenSpec.upto tallyRunsSpec)

end Rows
end Go.Proofs.Yteaajihmfacinaa
