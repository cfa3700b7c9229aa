/-
  No cell of these rows narrows 'for every input' (looked for: loops, veiled, ifaces, maps, wideKeys, modest, calm, conditions, laid).
  DERIVED. THE GIVEN ROWS OF THIS SEAT. 5 by the template 'for every input the law returns true; each argument reads behind the call as it read before'; 0 by the template 'total and deterministic' (their statements: YtgmcfgegldmieaaTotals.lean).
  GIVEN WITH THE SEED: the statements are not yours to turn. If you find one false, say at which input.
  Laid BY PROGRAM, IN A SANDBOX (cutbox-rows.mjs): the forced cells as the released guide's own fill.sh prints them over the translation 00705a17aa055273… (all of the seat's roots in one cut). By AI agents, Wed Nov 11 2026. No macro, syntax, notation, axiom, sorry.
-/
import Derived.Test.YtgmcfgegldmieaaChecked
import GoSem.Claim
import GoSem.ClaimJoined
import GoSem.ClaimMapViews
import Derived.JoinedTies
import Derived.KernelRfl
namespace Go.Proofs.Ytgmcfgegldmieaa
/- THE CELL 'sum', in the pinned program and in every row, IS THE sha256 OF THE DUMP (.gsa) THAT YtgmcfgegldmieaaProg.lean LOADS. Nothing in Lean hashes anything: it is a label: what it is worth is what the hold of that sum in a sandbox is worth. -/
noncomputable def Try.pinned : Pinned := { name := "ytgmcfgegldmieaa", sum := "00705a17aa0552738d2a681f8965a974942e19b3bbf0fa1631d38bd1b401160a", checked := Try.checked }
namespace Rows
def none {H : Type} : Left H := { results := [], args := [] }

/-- 'gavelkindlaw23.EntryTells': WHATEVER THE INPUT: true; the input reads as it did. -/
def entryTellsSpec : ChangeSpec := { name := "entryTells", fn := fun _ => fun
  | [d1, d2, d3] => { results := [.lit (.bool true)], args := [d1, d2, d3] }
  | _ => none }
def entryTellsRow : OpenClaim := { program := "ytgmcfgegldmieaa", sum := "00705a17aa0552738d2a681f8965a974942e19b3bbf0fa1631d38bd1b401160a", func := "gavelkind/gavelkindlaw23.EntryTells", spec := "entryTells", inPlace := ["math/bits.Add64", "math/bits.Sub64"], unfollowed := true, recurses := true, apart := false }
def EntryTellsSaid : Prop := entryTellsRow.holds Try.pinned (OpenSpec.ofChange entryTellsSpec)

/-- ITS FALSE NEIGHBOUR: 'it returns false'. Refute it at one input. -/
def entryTellsWrong : ChangeSpec := { name := "entryTells", fn := fun _ => fun
  | [d1, d2, d3] => { results := [.lit (.bool false)], args := [d1, d2, d3] }
  | _ => none }
def EntryTellsWrongFalsely : Prop := entryTellsRow.holds Try.pinned (OpenSpec.ofChange entryTellsWrong)

/-- 'gavelkindlaw23.EntrySums': WHATEVER THE INPUT: true; the input reads as it did. -/
def entrySumsSpec : ChangeSpec := { name := "entrySums", fn := fun _ => fun
  | [d1, d2] => { results := [.lit (.bool true)], args := [d1, d2] }
  | _ => none }
def entrySumsRow : OpenClaim := { program := "ytgmcfgegldmieaa", sum := "00705a17aa0552738d2a681f8965a974942e19b3bbf0fa1631d38bd1b401160a", func := "gavelkind/gavelkindlaw23.EntrySums", spec := "entrySums", inPlace := ["math/bits.Add64", "math/bits.Sub64"], unfollowed := true, recurses := true, apart := false }
def EntrySumsSaid : Prop := entrySumsRow.holds Try.pinned (OpenSpec.ofChange entrySumsSpec)

/-- ITS FALSE NEIGHBOUR: 'it returns false'. Refute it at one input. -/
def entrySumsWrong : ChangeSpec := { name := "entrySums", fn := fun _ => fun
  | [d1, d2] => { results := [.lit (.bool false)], args := [d1, d2] }
  | _ => none }
def EntrySumsWrongFalsely : Prop := entrySumsRow.holds Try.pinned (OpenSpec.ofChange entrySumsWrong)

/-- 'gavelkindlaw23.EntryBalances': WHATEVER THE INPUT: true; the input reads as it did. -/
def entryBalancesSpec : ChangeSpec := { name := "entryBalances", fn := fun _ => fun
  | [d1, d2, d3] => { results := [.lit (.bool true)], args := [d1, d2, d3] }
  | _ => none }
def entryBalancesRow : OpenClaim := { program := "ytgmcfgegldmieaa", sum := "00705a17aa0552738d2a681f8965a974942e19b3bbf0fa1631d38bd1b401160a", func := "gavelkind/gavelkindlaw23.EntryBalances", spec := "entryBalances", inPlace := ["math/bits.Add64", "math/bits.Sub64"], unfollowed := true, recurses := true, apart := false }
def EntryBalancesSaid : Prop := entryBalancesRow.holds Try.pinned (OpenSpec.ofChange entryBalancesSpec)

/-- ITS FALSE NEIGHBOUR: 'it returns false'. Refute it at one input. -/
def entryBalancesWrong : ChangeSpec := { name := "entryBalances", fn := fun _ => fun
  | [d1, d2, d3] => { results := [.lit (.bool false)], args := [d1, d2, d3] }
  | _ => none }
def EntryBalancesWrongFalsely : Prop := entryBalancesRow.holds Try.pinned (OpenSpec.ofChange entryBalancesWrong)

/-- 'gavelkindlaw23.EntryTurns': WHATEVER THE INPUT: true; the input reads as it did. -/
def entryTurnsSpec : ChangeSpec := { name := "entryTurns", fn := fun _ => fun
  | [d1, d2, d3] => { results := [.lit (.bool true)], args := [d1, d2, d3] }
  | _ => none }
def entryTurnsRow : OpenClaim := { program := "ytgmcfgegldmieaa", sum := "00705a17aa0552738d2a681f8965a974942e19b3bbf0fa1631d38bd1b401160a", func := "gavelkind/gavelkindlaw23.EntryTurns", spec := "entryTurns", inPlace := ["math/bits.Add64", "math/bits.Sub64"], unfollowed := true, recurses := true, apart := false }
def EntryTurnsSaid : Prop := entryTurnsRow.holds Try.pinned (OpenSpec.ofChange entryTurnsSpec)

/-- ITS FALSE NEIGHBOUR: 'it returns false'. Refute it at one input. -/
def entryTurnsWrong : ChangeSpec := { name := "entryTurns", fn := fun _ => fun
  | [d1, d2, d3] => { results := [.lit (.bool false)], args := [d1, d2, d3] }
  | _ => none }
def EntryTurnsWrongFalsely : Prop := entryTurnsRow.holds Try.pinned (OpenSpec.ofChange entryTurnsWrong)

/-- 'gavelkindlaw23.EntryParts': WHATEVER THE INPUT: true; the input reads as it did. -/
def entryPartsSpec : ChangeSpec := { name := "entryParts", fn := fun _ => fun
  | [d1, d2, d3] => { results := [.lit (.bool true)], args := [d1, d2, d3] }
  | _ => none }
def entryPartsRow : OpenClaim := { program := "ytgmcfgegldmieaa", sum := "00705a17aa0552738d2a681f8965a974942e19b3bbf0fa1631d38bd1b401160a", func := "gavelkind/gavelkindlaw23.EntryParts", spec := "entryParts", inPlace := ["math/bits.Add64", "math/bits.Sub64"], unfollowed := true, recurses := true, apart := false }
def EntryPartsSaid : Prop := entryPartsRow.holds Try.pinned (OpenSpec.ofChange entryPartsSpec)

/-- ITS FALSE NEIGHBOUR: 'it returns false'. Refute it at one input. -/
def entryPartsWrong : ChangeSpec := { name := "entryParts", fn := fun _ => fun
  | [d1, d2, d3] => { results := [.lit (.bool false)], args := [d1, d2, d3] }
  | _ => none }
def EntryPartsWrongFalsely : Prop := entryPartsRow.holds Try.pinned (OpenSpec.ofChange entryPartsWrong)

/- THE SECOND FORM. 'bulk': how many values and letters a reading holds, each counted each time it is reached (what is shared counts as often as it is met; a slice's spare places count too). A statement '..UptoSaid' is the law's where the arguments, and the package variables that the reading takes, are together of bulk at most 1048576: NARROWER than '..Said'. Prove '..Said' where nothing that the law and all that it calls make is longer than what came in: it says more and counts as full. Else prove '..UptoSaid'. A law counts once. -/
mutual
def uptoBulk {H : Type} : DataW H → Nat
  | .lit (.string bytes) => bytes.length + 1
  | .lit _ => 1
  | .nil => 1
  | .ptr d => uptoBulk d + 1
  | .slice elems spare => uptoBulkAll elems + uptoBulkAll spare + 1
  | .agg parts => uptoBulkAll parts + 1
  | .iface _ d => uptoBulk d + 1
  | .map entries => uptoBulkEntries entries + 1
  | .held _ => 1
def uptoBulkAll {H : Type} : List (DataW H) → Nat
  | [] => 0
  | d :: r => uptoBulk d + uptoBulkAll r
def uptoBulkEntries {H : Type} : List (Lit × DataW H) → Nat
  | [] => 0
  | x :: r => uptoBulkEntry x + uptoBulkEntries r
def uptoBulkEntry {H : Type} : Lit × DataW H → Nat
  | (.string bytes, d) => bytes.length + uptoBulk d + 1
  | (_, d) => uptoBulk d + 1
 end
def uptoSmall : (H : Type) → List (DataW H) → Bool := fun _ ds => decide (uptoBulkAll ds ≤ 1048576)
def OpenSpec.upto (s : _root_.Go.ChangeSpec) : _root_.Go.OpenSpec := { _root_.Go.OpenSpec.ofChange s with cond := some uptoSmall }

/-- 'gavelkindlaw23.EntryTells', WHERE WHAT IT READS IS OF BULK AT MOST 1048576: true; the input reads as it did. -/
def entryTellsUptoRow : OpenClaim := { program := "ytgmcfgegldmieaa", sum := "00705a17aa0552738d2a681f8965a974942e19b3bbf0fa1631d38bd1b401160a", func := "gavelkind/gavelkindlaw23.EntryTells", spec := "entryTells", inPlace := ["math/bits.Add64", "math/bits.Sub64"], unfollowed := true, recurses := true, apart := false, narrowed := true }
def EntryTellsUptoSaid : Prop := entryTellsUptoRow.holds Try.pinned (OpenSpec.upto entryTellsSpec)

/-- 'gavelkindlaw23.EntrySums', WHERE WHAT IT READS IS OF BULK AT MOST 1048576: true; the input reads as it did. -/
def entrySumsUptoRow : OpenClaim := { program := "ytgmcfgegldmieaa", sum := "00705a17aa0552738d2a681f8965a974942e19b3bbf0fa1631d38bd1b401160a", func := "gavelkind/gavelkindlaw23.EntrySums", spec := "entrySums", inPlace := ["math/bits.Add64", "math/bits.Sub64"], unfollowed := true, recurses := true, apart := false, narrowed := true }
def EntrySumsUptoSaid : Prop := entrySumsUptoRow.holds Try.pinned (OpenSpec.upto entrySumsSpec)

/-- 'gavelkindlaw23.EntryBalances', WHERE WHAT IT READS IS OF BULK AT MOST 1048576: true; the input reads as it did. -/
def entryBalancesUptoRow : OpenClaim := { program := "ytgmcfgegldmieaa", sum := "00705a17aa0552738d2a681f8965a974942e19b3bbf0fa1631d38bd1b401160a", func := "gavelkind/gavelkindlaw23.EntryBalances", spec := "entryBalances", inPlace := ["math/bits.Add64", "math/bits.Sub64"], unfollowed := true, recurses := true, apart := false, narrowed := true }
def EntryBalancesUptoSaid : Prop := entryBalancesUptoRow.holds Try.pinned (OpenSpec.upto entryBalancesSpec)

/-- 'gavelkindlaw23.EntryTurns', WHERE WHAT IT READS IS OF BULK AT MOST 1048576: true; the input reads as it did. -/
def entryTurnsUptoRow : OpenClaim := { program := "ytgmcfgegldmieaa", sum := "00705a17aa0552738d2a681f8965a974942e19b3bbf0fa1631d38bd1b401160a", func := "gavelkind/gavelkindlaw23.EntryTurns", spec := "entryTurns", inPlace := ["math/bits.Add64", "math/bits.Sub64"], unfollowed := true, recurses := true, apart := false, narrowed := true }
def EntryTurnsUptoSaid : Prop := entryTurnsUptoRow.holds Try.pinned (OpenSpec.upto entryTurnsSpec)

/-- 'gavelkindlaw23.EntryParts', WHERE WHAT IT READS IS OF BULK AT MOST 1048576: true; the input reads as it did. -/
def entryPartsUptoRow : OpenClaim := { program := "ytgmcfgegldmieaa", sum := "00705a17aa0552738d2a681f8965a974942e19b3bbf0fa1631d38bd1b401160a", func := "gavelkind/gavelkindlaw23.EntryParts", spec := "entryParts", inPlace := ["math/bits.Add64", "math/bits.Sub64"], unfollowed := true, recurses := true, apart := false, narrowed := true }
def EntryPartsUptoSaid : Prop := entryPartsUptoRow.holds Try.pinned (OpenSpec.upto entryPartsSpec)

end Rows
end Go.Proofs.Ytgmcfgegldmieaa
