/-
  No cell of these rows narrows 'for every input' (looked for: loops, veiled, ifaces, maps, wideKeys, modest, calm, conditions, laid).
  DERIVED. THE GIVEN ROWS OF THIS SEAT. 4 by the template 'for every input the law returns true; each argument reads behind the call as it read before'; 0 by the template 'total and deterministic' (their statements: YtabicbgeoiilmaaGreatTotals.lean).
  GIVEN WITH THE SEED: the statements are not yours to turn. If you find one false, say at which input.
  Laid BY PROGRAM, IN A SANDBOX (cutbox-rows.mjs): the forced cells as the released guide's own fill.sh prints them over the translation 0428c1ad12c65e9f… (all of the seat's roots in one cut). By AI agents, Wed Nov 11 2026. No macro, syntax, notation, axiom, sorry.
-/
import Derived.Test.YtabicbgeoiilmaaGreatChecked
import GoSem.Claim
import GoSem.ClaimJoined
import GoSem.ClaimMapViews
import Derived.JoinedTies
import Derived.KernelRfl
namespace Go.Proofs.YtabicbgeoiilmaaGreat
/- THE CELL 'sum', in the pinned program and in every row, IS THE sha256 OF THE DUMP (.gsa) THAT YtabicbgeoiilmaaGreatProg.lean LOADS. Nothing in Lean hashes anything: it is a label: what it is worth is what the hold of that sum in a sandbox is worth. -/
noncomputable def Tryz.pinned : Pinned := { name := "ytabicbgeoiilmaagreat", sum := "0428c1ad12c65e9f940bdc48da6b3a0f8d4f9dedbe9438381e93fb938fc20b95", checked := Tryz.checked }
namespace Rows
def none {H : Type} : Left H := { results := [], args := [] }

/-- 'gavelkindlaw43.ApplyTells': WHATEVER THE INPUT: true; the input reads as it did. -/
def applyTellsSpec : ChangeSpec := { name := "applyTells", fn := fun _ => fun
  | [d1, d2] => { results := [.lit (.bool true)], args := [d1, d2] }
  | _ => none }
def applyTellsRow : OpenClaim := { program := "ytabicbgeoiilmaagreat", sum := "0428c1ad12c65e9f940bdc48da6b3a0f8d4f9dedbe9438381e93fb938fc20b95", func := "gavelkind/gavelkindlaw43.ApplyTells", spec := "applyTells", inPlace := ["math/bits.Add64", "math/bits.Sub64"], unfollowed := true, recurses := true, apart := false }
def ApplyTellsSaid : Prop := applyTellsRow.holds Tryz.pinned (OpenSpec.ofChange applyTellsSpec)

/-- ITS FALSE NEIGHBOUR: 'it returns false'. Refute it at one input. -/
def applyTellsWrong : ChangeSpec := { name := "applyTells", fn := fun _ => fun
  | [d1, d2] => { results := [.lit (.bool false)], args := [d1, d2] }
  | _ => none }
def ApplyTellsWrongFalsely : Prop := applyTellsRow.holds Tryz.pinned (OpenSpec.ofChange applyTellsWrong)

/-- 'gavelkindlaw43.ApplyStays': WHATEVER THE INPUT: true; the input reads as it did. -/
def applyStaysSpec : ChangeSpec := { name := "applyStays", fn := fun _ => fun
  | [d1, d2] => { results := [.lit (.bool true)], args := [d1, d2] }
  | _ => none }
def applyStaysRow : OpenClaim := { program := "ytabicbgeoiilmaagreat", sum := "0428c1ad12c65e9f940bdc48da6b3a0f8d4f9dedbe9438381e93fb938fc20b95", func := "gavelkind/gavelkindlaw43.ApplyStays", spec := "applyStays", inPlace := ["math/bits.Add64", "math/bits.Sub64"], unfollowed := true, recurses := true, apart := false }
def ApplyStaysSaid : Prop := applyStaysRow.holds Tryz.pinned (OpenSpec.ofChange applyStaysSpec)

/-- ITS FALSE NEIGHBOUR: 'it returns false'. Refute it at one input. -/
def applyStaysWrong : ChangeSpec := { name := "applyStays", fn := fun _ => fun
  | [d1, d2] => { results := [.lit (.bool false)], args := [d1, d2] }
  | _ => none }
def ApplyStaysWrongFalsely : Prop := applyStaysRow.holds Tryz.pinned (OpenSpec.ofChange applyStaysWrong)

/-- 'gavelkindlaw43.ApplyLocks': WHATEVER THE INPUT: true; the input reads as it did. -/
def applyLocksSpec : ChangeSpec := { name := "applyLocks", fn := fun _ => fun
  | [d1, d2] => { results := [.lit (.bool true)], args := [d1, d2] }
  | _ => none }
def applyLocksRow : OpenClaim := { program := "ytabicbgeoiilmaagreat", sum := "0428c1ad12c65e9f940bdc48da6b3a0f8d4f9dedbe9438381e93fb938fc20b95", func := "gavelkind/gavelkindlaw43.ApplyLocks", spec := "applyLocks", inPlace := ["math/bits.Add64", "math/bits.Sub64"], unfollowed := true, recurses := true, apart := false }
def ApplyLocksSaid : Prop := applyLocksRow.holds Tryz.pinned (OpenSpec.ofChange applyLocksSpec)

/-- ITS FALSE NEIGHBOUR: 'it returns false'. Refute it at one input. -/
def applyLocksWrong : ChangeSpec := { name := "applyLocks", fn := fun _ => fun
  | [d1, d2] => { results := [.lit (.bool false)], args := [d1, d2] }
  | _ => none }
def ApplyLocksWrongFalsely : Prop := applyLocksRow.holds Tryz.pinned (OpenSpec.ofChange applyLocksWrong)

/-- 'gavelkindlaw43.ApplyTurns': WHATEVER THE INPUT: true; the input reads as it did. -/
def applyTurnsSpec : ChangeSpec := { name := "applyTurns", fn := fun _ => fun
  | [d1, d2] => { results := [.lit (.bool true)], args := [d1, d2] }
  | _ => none }
def applyTurnsRow : OpenClaim := { program := "ytabicbgeoiilmaagreat", sum := "0428c1ad12c65e9f940bdc48da6b3a0f8d4f9dedbe9438381e93fb938fc20b95", func := "gavelkind/gavelkindlaw43.ApplyTurns", spec := "applyTurns", inPlace := ["math/bits.Add64", "math/bits.Sub64"], unfollowed := true, recurses := true, apart := false }
def ApplyTurnsSaid : Prop := applyTurnsRow.holds Tryz.pinned (OpenSpec.ofChange applyTurnsSpec)

/-- ITS FALSE NEIGHBOUR: 'it returns false'. Refute it at one input. -/
def applyTurnsWrong : ChangeSpec := { name := "applyTurns", fn := fun _ => fun
  | [d1, d2] => { results := [.lit (.bool false)], args := [d1, d2] }
  | _ => none }
def ApplyTurnsWrongFalsely : Prop := applyTurnsRow.holds Tryz.pinned (OpenSpec.ofChange applyTurnsWrong)

/- THE SECOND FORM. 'bulk': how many values and letters a reading holds, each counted each time it is reached (what is shared counts as often as it is met; a slice's spare places count too). A statement '..UptoSaid' is the law's where the arguments, and the package variables that the reading takes, are together of bulk at most 1048576: NARROWER than '..Said'. Prove '..Said' where nothing that the law and all that it calls make is longer than what came in: it says more and counts as full. Else prove '..UptoSaid'. A law counts once. -/
mutual
def uptoBulk {H : Type} : DataW H → Nat
  | .lit (.string bytes) => bytes.length + 1
  | .lit _ => 1
  | .nil => 1
  | .ptr d => uptoBulk d + 1
  | .slice elems spare => uptoBulkAll elems + uptoBulkAll spare + 1
  | .agg parts => uptoBulkAll parts + 1
  | .iface _ d => uptoBulk d + 1
  | .map entries => uptoBulkEntries entries + 1
  | .held _ => 1
def uptoBulkAll {H : Type} : List (DataW H) → Nat
  | [] => 0
  | d :: r => uptoBulk d + uptoBulkAll r
def uptoBulkEntries {H : Type} : List (Lit × DataW H) → Nat
  | [] => 0
  | x :: r => uptoBulkEntry x + uptoBulkEntries r
def uptoBulkEntry {H : Type} : Lit × DataW H → Nat
  | (.string bytes, d) => bytes.length + uptoBulk d + 1
  | (_, d) => uptoBulk d + 1
 end
def uptoSmall : (H : Type) → List (DataW H) → Bool := fun _ ds => decide (uptoBulkAll ds ≤ 1048576)
def OpenSpec.upto (s : _root_.Go.ChangeSpec) : _root_.Go.OpenSpec := { _root_.Go.OpenSpec.ofChange s with cond := some uptoSmall }

/-- 'gavelkindlaw43.ApplyTells', WHERE WHAT IT READS IS OF BULK AT MOST 1048576: true; the input reads as it did. -/
def applyTellsUptoRow : OpenClaim := { program := "ytabicbgeoiilmaagreat", sum := "0428c1ad12c65e9f940bdc48da6b3a0f8d4f9dedbe9438381e93fb938fc20b95", func := "gavelkind/gavelkindlaw43.ApplyTells", spec := "applyTells", inPlace := ["math/bits.Add64", "math/bits.Sub64"], unfollowed := true, recurses := true, apart := false, narrowed := true }
def ApplyTellsUptoSaid : Prop := applyTellsUptoRow.holds Tryz.pinned (OpenSpec.upto applyTellsSpec)

/-- 'gavelkindlaw43.ApplyStays', WHERE WHAT IT READS IS OF BULK AT MOST 1048576: true; the input reads as it did. -/
def applyStaysUptoRow : OpenClaim := { program := "ytabicbgeoiilmaagreat", sum := "0428c1ad12c65e9f940bdc48da6b3a0f8d4f9dedbe9438381e93fb938fc20b95", func := "gavelkind/gavelkindlaw43.ApplyStays", spec := "applyStays", inPlace := ["math/bits.Add64", "math/bits.Sub64"], unfollowed := true, recurses := true, apart := false, narrowed := true }
def ApplyStaysUptoSaid : Prop := applyStaysUptoRow.holds Tryz.pinned (OpenSpec.upto applyStaysSpec)

/-- 'gavelkindlaw43.ApplyLocks', WHERE WHAT IT READS IS OF BULK AT MOST 1048576: true; the input reads as it did. -/
def applyLocksUptoRow : OpenClaim := { program := "ytabicbgeoiilmaagreat", sum := "0428c1ad12c65e9f940bdc48da6b3a0f8d4f9dedbe9438381e93fb938fc20b95", func := "gavelkind/gavelkindlaw43.ApplyLocks", spec := "applyLocks", inPlace := ["math/bits.Add64", "math/bits.Sub64"], unfollowed := true, recurses := true, apart := false, narrowed := true }
def ApplyLocksUptoSaid : Prop := applyLocksUptoRow.holds Tryz.pinned (OpenSpec.upto applyLocksSpec)

/-- 'gavelkindlaw43.ApplyTurns', WHERE WHAT IT READS IS OF BULK AT MOST 1048576: true; the input reads as it did. -/
def applyTurnsUptoRow : OpenClaim := { program := "ytabicbgeoiilmaagreat", sum := "0428c1ad12c65e9f940bdc48da6b3a0f8d4f9dedbe9438381e93fb938fc20b95", func := "gavelkind/gavelkindlaw43.ApplyTurns", spec := "applyTurns", inPlace := ["math/bits.Add64", "math/bits.Sub64"], unfollowed := true, recurses := true, apart := false, narrowed := true }
def ApplyTurnsUptoSaid : Prop := applyTurnsUptoRow.holds Tryz.pinned (OpenSpec.upto applyTurnsSpec)

end Rows
end Go.Proofs.YtabicbgeoiilmaaGreat
