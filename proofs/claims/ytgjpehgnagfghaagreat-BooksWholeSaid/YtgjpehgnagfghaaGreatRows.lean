/-
  No cell of these rows narrows 'for every input' (looked for: loops, veiled, ifaces, maps, wideKeys, modest, calm, conditions, laid).
  DERIVED. THE GIVEN ROWS OF THIS SEAT. 4 by the template 'for every input the law returns true; each argument reads behind the call as it read before'; 0 by the template 'total and deterministic' (their statements: YtgjpehgnagfghaaGreatTotals.lean).
  GIVEN WITH THE SEED: the statements are not yours to turn. If you find one false, say at which input.
  Laid BY PROGRAM, IN A SANDBOX (cutbox-rows.mjs): the forced cells as the released guide's own fill.sh prints them over the translation 680c985e39afe462… (all of the seat's roots in one cut). By AI agents, Wed Nov 11 2026. No macro, syntax, notation, axiom, sorry.
-/
import Derived.Test.YtgjpehgnagfghaaGreatChecked
import GoSem.Claim
import GoSem.ClaimJoined
import GoSem.ClaimMapViews
import Derived.JoinedTies
import Derived.KernelRfl
namespace Go.Proofs.YtgjpehgnagfghaaGreat
/- THE CELL 'sum', in the pinned program and in every row, IS THE sha256 OF THE DUMP (.gsa) THAT YtgjpehgnagfghaaGreatProg.lean LOADS. Nothing in Lean hashes anything: it is a label: what it is worth is what the hold of that sum in a sandbox is worth. -/
noncomputable def Tryz.pinned : Pinned := { name := "ytgjpehgnagfghaagreat", sum := "680c985e39afe462cecbbc77fce38ef0249df30da08de625d9cc57a1a0e94a28", checked := Tryz.checked }
namespace Rows
def none {H : Type} : Left H := { results := [], args := [] }

/-- 'gavelkindlaw26.BooksTell': WHATEVER THE INPUT: true; the input reads as it did. -/
def booksTellSpec : ChangeSpec := { name := "booksTell", fn := fun _ => fun
  | [d1, d2] => { results := [.lit (.bool true)], args := [d1, d2] }
  | _ => none }
def booksTellRow : OpenClaim := { program := "ytgjpehgnagfghaagreat", sum := "680c985e39afe462cecbbc77fce38ef0249df30da08de625d9cc57a1a0e94a28", func := "gavelkind/gavelkindlaw26.BooksTell", spec := "booksTell", inPlace := ["math/bits.Add64", "math/bits.Sub64"], unfollowed := true, recurses := true, apart := false }
def BooksTellSaid : Prop := booksTellRow.holds Tryz.pinned (OpenSpec.ofChange booksTellSpec)

/-- ITS FALSE NEIGHBOUR: 'it returns false'. Refute it at one input. -/
def booksTellWrong : ChangeSpec := { name := "booksTell", fn := fun _ => fun
  | [d1, d2] => { results := [.lit (.bool false)], args := [d1, d2] }
  | _ => none }
def BooksTellWrongFalsely : Prop := booksTellRow.holds Tryz.pinned (OpenSpec.ofChange booksTellWrong)

/-- 'gavelkindlaw26.BooksCopy': WHATEVER THE INPUT: true; the input reads as it did. -/
def booksCopySpec : ChangeSpec := { name := "booksCopy", fn := fun _ => fun
  | [d1, d2] => { results := [.lit (.bool true)], args := [d1, d2] }
  | _ => none }
def booksCopyRow : OpenClaim := { program := "ytgjpehgnagfghaagreat", sum := "680c985e39afe462cecbbc77fce38ef0249df30da08de625d9cc57a1a0e94a28", func := "gavelkind/gavelkindlaw26.BooksCopy", spec := "booksCopy", inPlace := ["math/bits.Add64", "math/bits.Sub64"], unfollowed := true, recurses := true, apart := false }
def BooksCopySaid : Prop := booksCopyRow.holds Tryz.pinned (OpenSpec.ofChange booksCopySpec)

/-- ITS FALSE NEIGHBOUR: 'it returns false'. Refute it at one input. -/
def booksCopyWrong : ChangeSpec := { name := "booksCopy", fn := fun _ => fun
  | [d1, d2] => { results := [.lit (.bool false)], args := [d1, d2] }
  | _ => none }
def BooksCopyWrongFalsely : Prop := booksCopyRow.holds Tryz.pinned (OpenSpec.ofChange booksCopyWrong)

/-- 'gavelkindlaw26.BooksReverse': WHATEVER THE INPUT: true; the input reads as it did. -/
def booksReverseSpec : ChangeSpec := { name := "booksReverse", fn := fun _ => fun
  | [d] => { results := [.lit (.bool true)], args := [d] }
  | _ => none }
def booksReverseRow : OpenClaim := { program := "ytgjpehgnagfghaagreat", sum := "680c985e39afe462cecbbc77fce38ef0249df30da08de625d9cc57a1a0e94a28", func := "gavelkind/gavelkindlaw26.BooksReverse", spec := "booksReverse", inPlace := ["math/bits.Add64", "math/bits.Sub64"], unfollowed := true, recurses := true, apart := false }
def BooksReverseSaid : Prop := booksReverseRow.holds Tryz.pinned (OpenSpec.ofChange booksReverseSpec)

/-- ITS FALSE NEIGHBOUR: 'it returns false'. Refute it at one input. -/
def booksReverseWrong : ChangeSpec := { name := "booksReverse", fn := fun _ => fun
  | [d] => { results := [.lit (.bool false)], args := [d] }
  | _ => none }
def BooksReverseWrongFalsely : Prop := booksReverseRow.holds Tryz.pinned (OpenSpec.ofChange booksReverseWrong)

/-- 'gavelkindlaw26.BooksWhole': WHATEVER THE INPUT: true; the input reads as it did. -/
def booksWholeSpec : ChangeSpec := { name := "booksWhole", fn := fun _ => fun
  | [d] => { results := [.lit (.bool true)], args := [d] }
  | _ => none }
def booksWholeRow : OpenClaim := { program := "ytgjpehgnagfghaagreat", sum := "680c985e39afe462cecbbc77fce38ef0249df30da08de625d9cc57a1a0e94a28", func := "gavelkind/gavelkindlaw26.BooksWhole", spec := "booksWhole", inPlace := ["math/bits.Add64", "math/bits.Sub64"], unfollowed := true, recurses := true, apart := false }
def BooksWholeSaid : Prop := booksWholeRow.holds Tryz.pinned (OpenSpec.ofChange booksWholeSpec)

/-- ITS FALSE NEIGHBOUR: 'it returns false'. Refute it at one input. -/
def booksWholeWrong : ChangeSpec := { name := "booksWhole", fn := fun _ => fun
  | [d] => { results := [.lit (.bool false)], args := [d] }
  | _ => none }
def BooksWholeWrongFalsely : Prop := booksWholeRow.holds Tryz.pinned (OpenSpec.ofChange booksWholeWrong)

/- THE SECOND FORM. 'bulk': how many values and letters a reading holds, each counted each time it is reached (what is shared counts as often as it is met; a slice's spare places count too). A statement '..UptoSaid' is the law's where the arguments, and the package variables that the reading takes, are together of bulk at most 1048576: NARROWER than '..Said'. Prove '..Said' where nothing that the law and all that it calls make is longer than what came in: it says more and counts as full. Else prove '..UptoSaid'. A law counts once. -/
mutual
def uptoBulk {H : Type} : DataW H → Nat
  | .lit (.string bytes) => bytes.length + 1
  | .lit _ => 1
  | .nil => 1
  | .ptr d => uptoBulk d + 1
  | .slice elems spare => uptoBulkAll elems + uptoBulkAll spare + 1
  | .agg parts => uptoBulkAll parts + 1
  | .iface _ d => uptoBulk d + 1
  | .map entries => uptoBulkEntries entries + 1
  | .held _ => 1
def uptoBulkAll {H : Type} : List (DataW H) → Nat
  | [] => 0
  | d :: r => uptoBulk d + uptoBulkAll r
def uptoBulkEntries {H : Type} : List (Lit × DataW H) → Nat
  | [] => 0
  | x :: r => uptoBulkEntry x + uptoBulkEntries r
def uptoBulkEntry {H : Type} : Lit × DataW H → Nat
  | (.string bytes, d) => bytes.length + uptoBulk d + 1
  | (_, d) => uptoBulk d + 1
 end
def uptoSmall : (H : Type) → List (DataW H) → Bool := fun _ ds => decide (uptoBulkAll ds ≤ 1048576)
def OpenSpec.upto (s : _root_.Go.ChangeSpec) : _root_.Go.OpenSpec := { _root_.Go.OpenSpec.ofChange s with cond := some uptoSmall }

/-- 'gavelkindlaw26.BooksTell', WHERE WHAT IT READS IS OF BULK AT MOST 1048576: true; the input reads as it did. -/
def booksTellUptoRow : OpenClaim := { program := "ytgjpehgnagfghaagreat", sum := "680c985e39afe462cecbbc77fce38ef0249df30da08de625d9cc57a1a0e94a28", func := "gavelkind/gavelkindlaw26.BooksTell", spec := "booksTell", inPlace := ["math/bits.Add64", "math/bits.Sub64"], unfollowed := true, recurses := true, apart := false, narrowed := true }
def BooksTellUptoSaid : Prop := booksTellUptoRow.holds Tryz.pinned (OpenSpec.upto booksTellSpec)

/-- 'gavelkindlaw26.BooksCopy', WHERE WHAT IT READS IS OF BULK AT MOST 1048576: true; the input reads as it did. -/
def booksCopyUptoRow : OpenClaim := { program := "ytgjpehgnagfghaagreat", sum := "680c985e39afe462cecbbc77fce38ef0249df30da08de625d9cc57a1a0e94a28", func := "gavelkind/gavelkindlaw26.BooksCopy", spec := "booksCopy", inPlace := ["math/bits.Add64", "math/bits.Sub64"], unfollowed := true, recurses := true, apart := false, narrowed := true }
def BooksCopyUptoSaid : Prop := booksCopyUptoRow.holds Tryz.pinned (OpenSpec.upto booksCopySpec)

/-- 'gavelkindlaw26.BooksReverse', WHERE WHAT IT READS IS OF BULK AT MOST 1048576: true; the input reads as it did. -/
def booksReverseUptoRow : OpenClaim := { program := "ytgjpehgnagfghaagreat", sum := "680c985e39afe462cecbbc77fce38ef0249df30da08de625d9cc57a1a0e94a28", func := "gavelkind/gavelkindlaw26.BooksReverse", spec := "booksReverse", inPlace := ["math/bits.Add64", "math/bits.Sub64"], unfollowed := true, recurses := true, apart := false, narrowed := true }
def BooksReverseUptoSaid : Prop := booksReverseUptoRow.holds Tryz.pinned (OpenSpec.upto booksReverseSpec)

/-- 'gavelkindlaw26.BooksWhole', WHERE WHAT IT READS IS OF BULK AT MOST 1048576: true; the input reads as it did. -/
def booksWholeUptoRow : OpenClaim := { program := "ytgjpehgnagfghaagreat", sum := "680c985e39afe462cecbbc77fce38ef0249df30da08de625d9cc57a1a0e94a28", func := "gavelkind/gavelkindlaw26.BooksWhole", spec := "booksWhole", inPlace := ["math/bits.Add64", "math/bits.Sub64"], unfollowed := true, recurses := true, apart := false, narrowed := true }
def BooksWholeUptoSaid : Prop := booksWholeUptoRow.holds Tryz.pinned (OpenSpec.upto booksWholeSpec)

end Rows
end Go.Proofs.YtgjpehgnagfghaaGreat
