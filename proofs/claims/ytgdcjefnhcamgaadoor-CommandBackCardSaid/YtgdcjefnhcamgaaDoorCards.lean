/-
  DERIVED. GIVEN WITH THE SEED: THE CARDS: each row of YtgdcjefnhcamgaaDoorRows.lean that lists a variable, with what it lists TIED to the program's text (the seventh form; the later family's looks); each row that meets fmt, with fmt's text TOLD by the authors' own Lean function (tested against real Go, not proved from fmt's source: count such statements apart). THE CARD IS WHAT COUNTS. Prove the row's statement (the work); the ties are given (YtgdcjefnhcamgaaDoorTie.lean); close each card by the builder's one call (the guide's Derived/Test/ToyasCard.lean, 'card_holds'). Laid BY PROGRAM, IN A SANDBOX (cutbox-door.mjs). By AI agents, Wed Nov 11 2026. No macro, syntax, notation, axiom, sorry.
-/
import Derived.Test.YtgdcjefnhcamgaaDoorRows
import GoSem.ClaimSeven
namespace Go.Proofs.YtgdcjefnhcamgaaDoor
namespace Rows

/-- THE TIED CARD OF 'gavelkindlaw42.CommandTells'. -/
def commandTellsCard : Claim7 := { stood := { row := commandTellsRow, standIns := [], harness := (true, "ebd6d898287aa3934fa411a9f292e315e63c3b868584890049e1674573f999d5"), looks := true }, kinds := [], alts := [], laidByText := true, laidKinds := [.data, .data, .data, .sentinel, .sentinel], laidTests := true, laidLooks := .later }
def CommandTellsCardSaid : Prop := Claim7.holds Tryd.pinned (.plain (OpenSpec.ofChange commandTellsSpec)) commandTellsCard

/-- THE TIED CARD OF 'gavelkindlaw42.CommandReads'. -/
def commandReadsCard : Claim7 := { stood := { row := commandReadsRow, standIns := [], harness := (true, "ebd6d898287aa3934fa411a9f292e315e63c3b868584890049e1674573f999d5"), looks := true }, kinds := [], alts := [], laidByText := true, laidKinds := [.data, .data, .data, .sentinel, .sentinel], laidTests := true, laidLooks := .later }
def CommandReadsCardSaid : Prop := Claim7.holds Tryd.pinned (.plain (OpenSpec.ofChange commandReadsSpec)) commandReadsCard

/-- THE TIED CARD OF 'gavelkindlaw42.CommandBack'. -/
def commandBackCard : Claim7 := { stood := { row := commandBackRow, standIns := [], harness := (true, "ebd6d898287aa3934fa411a9f292e315e63c3b868584890049e1674573f999d5"), looks := true }, kinds := [], alts := [], laidByText := true, laidKinds := [.data, .data, .data, .sentinel, .sentinel], laidTests := true, laidLooks := .later }
def CommandBackCardSaid : Prop := Claim7.holds Tryd.pinned (.plain (OpenSpec.ofChange commandBackSpec)) commandBackCard

/-- THE SECOND FORM's CARD OF 'gavelkindlaw42.CommandTells'. -/
def commandTellsUptoCard : Claim7 := { stood := { row := commandTellsUptoRow, standIns := [], harness := (true, "ebd6d898287aa3934fa411a9f292e315e63c3b868584890049e1674573f999d5"), looks := true }, kinds := [], alts := [], laidByText := true, laidKinds := [.data, .data, .data, .sentinel, .sentinel], laidTests := true, laidLooks := .later }
def CommandTellsUptoCardSaid : Prop := Claim7.holds Tryd.pinned (.plain (OpenSpec.upto commandTellsSpec)) commandTellsUptoCard

/-- THE SECOND FORM's CARD OF 'gavelkindlaw42.CommandReads'. -/
def commandReadsUptoCard : Claim7 := { stood := { row := commandReadsUptoRow, standIns := [], harness := (true, "ebd6d898287aa3934fa411a9f292e315e63c3b868584890049e1674573f999d5"), looks := true }, kinds := [], alts := [], laidByText := true, laidKinds := [.data, .data, .data, .sentinel, .sentinel], laidTests := true, laidLooks := .later }
def CommandReadsUptoCardSaid : Prop := Claim7.holds Tryd.pinned (.plain (OpenSpec.upto commandReadsSpec)) commandReadsUptoCard

/-- THE SECOND FORM's CARD OF 'gavelkindlaw42.CommandBack'. -/
def commandBackUptoCard : Claim7 := { stood := { row := commandBackUptoRow, standIns := [], harness := (true, "ebd6d898287aa3934fa411a9f292e315e63c3b868584890049e1674573f999d5"), looks := true }, kinds := [], alts := [], laidByText := true, laidKinds := [.data, .data, .data, .sentinel, .sentinel], laidTests := true, laidLooks := .later }
def CommandBackUptoCardSaid : Prop := Claim7.holds Tryd.pinned (.plain (OpenSpec.upto commandBackSpec)) commandBackUptoCard
end Rows
end Go.Proofs.YtgdcjefnhcamgaaDoor
