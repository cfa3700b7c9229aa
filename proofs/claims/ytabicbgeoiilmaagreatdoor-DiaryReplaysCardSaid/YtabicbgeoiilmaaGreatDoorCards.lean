/-
  DERIVED. GIVEN WITH THE SEED: THE CARDS: each row of YtabicbgeoiilmaaGreatDoorRows.lean that lists a variable, with what it lists TIED to the program's text (the seventh form; the later family's looks); each row that meets fmt, with fmt's text TOLD by the authors' own Lean function (tested against real Go, not proved from fmt's source: count such statements apart). THE CARD IS WHAT COUNTS. Prove the row's statement (the work); the ties are given (YtabicbgeoiilmaaGreatDoorTie.lean); close each card by the builder's one call (the guide's Derived/Test/ToyasCard.lean, 'card_holds'). Laid BY PROGRAM, IN A SANDBOX (cutbox-door.mjs). By AI agents, Wed Nov 11 2026. No macro, syntax, notation, axiom, sorry.
-/
import Derived.Test.YtabicbgeoiilmaaGreatDoorRows
import GoSem.ClaimSeven
namespace Go.Proofs.YtabicbgeoiilmaaGreatDoor
namespace Rows

/-- THE TIED CARD OF 'gavelkindlaw44.DiaryWrites'. -/
def diaryWritesCard : Claim7 := { stood := { row := diaryWritesRow, standIns := [], harness := (true, "ebeca086c19dce95351442f8fb3c56672d0acb885522d164d17d14d4da4c05b2"), looks := true }, kinds := [], alts := [], laidByText := true, laidKinds := [.data, .data, .data, .sentinel, .sentinel], laidTests := true, laidLooks := .later }
def DiaryWritesCardSaid : Prop := Claim7.holds Tryz.pinned (.plain (OpenSpec.ofChange diaryWritesSpec)) diaryWritesCard

/-- THE TIED CARD OF 'gavelkindlaw44.DiaryReads'. -/
def diaryReadsCard : Claim7 := { stood := { row := diaryReadsRow, standIns := [], harness := (true, "ebeca086c19dce95351442f8fb3c56672d0acb885522d164d17d14d4da4c05b2"), looks := true }, kinds := [], alts := [], laidByText := true, laidKinds := [.data, .data, .data, .sentinel, .sentinel], laidTests := true, laidLooks := .later }
def DiaryReadsCardSaid : Prop := Claim7.holds Tryz.pinned (.plain (OpenSpec.ofChange diaryReadsSpec)) diaryReadsCard

/-- THE TIED CARD OF 'gavelkindlaw44.DiaryBack'. -/
def diaryBackCard : Claim7 := { stood := { row := diaryBackRow, standIns := [], harness := (true, "ebeca086c19dce95351442f8fb3c56672d0acb885522d164d17d14d4da4c05b2"), looks := true }, kinds := [], alts := [], laidByText := true, laidKinds := [.data, .data, .data, .sentinel, .sentinel], laidTests := true, laidLooks := .later }
def DiaryBackCardSaid : Prop := Claim7.holds Tryz.pinned (.plain (OpenSpec.ofChange diaryBackSpec)) diaryBackCard

/-- THE TIED CARD OF 'gavelkindlaw44.DiaryReplays'. -/
def diaryReplaysCard : Claim7 := { stood := { row := diaryReplaysRow, standIns := [], harness := (true, "ebeca086c19dce95351442f8fb3c56672d0acb885522d164d17d14d4da4c05b2"), looks := true }, kinds := [], alts := [], laidByText := true, laidKinds := [.data, .data, .data, .sentinel, .sentinel], laidTests := true, laidLooks := .later }
def DiaryReplaysCardSaid : Prop := Claim7.holds Tryz.pinned (.plain (OpenSpec.ofChange diaryReplaysSpec)) diaryReplaysCard

/-- THE SECOND FORM's CARD OF 'gavelkindlaw44.DiaryWrites'. -/
def diaryWritesUptoCard : Claim7 := { stood := { row := diaryWritesUptoRow, standIns := [], harness := (true, "ebeca086c19dce95351442f8fb3c56672d0acb885522d164d17d14d4da4c05b2"), looks := true }, kinds := [], alts := [], laidByText := true, laidKinds := [.data, .data, .data, .sentinel, .sentinel], laidTests := true, laidLooks := .later }
def DiaryWritesUptoCardSaid : Prop := Claim7.holds Tryz.pinned (.plain (OpenSpec.upto diaryWritesSpec)) diaryWritesUptoCard

/-- THE SECOND FORM's CARD OF 'gavelkindlaw44.DiaryReads'. -/
def diaryReadsUptoCard : Claim7 := { stood := { row := diaryReadsUptoRow, standIns := [], harness := (true, "ebeca086c19dce95351442f8fb3c56672d0acb885522d164d17d14d4da4c05b2"), looks := true }, kinds := [], alts := [], laidByText := true, laidKinds := [.data, .data, .data, .sentinel, .sentinel], laidTests := true, laidLooks := .later }
def DiaryReadsUptoCardSaid : Prop := Claim7.holds Tryz.pinned (.plain (OpenSpec.upto diaryReadsSpec)) diaryReadsUptoCard

/-- THE SECOND FORM's CARD OF 'gavelkindlaw44.DiaryBack'. -/
def diaryBackUptoCard : Claim7 := { stood := { row := diaryBackUptoRow, standIns := [], harness := (true, "ebeca086c19dce95351442f8fb3c56672d0acb885522d164d17d14d4da4c05b2"), looks := true }, kinds := [], alts := [], laidByText := true, laidKinds := [.data, .data, .data, .sentinel, .sentinel], laidTests := true, laidLooks := .later }
def DiaryBackUptoCardSaid : Prop := Claim7.holds Tryz.pinned (.plain (OpenSpec.upto diaryBackSpec)) diaryBackUptoCard

/-- THE SECOND FORM's CARD OF 'gavelkindlaw44.DiaryReplays'. -/
def diaryReplaysUptoCard : Claim7 := { stood := { row := diaryReplaysUptoRow, standIns := [], harness := (true, "ebeca086c19dce95351442f8fb3c56672d0acb885522d164d17d14d4da4c05b2"), looks := true }, kinds := [], alts := [], laidByText := true, laidKinds := [.data, .data, .data, .sentinel, .sentinel], laidTests := true, laidLooks := .later }
def DiaryReplaysUptoCardSaid : Prop := Claim7.holds Tryz.pinned (.plain (OpenSpec.upto diaryReplaysSpec)) diaryReplaysUptoCard
end Rows
end Go.Proofs.YtabicbgeoiilmaaGreatDoor
