/-
  DERIVED. GIVEN WITH THE SEED: THE CARDS: each row of YtccmidojhagppaaDoorRows.lean that lists a variable, with what it lists TIED to the program's text (the seventh form; the later family's looks); each row that meets fmt, with fmt's text TOLD by the authors' own Lean function (tested against real Go, not proved from fmt's source: count such statements apart). THE CARD IS WHAT COUNTS. Prove the row's statement (the work); the ties are given (YtccmidojhagppaaDoorTie.lean); close each card by the builder's one call (the guide's Derived/Test/ToyasCard.lean, 'card_holds'). Laid BY PROGRAM, IN A SANDBOX (cutbox-door.mjs). By AI agents, Wed Nov 11 2026. No macro, syntax, notation, axiom, sorry.
-/
import Derived.Test.YtccmidojhagppaaDoorRows
import GoSem.ClaimSeven
namespace Go.Proofs.YtccmidojhagppaaDoor
namespace Rows

/-- THE TIED CARD OF 'gavelkindlaw21.RateTells'. -/
def rateTellsCard : Claim7 := { stood := { row := rateTellsRow, standIns := [], harness := (true, "5f575ad34825a1e9862d5b73c3a11cbe04924a393d6e729790944f8639e2dcb7"), looks := false }, kinds := [], alts := [], laidByText := true, laidKinds := [.data, .data], laidTests := true, laidLooks := .later }
def RateTellsCardSaid : Prop := Claim7.holds Tryd.pinned (.plain (OpenSpec.ofChange rateTellsSpec)) rateTellsCard

/-- THE TIED CARD OF 'gavelkindlaw21.RateSets'. -/
def rateSetsCard : Claim7 := { stood := { row := rateSetsRow, standIns := [], harness := (true, "5f575ad34825a1e9862d5b73c3a11cbe04924a393d6e729790944f8639e2dcb7"), looks := false }, kinds := [], alts := [], laidByText := true, laidKinds := [.data, .data], laidTests := true, laidLooks := .later }
def RateSetsCardSaid : Prop := Claim7.holds Tryd.pinned (.plain (OpenSpec.ofChange rateSetsSpec)) rateSetsCard

/-- THE TIED CARD OF 'gavelkindlaw21.RateCrosses'. -/
def rateCrossesCard : Claim7 := { stood := { row := rateCrossesRow, standIns := [], harness := (true, "5f575ad34825a1e9862d5b73c3a11cbe04924a393d6e729790944f8639e2dcb7"), looks := false }, kinds := [], alts := [], laidByText := true, laidKinds := [.data, .data], laidTests := true, laidLooks := .later }
def RateCrossesCardSaid : Prop := Claim7.holds Tryd.pinned (.plain (OpenSpec.ofChange rateCrossesSpec)) rateCrossesCard

/-- THE SECOND FORM's CARD OF 'gavelkindlaw21.RateTells'. -/
def rateTellsUptoCard : Claim7 := { stood := { row := rateTellsUptoRow, standIns := [], harness := (true, "5f575ad34825a1e9862d5b73c3a11cbe04924a393d6e729790944f8639e2dcb7"), looks := false }, kinds := [], alts := [], laidByText := true, laidKinds := [.data, .data], laidTests := true, laidLooks := .later }
def RateTellsUptoCardSaid : Prop := Claim7.holds Tryd.pinned (.plain (OpenSpec.upto rateTellsSpec)) rateTellsUptoCard

/-- THE SECOND FORM's CARD OF 'gavelkindlaw21.RateSets'. -/
def rateSetsUptoCard : Claim7 := { stood := { row := rateSetsUptoRow, standIns := [], harness := (true, "5f575ad34825a1e9862d5b73c3a11cbe04924a393d6e729790944f8639e2dcb7"), looks := false }, kinds := [], alts := [], laidByText := true, laidKinds := [.data, .data], laidTests := true, laidLooks := .later }
def RateSetsUptoCardSaid : Prop := Claim7.holds Tryd.pinned (.plain (OpenSpec.upto rateSetsSpec)) rateSetsUptoCard

/-- THE SECOND FORM's CARD OF 'gavelkindlaw21.RateCrosses'. -/
def rateCrossesUptoCard : Claim7 := { stood := { row := rateCrossesUptoRow, standIns := [], harness := (true, "5f575ad34825a1e9862d5b73c3a11cbe04924a393d6e729790944f8639e2dcb7"), looks := false }, kinds := [], alts := [], laidByText := true, laidKinds := [.data, .data], laidTests := true, laidLooks := .later }
def RateCrossesUptoCardSaid : Prop := Claim7.holds Tryd.pinned (.plain (OpenSpec.upto rateCrossesSpec)) rateCrossesUptoCard
end Rows
end Go.Proofs.YtccmidojhagppaaDoor
