/-
  DERIVED. GIVEN WITH THE SEED: THE CARDS: each row of YtkifiopfapnpnaaDoorRows.lean that lists a variable, with what it lists TIED to the program's text (the seventh form; the later family's looks); each row that meets fmt, with fmt's text TOLD by the authors' own Lean function (tested against real Go, not proved from fmt's source: count such statements apart). THE CARD IS WHAT COUNTS. Prove the row's statement (the work); the ties are given (YtkifiopfapnpnaaDoorTie.lean); close each card by the builder's one call (the guide's Derived/Test/ToyasCard.lean, 'card_holds'). Laid BY PROGRAM, IN A SANDBOX (cutbox-door.mjs). By AI agents, Wed Nov 11 2026. No macro, syntax, notation, axiom, sorry.
-/
import Derived.Test.YtkifiopfapnpnaaDoorRows
import GoSem.ClaimSeven
namespace Go.Proofs.YtkifiopfapnpnaaDoor
namespace Rows

/-- THE TIED CARD OF 'gavelkindlaw28.ValueTexts'. -/
def valueTextsCard : Claim7 := { stood := { row := valueTextsRow, standIns := [], harness := (true, "da4779ddc82fa3cc72668eb13b10148f51064ad9840fb8bb2489c329704f3423"), looks := true }, kinds := [], alts := [], laidByText := true, laidKinds := [.data, .data, .data, .sentinel, .sentinel], laidTests := true, laidLooks := .later }
def ValueTextsCardSaid : Prop := Claim7.holds Tryd.pinned (.plain (OpenSpec.ofChange valueTextsSpec)) valueTextsCard

/-- THE TIED CARD OF 'gavelkindlaw28.ValueFaults'. -/
def valueFaultsCard : Claim7 := { stood := { row := valueFaultsRow, standIns := [], harness := (true, "da4779ddc82fa3cc72668eb13b10148f51064ad9840fb8bb2489c329704f3423"), looks := true }, kinds := [], alts := [], laidByText := true, laidKinds := [.data, .data, .data, .sentinel, .sentinel], laidTests := true, laidLooks := .later }
def ValueFaultsCardSaid : Prop := Claim7.holds Tryd.pinned (.plain (OpenSpec.ofChange valueFaultsSpec)) valueFaultsCard

/-- THE TIED CARD OF 'gavelkindlaw28.ValueRates'. -/
def valueRatesCard : Claim7 := { stood := { row := valueRatesRow, standIns := [], harness := (true, "da4779ddc82fa3cc72668eb13b10148f51064ad9840fb8bb2489c329704f3423"), looks := true }, kinds := [], alts := [], laidByText := true, laidKinds := [.data, .data, .data, .sentinel, .sentinel], laidTests := true, laidLooks := .later }
def ValueRatesCardSaid : Prop := Claim7.holds Tryd.pinned (.plain (OpenSpec.ofChange valueRatesSpec)) valueRatesCard

/-- THE SECOND FORM's CARD OF 'gavelkindlaw28.ValueTexts'. -/
def valueTextsUptoCard : Claim7 := { stood := { row := valueTextsUptoRow, standIns := [], harness := (true, "da4779ddc82fa3cc72668eb13b10148f51064ad9840fb8bb2489c329704f3423"), looks := true }, kinds := [], alts := [], laidByText := true, laidKinds := [.data, .data, .data, .sentinel, .sentinel], laidTests := true, laidLooks := .later }
def ValueTextsUptoCardSaid : Prop := Claim7.holds Tryd.pinned (.plain (OpenSpec.upto valueTextsSpec)) valueTextsUptoCard

/-- THE SECOND FORM's CARD OF 'gavelkindlaw28.ValueFaults'. -/
def valueFaultsUptoCard : Claim7 := { stood := { row := valueFaultsUptoRow, standIns := [], harness := (true, "da4779ddc82fa3cc72668eb13b10148f51064ad9840fb8bb2489c329704f3423"), looks := true }, kinds := [], alts := [], laidByText := true, laidKinds := [.data, .data, .data, .sentinel, .sentinel], laidTests := true, laidLooks := .later }
def ValueFaultsUptoCardSaid : Prop := Claim7.holds Tryd.pinned (.plain (OpenSpec.upto valueFaultsSpec)) valueFaultsUptoCard

/-- THE SECOND FORM's CARD OF 'gavelkindlaw28.ValueRates'. -/
def valueRatesUptoCard : Claim7 := { stood := { row := valueRatesUptoRow, standIns := [], harness := (true, "da4779ddc82fa3cc72668eb13b10148f51064ad9840fb8bb2489c329704f3423"), looks := true }, kinds := [], alts := [], laidByText := true, laidKinds := [.data, .data, .data, .sentinel, .sentinel], laidTests := true, laidLooks := .later }
def ValueRatesUptoCardSaid : Prop := Claim7.holds Tryd.pinned (.plain (OpenSpec.upto valueRatesSpec)) valueRatesUptoCard
end Rows
end Go.Proofs.YtkifiopfapnpnaaDoor
