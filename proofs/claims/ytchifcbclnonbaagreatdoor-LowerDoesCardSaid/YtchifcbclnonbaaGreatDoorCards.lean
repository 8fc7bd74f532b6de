/-
  DERIVED. GIVEN WITH THE SEED: THE CARDS: each row of YtchifcbclnonbaaGreatDoorRows.lean that lists a variable, with what it lists TIED to the program's text (the seventh form; the later family's looks); each row that meets fmt, with fmt's text TOLD by the authors' own Lean function (tested against real Go, not proved from fmt's source: count such statements apart). THE CARD IS WHAT COUNTS. Prove the row's statement (the work); the ties are given (YtchifcbclnonbaaGreatDoorTie.lean); close each card by the builder's one call (the guide's Derived/Test/ToyasCard.lean, 'card_holds'). Laid BY PROGRAM, IN A SANDBOX (cutbox-door.mjs). By AI agents, Wed Nov 11 2026. No macro, syntax, notation, axiom, sorry.
-/
import Derived.Test.YtchifcbclnonbaaGreatDoorRows
import GoSem.ClaimSeven
namespace Go.Proofs.YtchifcbclnonbaaGreatDoor
namespace Rows

/-- THE TIED CARD OF 'bowspritlaw14.LowerDoes'. -/
def lowerDoesCard : Claim7 := { stood := { row := lowerDoesRow, standIns := [], harness := (true, "3c340a9bfe9a6ac55725fa23b6fd0c8ffe57df3e825128f7769cd870a4c7ba4c"), looks := true }, kinds := [], alts := [], laidByText := true, laidKinds := [.data, .data, .data, .data, .sentinel, .sentinel, .widerDeep, .widerDeep, .data, .pinned, .pinned], laidTests := true, laidLooks := .later }
def LowerDoesCardSaid : Prop := Claim7.holds Tryz.pinned (.plain (OpenSpec.ofChange lowerDoesSpec)) lowerDoesCard

/-- THE SECOND FORM's CARD OF 'bowspritlaw14.LowerDoes'. -/
def lowerDoesUptoCard : Claim7 := { stood := { row := lowerDoesUptoRow, standIns := [], harness := (true, "3c340a9bfe9a6ac55725fa23b6fd0c8ffe57df3e825128f7769cd870a4c7ba4c"), looks := true }, kinds := [], alts := [], laidByText := true, laidKinds := [.data, .data, .data, .data, .sentinel, .sentinel, .widerDeep, .widerDeep, .data, .pinned, .pinned], laidTests := true, laidLooks := .later }
def LowerDoesUptoCardSaid : Prop := Claim7.holds Tryz.pinned (.plain (OpenSpec.upto lowerDoesSpec)) lowerDoesUptoCard
end Rows
end Go.Proofs.YtchifcbclnonbaaGreatDoor
