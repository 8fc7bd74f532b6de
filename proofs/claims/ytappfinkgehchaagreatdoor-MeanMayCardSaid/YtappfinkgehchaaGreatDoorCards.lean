/-
  DERIVED. GIVEN WITH THE SEED: THE CARDS: each row of YtappfinkgehchaaGreatDoorRows.lean that lists a variable, with what it lists TIED to the program's text (the seventh form; the later family's looks); each row that meets fmt, with fmt's text TOLD by the authors' own Lean function (tested against real Go, not proved from fmt's source: count such statements apart). THE CARD IS WHAT COUNTS. Prove the row's statement (the work); the ties are given (YtappfinkgehchaaGreatDoorTie.lean); close each card by the builder's one call (the guide's Derived/Test/ToyasCard.lean, 'card_holds'). Laid BY PROGRAM, IN A SANDBOX (cutbox-door.mjs). By AI agents, Wed Nov 11 2026. No macro, syntax, notation, axiom, sorry.
-/
import Derived.Test.YtappfinkgehchaaGreatDoorRows
import GoSem.ClaimSeven
namespace Go.Proofs.YtappfinkgehchaaGreatDoor
namespace Rows

/-- THE TIED CARD OF 'bowspritlaw21.MeanMay'. -/
def meanMayCard : Claim7 := { stood := { row := meanMayRow, standIns := [], harness := (true, "d7622bee10e0373e1a635544163765eaecd9b01718a73eaed3fd5e5cfd9822bb"), looks := false }, kinds := [], alts := [], laidByText := true, laidKinds := [.data, .widerDeep, .data, .data, .pinned, .pinned], laidTests := true, laidLooks := .later }
def MeanMayCardSaid : Prop := Claim7.holds Tryz.pinned (.plain (OpenSpec.ofChange meanMaySpec)) meanMayCard

/-- THE SECOND FORM's CARD OF 'bowspritlaw21.MeanMay'. -/
def meanMayUptoCard : Claim7 := { stood := { row := meanMayUptoRow, standIns := [], harness := (true, "d7622bee10e0373e1a635544163765eaecd9b01718a73eaed3fd5e5cfd9822bb"), looks := false }, kinds := [], alts := [], laidByText := true, laidKinds := [.data, .widerDeep, .data, .data, .pinned, .pinned], laidTests := true, laidLooks := .later }
def MeanMayUptoCardSaid : Prop := Claim7.holds Tryz.pinned (.plain (OpenSpec.upto meanMaySpec)) meanMayUptoCard
end Rows
end Go.Proofs.YtappfinkgehchaaGreatDoor
