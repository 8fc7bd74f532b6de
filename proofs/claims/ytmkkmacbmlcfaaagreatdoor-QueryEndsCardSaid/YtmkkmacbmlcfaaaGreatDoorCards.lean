/-
  DERIVED. GIVEN WITH THE SEED: THE CARDS: each row of YtmkkmacbmlcfaaaGreatDoorRows.lean that lists a variable, with what it lists TIED to the program's text (the seventh form; the later family's looks); each row that meets fmt, with fmt's text TOLD by the authors' own Lean function (tested against real Go, not proved from fmt's source: count such statements apart). THE CARD IS WHAT COUNTS. Prove the row's statement (the work); the ties are given (YtmkkmacbmlcfaaaGreatDoorTie.lean); close each card by the builder's one call (the guide's Derived/Test/ToyasCard.lean, 'card_holds'). Laid BY PROGRAM, IN A SANDBOX (cutbox-door.mjs). By AI agents, Wed Nov 11 2026. No macro, syntax, notation, axiom, sorry.
-/
import Derived.Test.YtmkkmacbmlcfaaaGreatDoorRows
import GoSem.ClaimSeven
namespace Go.Proofs.YtmkkmacbmlcfaaaGreatDoor
namespace Rows

/-- THE TIED CARD OF 'bowspritlaw27.QueryEnds'. -/
def queryEndsCard : Claim7 := { stood := { row := queryEndsRow, standIns := [], harness := (true, "8cce3f084456cdb9baafddaf1fa597659f1a32ecdaf82fb2f7d56f2550d3042d"), looks := true }, kinds := [], alts := [], laidByText := true, laidKinds := [.data, .data, .data, .data, .sentinel, .sentinel, .widerDeep, .widerDeep, .data, .data, .pinned, .pinned], laidTests := true, laidLooks := .later }
def QueryEndsCardSaid : Prop := Claim7.holds Tryz.pinned (.plain (OpenSpec.ofChange queryEndsSpec)) queryEndsCard

/-- THE SECOND FORM's CARD OF 'bowspritlaw27.QueryEnds'. -/
def queryEndsUptoCard : Claim7 := { stood := { row := queryEndsUptoRow, standIns := [], harness := (true, "8cce3f084456cdb9baafddaf1fa597659f1a32ecdaf82fb2f7d56f2550d3042d"), looks := true }, kinds := [], alts := [], laidByText := true, laidKinds := [.data, .data, .data, .data, .sentinel, .sentinel, .widerDeep, .widerDeep, .data, .data, .pinned, .pinned], laidTests := true, laidLooks := .later }
def QueryEndsUptoCardSaid : Prop := Claim7.holds Tryz.pinned (.plain (OpenSpec.upto queryEndsSpec)) queryEndsUptoCard
end Rows
end Go.Proofs.YtmkkmacbmlcfaaaGreatDoor
