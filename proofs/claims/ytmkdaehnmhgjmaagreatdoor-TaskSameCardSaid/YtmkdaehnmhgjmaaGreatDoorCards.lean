/-
  DERIVED. GIVEN WITH THE SEED: THE CARDS: each row of YtmkdaehnmhgjmaaGreatDoorRows.lean that lists a variable, with what it lists TIED to the program's text (the seventh form; the later family's looks); each row that meets fmt, with fmt's text TOLD by the authors' own Lean function (tested against real Go, not proved from fmt's source: count such statements apart). THE CARD IS WHAT COUNTS. Prove the row's statement (the work); the ties are given (YtmkdaehnmhgjmaaGreatDoorTie.lean); close each card by the builder's one call (the guide's Derived/Test/ToyasCard.lean, 'card_holds'). Laid BY PROGRAM, IN A SANDBOX (cutbox-door.mjs). By AI agents, Wed Nov 11 2026. No macro, syntax, notation, axiom, sorry.
-/
import Derived.Test.YtmkdaehnmhgjmaaGreatDoorRows
import GoSem.ClaimSeven
namespace Go.Proofs.YtmkdaehnmhgjmaaGreatDoor
namespace Rows

/-- THE TIED CARD OF 'bowspritlaw25.TaskSame'. -/
def taskSameCard : Claim7 := { stood := { row := taskSameRow, standIns := [], harness := (true, "043de03a830df72b1b7de04ccf2e76e9624215d51ad31ca17e4575f4bc017f5f"), looks := false }, kinds := [], alts := [], laidByText := true, laidKinds := [.data], laidTests := true, laidLooks := .later }
def TaskSameCardSaid : Prop := Claim7.holds Tryz.pinned (.plain (OpenSpec.ofChange taskSameSpec)) taskSameCard

/-- THE SECOND FORM's CARD OF 'bowspritlaw25.TaskSame'. -/
def taskSameUptoCard : Claim7 := { stood := { row := taskSameUptoRow, standIns := [], harness := (true, "043de03a830df72b1b7de04ccf2e76e9624215d51ad31ca17e4575f4bc017f5f"), looks := false }, kinds := [], alts := [], laidByText := true, laidKinds := [.data], laidTests := true, laidLooks := .later }
def TaskSameUptoCardSaid : Prop := Claim7.holds Tryz.pinned (.plain (OpenSpec.upto taskSameSpec)) taskSameUptoCard
end Rows
end Go.Proofs.YtmkdaehnmhgjmaaGreatDoor
