/-
  DERIVED. GIVEN WITH THE SEED: THE CARDS: each row of YtpdimbocafbieaaGreatDoorRows.lean that lists a variable, with what it lists TIED to the program's text (the seventh form; the later family's looks); each row that meets fmt, with fmt's text TOLD by the authors' own Lean function (tested against real Go, not proved from fmt's source: count such statements apart). THE CARD IS WHAT COUNTS. Prove the row's statement (the work); the ties are given (YtpdimbocafbieaaGreatDoorTie.lean); close each card by the builder's one call (the guide's Derived/Test/ToyasCard.lean, 'card_holds'). Laid BY PROGRAM, IN A SANDBOX (cutbox-door.mjs). By AI agents, Wed Nov 11 2026. No macro, syntax, notation, axiom, sorry.
-/
import Derived.Test.YtpdimbocafbieaaGreatDoorRows
import GoSem.ClaimSeven
namespace Go.Proofs.YtpdimbocafbieaaGreatDoor
namespace Rows

/-- THE TIED CARD OF 'bowspritlaw25.TaskBegins'. -/
def taskBeginsCard : Claim7 := { stood := { row := taskBeginsRow, standIns := [], harness := (true, "5c8b82a943c850813033ceda9757cf7846737348ecd04aaacd3fb936802b45e5"), looks := false }, kinds := [], alts := [], laidByText := true, laidKinds := [.data], laidTests := true, laidLooks := .later }
def TaskBeginsCardSaid : Prop := Claim7.holds Tryz.pinned (.plain (OpenSpec.ofChange taskBeginsSpec)) taskBeginsCard

/-- THE SECOND FORM's CARD OF 'bowspritlaw25.TaskBegins'. -/
def taskBeginsUptoCard : Claim7 := { stood := { row := taskBeginsUptoRow, standIns := [], harness := (true, "5c8b82a943c850813033ceda9757cf7846737348ecd04aaacd3fb936802b45e5"), looks := false }, kinds := [], alts := [], laidByText := true, laidKinds := [.data], laidTests := true, laidLooks := .later }
def TaskBeginsUptoCardSaid : Prop := Claim7.holds Tryz.pinned (.plain (OpenSpec.upto taskBeginsSpec)) taskBeginsUptoCard
end Rows
end Go.Proofs.YtpdimbocafbieaaGreatDoor
