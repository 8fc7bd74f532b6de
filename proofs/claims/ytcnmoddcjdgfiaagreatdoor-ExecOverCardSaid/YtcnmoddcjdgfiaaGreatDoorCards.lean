/-
  DERIVED. GIVEN WITH THE SEED: THE CARDS: each row of YtcnmoddcjdgfiaaGreatDoorRows.lean that lists a variable, with what it lists TIED to the program's text (the seventh form; the later family's looks); each row that meets fmt, with fmt's text TOLD by the authors' own Lean function (tested against real Go, not proved from fmt's source: count such statements apart). THE CARD IS WHAT COUNTS. Prove the row's statement (the work); the ties are given (YtcnmoddcjdgfiaaGreatDoorTie.lean); close each card by the builder's one call (the guide's Derived/Test/ToyasCard.lean, 'card_holds'). Laid BY PROGRAM, IN A SANDBOX (cutbox-door.mjs). By AI agents, Wed Nov 11 2026. No macro, syntax, notation, axiom, sorry.
-/
import Derived.Test.YtcnmoddcjdgfiaaGreatDoorRows
import GoSem.ClaimSeven
namespace Go.Proofs.YtcnmoddcjdgfiaaGreatDoor
namespace Rows

/-- THE TIED CARD OF 'bowspritlaw20.ExecOver'. -/
def execOverCard : Claim7 := { stood := { row := execOverRow, standIns := [], harness := (true, "e7f244a8a06f387c0ee509aa1056816c854c526b50c1c66c33d4e6f63922ecee"), looks := false }, kinds := [], alts := [], laidByText := true, laidKinds := [.data], laidTests := true, laidLooks := .later }
def ExecOverCardSaid : Prop := Claim7.holds Tryz.pinned (.plain (OpenSpec.ofChange execOverSpec)) execOverCard

/-- THE SECOND FORM's CARD OF 'bowspritlaw20.ExecOver'. -/
def execOverUptoCard : Claim7 := { stood := { row := execOverUptoRow, standIns := [], harness := (true, "e7f244a8a06f387c0ee509aa1056816c854c526b50c1c66c33d4e6f63922ecee"), looks := false }, kinds := [], alts := [], laidByText := true, laidKinds := [.data], laidTests := true, laidLooks := .later }
def ExecOverUptoCardSaid : Prop := Claim7.holds Tryz.pinned (.plain (OpenSpec.upto execOverSpec)) execOverUptoCard
end Rows
end Go.Proofs.YtcnmoddcjdgfiaaGreatDoor
