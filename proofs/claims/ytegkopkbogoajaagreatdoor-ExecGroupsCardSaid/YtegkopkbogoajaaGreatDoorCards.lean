/-
  DERIVED. GIVEN WITH THE SEED: THE CARDS: each row of YtegkopkbogoajaaGreatDoorRows.lean that lists a variable, with what it lists TIED to the program's text (the seventh form; the later family's looks); each row that meets fmt, with fmt's text TOLD by the authors' own Lean function (tested against real Go, not proved from fmt's source: count such statements apart). THE CARD IS WHAT COUNTS. Prove the row's statement (the work); the ties are given (YtegkopkbogoajaaGreatDoorTie.lean); close each card by the builder's one call (the guide's Derived/Test/ToyasCard.lean, 'card_holds'). Laid BY PROGRAM, IN A SANDBOX (cutbox-door.mjs). By AI agents, Wed Nov 11 2026. No macro, syntax, notation, axiom, sorry.
-/
import Derived.Test.YtegkopkbogoajaaGreatDoorRows
import GoSem.ClaimSeven
namespace Go.Proofs.YtegkopkbogoajaaGreatDoor
namespace Rows

/-- THE TIED CARD OF 'bowspritlaw20.ExecGroups'. -/
def execGroupsCard : Claim7 := { stood := { row := execGroupsRow, standIns := [], harness := (true, "a7d3dd8576c8b37507997695d368b32c07233ae472185190bb904d3891f2c874"), looks := false }, kinds := [], alts := [], laidByText := true, laidKinds := [.data], laidTests := true, laidLooks := .later }
def ExecGroupsCardSaid : Prop := Claim7.holds Tryz.pinned (.plain (OpenSpec.ofChange execGroupsSpec)) execGroupsCard

/-- THE TIED CARD OF 'bowspritlaw20.ExecRuns'. -/
def execRunsCard : Claim7 := { stood := { row := execRunsRow, standIns := [], harness := (true, "a7d3dd8576c8b37507997695d368b32c07233ae472185190bb904d3891f2c874"), looks := false }, kinds := [], alts := [], laidByText := true, laidKinds := [.data], laidTests := true, laidLooks := .later }
def ExecRunsCardSaid : Prop := Claim7.holds Tryz.pinned (.plain (OpenSpec.ofChange execRunsSpec)) execRunsCard

/-- THE SECOND FORM's CARD OF 'bowspritlaw20.ExecGroups'. -/
def execGroupsUptoCard : Claim7 := { stood := { row := execGroupsUptoRow, standIns := [], harness := (true, "a7d3dd8576c8b37507997695d368b32c07233ae472185190bb904d3891f2c874"), looks := false }, kinds := [], alts := [], laidByText := true, laidKinds := [.data], laidTests := true, laidLooks := .later }
def ExecGroupsUptoCardSaid : Prop := Claim7.holds Tryz.pinned (.plain (OpenSpec.upto execGroupsSpec)) execGroupsUptoCard

/-- THE SECOND FORM's CARD OF 'bowspritlaw20.ExecRuns'. -/
def execRunsUptoCard : Claim7 := { stood := { row := execRunsUptoRow, standIns := [], harness := (true, "a7d3dd8576c8b37507997695d368b32c07233ae472185190bb904d3891f2c874"), looks := false }, kinds := [], alts := [], laidByText := true, laidKinds := [.data], laidTests := true, laidLooks := .later }
def ExecRunsUptoCardSaid : Prop := Claim7.holds Tryz.pinned (.plain (OpenSpec.upto execRunsSpec)) execRunsUptoCard
end Rows
end Go.Proofs.YtegkopkbogoajaaGreatDoor
