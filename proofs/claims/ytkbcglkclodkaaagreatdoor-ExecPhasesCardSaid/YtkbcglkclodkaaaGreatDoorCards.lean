/-
  DERIVED. GIVEN WITH THE SEED: THE CARDS: each row of YtkbcglkclodkaaaGreatDoorRows.lean that lists a variable, with what it lists TIED to the program's text (the seventh form; the later family's looks); each row that meets fmt, with fmt's text TOLD by the authors' own Lean function (tested against real Go, not proved from fmt's source: count such statements apart). THE CARD IS WHAT COUNTS. Prove the row's statement (the work); the ties are given (YtkbcglkclodkaaaGreatDoorTie.lean); close each card by the builder's one call (the guide's Derived/Test/ToyasCard.lean, 'card_holds'). Laid BY PROGRAM, IN A SANDBOX (cutbox-door.mjs). By AI agents, Wed Nov 11 2026. No macro, syntax, notation, axiom, sorry.
-/
import Derived.Test.YtkbcglkclodkaaaGreatDoorRows
import GoSem.ClaimSeven
namespace Go.Proofs.YtkbcglkclodkaaaGreatDoor
namespace Rows

/-- THE TIED CARD OF 'bowspritlaw20.ExecOver'. -/
def execOverCard : Claim7 := { stood := { row := execOverRow, standIns := [], harness := (true, "04d9ab8ec03d73c61886fb8df1fae12f7d0e50f2fd99a741c9eb382d9ef8a22a"), looks := false }, kinds := [], alts := [], laidByText := true, laidKinds := [.data], laidTests := true, laidLooks := .later }
def ExecOverCardSaid : Prop := Claim7.holds Tryz.pinned (.plain (OpenSpec.ofChange execOverSpec)) execOverCard

/-- THE TIED CARD OF 'bowspritlaw20.ExecTops'. -/
def execTopsCard : Claim7 := { stood := { row := execTopsRow, standIns := [], harness := (true, "04d9ab8ec03d73c61886fb8df1fae12f7d0e50f2fd99a741c9eb382d9ef8a22a"), looks := false }, kinds := [], alts := [], laidByText := true, laidKinds := [.data], laidTests := true, laidLooks := .later }
def ExecTopsCardSaid : Prop := Claim7.holds Tryz.pinned (.plain (OpenSpec.ofChange execTopsSpec)) execTopsCard

/-- THE TIED CARD OF 'bowspritlaw20.ExecGroups'. -/
def execGroupsCard : Claim7 := { stood := { row := execGroupsRow, standIns := [], harness := (true, "04d9ab8ec03d73c61886fb8df1fae12f7d0e50f2fd99a741c9eb382d9ef8a22a"), looks := false }, kinds := [], alts := [], laidByText := true, laidKinds := [.data], laidTests := true, laidLooks := .later }
def ExecGroupsCardSaid : Prop := Claim7.holds Tryz.pinned (.plain (OpenSpec.ofChange execGroupsSpec)) execGroupsCard

/-- THE TIED CARD OF 'bowspritlaw20.ExecPhases'. -/
def execPhasesCard : Claim7 := { stood := { row := execPhasesRow, standIns := [], harness := (true, "04d9ab8ec03d73c61886fb8df1fae12f7d0e50f2fd99a741c9eb382d9ef8a22a"), looks := false }, kinds := [], alts := [], laidByText := true, laidKinds := [.data], laidTests := true, laidLooks := .later }
def ExecPhasesCardSaid : Prop := Claim7.holds Tryz.pinned (.plain (OpenSpec.ofChange execPhasesSpec)) execPhasesCard

/-- THE TIED CARD OF 'bowspritlaw20.ExecRuns'. -/
def execRunsCard : Claim7 := { stood := { row := execRunsRow, standIns := [], harness := (true, "04d9ab8ec03d73c61886fb8df1fae12f7d0e50f2fd99a741c9eb382d9ef8a22a"), looks := false }, kinds := [], alts := [], laidByText := true, laidKinds := [.data], laidTests := true, laidLooks := .later }
def ExecRunsCardSaid : Prop := Claim7.holds Tryz.pinned (.plain (OpenSpec.ofChange execRunsSpec)) execRunsCard

/-- THE TIED CARD OF 'bowspritlaw20.ExecSplits'. -/
def execSplitsCard : Claim7 := { stood := { row := execSplitsRow, standIns := [], harness := (true, "04d9ab8ec03d73c61886fb8df1fae12f7d0e50f2fd99a741c9eb382d9ef8a22a"), looks := false }, kinds := [], alts := [], laidByText := true, laidKinds := [.data], laidTests := true, laidLooks := .later }
def ExecSplitsCardSaid : Prop := Claim7.holds Tryz.pinned (.plain (OpenSpec.ofChange execSplitsSpec)) execSplitsCard

/-- THE TIED CARD OF 'bowspritlaw20.ExecTrees'. -/
def execTreesCard : Claim7 := { stood := { row := execTreesRow, standIns := [], harness := (true, "04d9ab8ec03d73c61886fb8df1fae12f7d0e50f2fd99a741c9eb382d9ef8a22a"), looks := false }, kinds := [], alts := [], laidByText := true, laidKinds := [.data], laidTests := true, laidLooks := .later }
def ExecTreesCardSaid : Prop := Claim7.holds Tryz.pinned (.plain (OpenSpec.ofChange execTreesSpec)) execTreesCard

/-- THE SECOND FORM's CARD OF 'bowspritlaw20.ExecOver'. -/
def execOverUptoCard : Claim7 := { stood := { row := execOverUptoRow, standIns := [], harness := (true, "04d9ab8ec03d73c61886fb8df1fae12f7d0e50f2fd99a741c9eb382d9ef8a22a"), looks := false }, kinds := [], alts := [], laidByText := true, laidKinds := [.data], laidTests := true, laidLooks := .later }
def ExecOverUptoCardSaid : Prop := Claim7.holds Tryz.pinned (.plain (OpenSpec.upto execOverSpec)) execOverUptoCard

/-- THE SECOND FORM's CARD OF 'bowspritlaw20.ExecTops'. -/
def execTopsUptoCard : Claim7 := { stood := { row := execTopsUptoRow, standIns := [], harness := (true, "04d9ab8ec03d73c61886fb8df1fae12f7d0e50f2fd99a741c9eb382d9ef8a22a"), looks := false }, kinds := [], alts := [], laidByText := true, laidKinds := [.data], laidTests := true, laidLooks := .later }
def ExecTopsUptoCardSaid : Prop := Claim7.holds Tryz.pinned (.plain (OpenSpec.upto execTopsSpec)) execTopsUptoCard

/-- THE SECOND FORM's CARD OF 'bowspritlaw20.ExecGroups'. -/
def execGroupsUptoCard : Claim7 := { stood := { row := execGroupsUptoRow, standIns := [], harness := (true, "04d9ab8ec03d73c61886fb8df1fae12f7d0e50f2fd99a741c9eb382d9ef8a22a"), looks := false }, kinds := [], alts := [], laidByText := true, laidKinds := [.data], laidTests := true, laidLooks := .later }
def ExecGroupsUptoCardSaid : Prop := Claim7.holds Tryz.pinned (.plain (OpenSpec.upto execGroupsSpec)) execGroupsUptoCard

/-- THE SECOND FORM's CARD OF 'bowspritlaw20.ExecPhases'. -/
def execPhasesUptoCard : Claim7 := { stood := { row := execPhasesUptoRow, standIns := [], harness := (true, "04d9ab8ec03d73c61886fb8df1fae12f7d0e50f2fd99a741c9eb382d9ef8a22a"), looks := false }, kinds := [], alts := [], laidByText := true, laidKinds := [.data], laidTests := true, laidLooks := .later }
def ExecPhasesUptoCardSaid : Prop := Claim7.holds Tryz.pinned (.plain (OpenSpec.upto execPhasesSpec)) execPhasesUptoCard

/-- THE SECOND FORM's CARD OF 'bowspritlaw20.ExecRuns'. -/
def execRunsUptoCard : Claim7 := { stood := { row := execRunsUptoRow, standIns := [], harness := (true, "04d9ab8ec03d73c61886fb8df1fae12f7d0e50f2fd99a741c9eb382d9ef8a22a"), looks := false }, kinds := [], alts := [], laidByText := true, laidKinds := [.data], laidTests := true, laidLooks := .later }
def ExecRunsUptoCardSaid : Prop := Claim7.holds Tryz.pinned (.plain (OpenSpec.upto execRunsSpec)) execRunsUptoCard

/-- THE SECOND FORM's CARD OF 'bowspritlaw20.ExecSplits'. -/
def execSplitsUptoCard : Claim7 := { stood := { row := execSplitsUptoRow, standIns := [], harness := (true, "04d9ab8ec03d73c61886fb8df1fae12f7d0e50f2fd99a741c9eb382d9ef8a22a"), looks := false }, kinds := [], alts := [], laidByText := true, laidKinds := [.data], laidTests := true, laidLooks := .later }
def ExecSplitsUptoCardSaid : Prop := Claim7.holds Tryz.pinned (.plain (OpenSpec.upto execSplitsSpec)) execSplitsUptoCard

/-- THE SECOND FORM's CARD OF 'bowspritlaw20.ExecTrees'. -/
def execTreesUptoCard : Claim7 := { stood := { row := execTreesUptoRow, standIns := [], harness := (true, "04d9ab8ec03d73c61886fb8df1fae12f7d0e50f2fd99a741c9eb382d9ef8a22a"), looks := false }, kinds := [], alts := [], laidByText := true, laidKinds := [.data], laidTests := true, laidLooks := .later }
def ExecTreesUptoCardSaid : Prop := Claim7.holds Tryz.pinned (.plain (OpenSpec.upto execTreesSpec)) execTreesUptoCard
end Rows
end Go.Proofs.YtkbcglkclodkaaaGreatDoor
