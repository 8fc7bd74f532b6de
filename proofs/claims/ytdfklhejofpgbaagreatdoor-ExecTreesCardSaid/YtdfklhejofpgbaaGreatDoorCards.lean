/-
  DERIVED. GIVEN WITH THE SEED: THE CARDS: each row of YtdfklhejofpgbaaGreatDoorRows.lean that lists a variable, with what it lists TIED to the program's text (the seventh form; the later family's looks); each row that meets fmt, with fmt's text TOLD by the authors' own Lean function (tested against real Go, not proved from fmt's source: count such statements apart). THE CARD IS WHAT COUNTS. Prove the row's statement (the work); the ties are given (YtdfklhejofpgbaaGreatDoorTie.lean); close each card by the builder's one call (the guide's Derived/Test/ToyasCard.lean, 'card_holds'). Laid BY PROGRAM, IN A SANDBOX (cutbox-door.mjs). By AI agents, Wed Nov 11 2026. No macro, syntax, notation, axiom, sorry.
-/
import Derived.Test.YtdfklhejofpgbaaGreatDoorRows
import GoSem.ClaimSeven
namespace Go.Proofs.YtdfklhejofpgbaaGreatDoor
namespace Rows

/-- THE TIED CARD OF 'bowspritlaw20.ExecTrees'. -/
def execTreesCard : Claim7 := { stood := { row := execTreesRow, standIns := [], harness := (true, "175560ed4c8aff80a17009ecec3025808e4c0e6c43ac1bde529ce65d1cc5bed9"), looks := false }, kinds := [], alts := [], laidByText := true, laidKinds := [.data], laidTests := true, laidLooks := .later }
def ExecTreesCardSaid : Prop := Claim7.holds Tryz.pinned (.plain (OpenSpec.ofChange execTreesSpec)) execTreesCard

/-- THE SECOND FORM's CARD OF 'bowspritlaw20.ExecTrees'. -/
def execTreesUptoCard : Claim7 := { stood := { row := execTreesUptoRow, standIns := [], harness := (true, "175560ed4c8aff80a17009ecec3025808e4c0e6c43ac1bde529ce65d1cc5bed9"), looks := false }, kinds := [], alts := [], laidByText := true, laidKinds := [.data], laidTests := true, laidLooks := .later }
def ExecTreesUptoCardSaid : Prop := Claim7.holds Tryz.pinned (.plain (OpenSpec.upto execTreesSpec)) execTreesUptoCard
end Rows
end Go.Proofs.YtdfklhejofpgbaaGreatDoor
