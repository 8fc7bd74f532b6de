/-
  DERIVED. GIVEN WITH THE SEED: THE CARDS: each row of YtmpmbfpkpannjaaGreatDoorRows.lean that lists a variable, with what it lists TIED to the program's text (the seventh form; the later family's looks); each row that meets fmt, with fmt's text TOLD by the authors' own Lean function (tested against real Go, not proved from fmt's source: count such statements apart). THE CARD IS WHAT COUNTS. Prove the row's statement (the work); the ties are given (YtmpmbfpkpannjaaGreatDoorTie.lean); close each card by the builder's one call (the guide's Derived/Test/ToyasCard.lean, 'card_holds'). Laid BY PROGRAM, IN A SANDBOX (cutbox-door.mjs). By AI agents, Wed Nov 11 2026. No macro, syntax, notation, axiom, sorry.
-/
import Derived.Test.YtmpmbfpkpannjaaGreatDoorRows
import GoSem.ClaimSeven
namespace Go.Proofs.YtmpmbfpkpannjaaGreatDoor
namespace Rows

/-- THE TIED CARD OF 'bowspritlaw14.LowerAll'. -/
def lowerAllCard : Claim7 := { stood := { row := lowerAllRow, standIns := [], harness := (true, "f3426ee284665903f67ef63d1358bddaf8e9fdb55eacd3de338b2587b4ce9da0"), looks := true }, kinds := [], alts := [], laidByText := true, laidKinds := [.data, .data, .data, .data, .sentinel, .sentinel, .widerDeep, .widerDeep, .data, .pinned, .pinned], laidTests := true, laidLooks := .later }
def LowerAllCardSaid : Prop := Claim7.holds Tryz.pinned (.plain (OpenSpec.ofChange lowerAllSpec)) lowerAllCard

/-- THE TIED CARD OF 'bowspritlaw14.LowerOrder'. -/
def lowerOrderCard : Claim7 := { stood := { row := lowerOrderRow, standIns := [], harness := (true, "f3426ee284665903f67ef63d1358bddaf8e9fdb55eacd3de338b2587b4ce9da0"), looks := true }, kinds := [], alts := [], laidByText := true, laidKinds := [.data, .data, .data, .data, .sentinel, .sentinel, .widerDeep, .widerDeep, .data, .pinned, .pinned], laidTests := true, laidLooks := .later }
def LowerOrderCardSaid : Prop := Claim7.holds Tryz.pinned (.plain (OpenSpec.ofChange lowerOrderSpec)) lowerOrderCard

/-- THE TIED CARD OF 'bowspritlaw14.LowerParts'. -/
def lowerPartsCard : Claim7 := { stood := { row := lowerPartsRow, standIns := [], harness := (true, "f3426ee284665903f67ef63d1358bddaf8e9fdb55eacd3de338b2587b4ce9da0"), looks := true }, kinds := [], alts := [], laidByText := true, laidKinds := [.data, .data, .data, .data, .sentinel, .sentinel, .widerDeep, .widerDeep, .data, .pinned, .pinned], laidTests := true, laidLooks := .later }
def LowerPartsCardSaid : Prop := Claim7.holds Tryz.pinned (.plain (OpenSpec.ofChange lowerPartsSpec)) lowerPartsCard

/-- THE SECOND FORM's CARD OF 'bowspritlaw14.LowerAll'. -/
def lowerAllUptoCard : Claim7 := { stood := { row := lowerAllUptoRow, standIns := [], harness := (true, "f3426ee284665903f67ef63d1358bddaf8e9fdb55eacd3de338b2587b4ce9da0"), looks := true }, kinds := [], alts := [], laidByText := true, laidKinds := [.data, .data, .data, .data, .sentinel, .sentinel, .widerDeep, .widerDeep, .data, .pinned, .pinned], laidTests := true, laidLooks := .later }
def LowerAllUptoCardSaid : Prop := Claim7.holds Tryz.pinned (.plain (OpenSpec.upto lowerAllSpec)) lowerAllUptoCard

/-- THE SECOND FORM's CARD OF 'bowspritlaw14.LowerOrder'. -/
def lowerOrderUptoCard : Claim7 := { stood := { row := lowerOrderUptoRow, standIns := [], harness := (true, "f3426ee284665903f67ef63d1358bddaf8e9fdb55eacd3de338b2587b4ce9da0"), looks := true }, kinds := [], alts := [], laidByText := true, laidKinds := [.data, .data, .data, .data, .sentinel, .sentinel, .widerDeep, .widerDeep, .data, .pinned, .pinned], laidTests := true, laidLooks := .later }
def LowerOrderUptoCardSaid : Prop := Claim7.holds Tryz.pinned (.plain (OpenSpec.upto lowerOrderSpec)) lowerOrderUptoCard

/-- THE SECOND FORM's CARD OF 'bowspritlaw14.LowerParts'. -/
def lowerPartsUptoCard : Claim7 := { stood := { row := lowerPartsUptoRow, standIns := [], harness := (true, "f3426ee284665903f67ef63d1358bddaf8e9fdb55eacd3de338b2587b4ce9da0"), looks := true }, kinds := [], alts := [], laidByText := true, laidKinds := [.data, .data, .data, .data, .sentinel, .sentinel, .widerDeep, .widerDeep, .data, .pinned, .pinned], laidTests := true, laidLooks := .later }
def LowerPartsUptoCardSaid : Prop := Claim7.holds Tryz.pinned (.plain (OpenSpec.upto lowerPartsSpec)) lowerPartsUptoCard
end Rows
end Go.Proofs.YtmpmbfpkpannjaaGreatDoor
