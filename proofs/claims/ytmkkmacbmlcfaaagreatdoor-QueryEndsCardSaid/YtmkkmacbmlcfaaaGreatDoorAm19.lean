/- The seat's program, as the abstract machine's code stands for it. -/
import Derived.Test.YtmkkmacbmlcfaaaGreatDoorAm18
set_option linter.unusedVariables false
set_option linter.unusedSimpArgs false
set_option linter.unusedSectionVars false
namespace Go.Proofs.YtmkkmacbmlcfaaaGreatDoor.queryEnds
open Go.AM Go.ChangeShapes Go.WideShapes Go.ChangeAt Go.RowKit
theorem own : ownKnob Tryz.prog.godebug = none := by kernel_rfl
theorem fine : CodeFine (Names.of Tryz.prog S.fm S.glob S.sites) Tryz.prog (presOf P.tbl) (codeOf P.tbl) := fine_of (em := S.em) (by kernel_rfl) K.all K.site_of K.prims_ok
theorem laid_out : laidOutB Tryz.prog = true := by kernel_rfl
theorem maps_rowed : mapsRowed Tryz.prog = true := by kernel_rfl
theorem slices_full : ((List.range Tryz.prog.types.size).all fun t => match Tryz.prog.underlying t with | some (.slice e) => decide (0 < Tryz.prog.cellsOf e) | _ => true) = true := by kernel_rfl
theorem params_in : (Tryz.f3.params.toList.all fun t => decide (t < Tryz.prog.types.size)) = true := by kernel_rfl
theorem globals_in : (Tryz.prog.globals.toList.all fun g => decide (g.type < Tryz.prog.types.size)) = true := by kernel_rfl
end Go.Proofs.YtmkkmacbmlcfaaaGreatDoor.queryEnds
