/- Part of the proof. -/
import Derived.Test.YtchifcbclnonbaaGreatDoorAm15
set_option linter.unusedVariables false
set_option linter.unusedSimpArgs false
set_option linter.unusedSectionVars false
namespace Go.Proofs.YtchifcbclnonbaaGreatDoor.lowerDoes
open Go.AM Go.ChangeShapes Go.WideShapes Go.ChangeAt Go.RowKit
theorem own:ownKnob Tryz.prog.godebug=none:=by kernel_rfl
theorem al3:wa (cO.of Tryz.prog S.fm S.glob S.sites) Tryz.prog (uo P.tbl) (yS P.tbl):=Yd (em:=S.em) (by kernel_rfl) K.all K.site_of K.prims_ok
theorem Vl:laidOutB Tryz.prog=true:=by kernel_rfl
theorem Pw:mapsRowed Tryz.prog=true:=by kernel_rfl
theorem Ms:((List.range Tryz.prog.types.size).all fun t=>match Tryz.prog.underlying t with|some (.slice e)=>decide (0<Tryz.prog.cellsOf e)|_=>true)=true:=by kernel_rfl
theorem Th:(Tryz.f3.params.toList.all fun t=>decide (t<Tryz.prog.types.size))=true:=by kernel_rfl
theorem Pk:(Tryz.prog.globals.toList.all fun g=>decide (g.type<Tryz.prog.types.size))=true:=by kernel_rfl
end Go.Proofs.YtchifcbclnonbaaGreatDoor.lowerDoes
