/- Part of the proof. -/
import Derived.Test.YtmpmbfpkpannjaaGreatDoorCm15
set_option linter.unusedVariables false
set_option linter.unusedSimpArgs false
set_option linter.unusedSectionVars false
namespace Go.Proofs.YtmpmbfpkpannjaaGreatDoor.lowerParts
open Go.AM Go.ChangeShapes Go.WideShapes Go.ChangeAt Go.RowKit
theorem own:ownKnob Tryz.prog.godebug=none:=by kernel_rfl
theorem apA:zl (dm.of Tryz.prog S.fm S.glob S.sites) Tryz.prog (xH P.tbl) (Bu P.tbl):=adT (em:=S.em) (by kernel_rfl) K.all K.site_of K.prims_ok
theorem Yw:laidOutB Tryz.prog=true:=by kernel_rfl
theorem Sr:mapsRowed Tryz.prog=true:=by kernel_rfl
theorem OY:((List.range Tryz.prog.types.size).all fun t=>match Tryz.prog.underlying t with|some (.slice e)=>decide (0<Tryz.prog.cellsOf e)|_=>true)=true:=by kernel_rfl
theorem VD:(Tryz.f5.params.toList.all fun t=>decide (t<Tryz.prog.types.size))=true:=by kernel_rfl
theorem Q9:(Tryz.prog.globals.toList.all fun g=>decide (g.type<Tryz.prog.types.size))=true:=by kernel_rfl
end Go.Proofs.YtmpmbfpkpannjaaGreatDoor.lowerParts
