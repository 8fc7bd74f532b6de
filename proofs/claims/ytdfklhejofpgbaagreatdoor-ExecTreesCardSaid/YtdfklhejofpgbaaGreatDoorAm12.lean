/- Part of the proof. -/
import Derived.Test.YtdfklhejofpgbaaGreatDoorAm11
set_option linter.unusedVariables false
set_option linter.unusedSimpArgs false
namespace Go.Proofs.YtdfklhejofpgbaaGreatDoor.execTrees
open Go.AM Go.ChangeShapes Go.WideShapes Go.ChangeAt Go.RowKit
theorem MY:ownKnob Tryz.prog.godebug=none:=by kernel_rfl
theorem fine:vF (cZ.of Tryz.prog S.fm S.glob S.sites) Tryz.prog (tZ P.tbl) (xE P.tbl):=Za (em:=S.em) (by kernel_rfl) K.all K.site_of K.prims_ok
theorem VB:laidOutB Tryz.prog=true:=by kernel_rfl
theorem Np:mapsRowed Tryz.prog=true:=by kernel_rfl
theorem MG:((List.range Tryz.prog.types.size).all fun t=>match Tryz.prog.underlying t with|some (.slice e)=>decide (0<Tryz.prog.cellsOf e)|_=>true)=true:=by kernel_rfl
theorem TI:(Tryz.f3.params.toList.all fun t=>decide (t<Tryz.prog.types.size))=true:=by kernel_rfl
theorem O5:(Tryz.prog.globals.toList.all fun g=>decide (g.type<Tryz.prog.types.size))=true:=by kernel_rfl
end Go.Proofs.YtdfklhejofpgbaaGreatDoor.execTrees
