/- Part of the proof. -/
import Derived.Test.YtegkopkbogoajaaGreatDoorAm13
set_option linter.unusedVariables false
set_option linter.unusedSimpArgs false
namespace Go.Proofs.YtegkopkbogoajaaGreatDoor.execGroups
open Go.AM Go.ChangeShapes Go.WideShapes Go.ChangeAt Go.RowKit
theorem own:ownKnob Tryz.prog.godebug=none:=by kernel_rfl
theorem fine:vy (bw.of Tryz.prog S.fm S.glob S.sites) Tryz.prog (uk P.tbl) (zh P.tbl):=afI (em:=S.em) (by kernel_rfl) K.all K.site_of K.prims_ok
theorem ab8:laidOutB Tryz.prog=true:=by kernel_rfl
theorem SN:mapsRowed Tryz.prog=true:=by kernel_rfl
theorem OK:((List.range Tryz.prog.types.size).all fun t=>match Tryz.prog.underlying t with|some (.slice e)=>decide (0<Tryz.prog.cellsOf e)|_=>true)=true:=by kernel_rfl
theorem YF:(Tryz.f3.params.toList.all fun t=>decide (t<Tryz.prog.types.size))=true:=by kernel_rfl
theorem Ul:(Tryz.prog.globals.toList.all fun g=>decide (g.type<Tryz.prog.types.size))=true:=by kernel_rfl
end Go.Proofs.YtegkopkbogoajaaGreatDoor.execGroups
