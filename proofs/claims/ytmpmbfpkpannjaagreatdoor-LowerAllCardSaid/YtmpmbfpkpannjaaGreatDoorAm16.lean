/- Part of the proof. -/
import Derived.Test.YtmpmbfpkpannjaaGreatDoorAm15
set_option linter.unusedVariables false
set_option linter.unusedSimpArgs false
set_option linter.unusedSectionVars false
namespace Go.Proofs.YtmpmbfpkpannjaaGreatDoor.lowerAll
open Go.AM Go.ChangeShapes Go.WideShapes Go.ChangeAt Go.RowKit
theorem own:ownKnob Tryz.prog.godebug=none:=by kernel_rfl
theorem ap1:yU (dm.of Tryz.prog S.fm S.glob S.sites) Tryz.prog (xm P.tbl) (BZ P.tbl):=acm (em:=S.em) (by kernel_rfl) K.all K.site_of K.prims_ok
theorem aak:laidOutB Tryz.prog=true:=by kernel_rfl
theorem Qr:mapsRowed Tryz.prog=true:=by kernel_rfl
theorem Od:((List.range Tryz.prog.types.size).all fun t=>match Tryz.prog.underlying t with|some (.slice e)=>decide (0<Tryz.prog.cellsOf e)|_=>true)=true:=by kernel_rfl
theorem WB:(Tryz.f3.params.toList.all fun t=>decide (t<Tryz.prog.types.size))=true:=by kernel_rfl
theorem PW:(Tryz.prog.globals.toList.all fun g=>decide (g.type<Tryz.prog.types.size))=true:=by kernel_rfl
end Go.Proofs.YtmpmbfpkpannjaaGreatDoor.lowerAll
