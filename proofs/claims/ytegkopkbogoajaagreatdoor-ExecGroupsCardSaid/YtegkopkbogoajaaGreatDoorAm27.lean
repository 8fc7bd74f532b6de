/- Part of the proof. -/
import Derived.Test.YtegkopkbogoajaaGreatDoorCards
import Derived.Deep.DeepHandedRow
import Derived.KernelRfl
set_option linter.unusedVariables false
set_option linter.unusedSimpArgs false
namespace Go.Proofs.YtegkopkbogoajaaGreatDoor.execGroups
open Go.ChangeShapes Go.WideShapes Go.ChangeAt
theorem uQ:(fun (P:Program) (f:FuncId) (fn:Func) (s:ChangeSpec) (c:OpenClaim)=>(((c.maps==(fn.params.toList++s.plain.varTypes P).any (P.mapsRec ·)):Bool))) Tryz.prog 3 Tryz.f3 (OpenSpec.ofChange Rows.execGroupsSpec).bare Rows.execGroupsRow=true:=by kernel_rfl
theorem sN:(fun (P:Program) (f:FuncId) (fn:Func) (s:ChangeSpec) (c:OpenClaim)=>(((c.ifaces==(fn.params.toList++s.plain.varTypes P).any (P.ifacesRec ·)):Bool))) Tryz.prog 3 Tryz.f3 (OpenSpec.ofChange Rows.execGroupsSpec).bare Rows.execGroupsRow=true:=by kernel_rfl
theorem nN:(fun (P:Program) (f:FuncId) (fn:Func) (s:ChangeSpec) (c:OpenClaim)=>(((c.mapsOut==P.mapsAmong fn.resultTypes.toList):Bool))) Tryz.prog 3 Tryz.f3 (OpenSpec.ofChange Rows.execGroupsSpec).bare Rows.execGroupsRow=true:=by kernel_rfl
theorem pN:(fun (P:Program) (f:FuncId) (fn:Func) (s:ChangeSpec) (c:OpenClaim)=>(((c.loops==(fn.params.toList++s.plain.varTypes P).any (P.loopsFrom ·)):Bool))) Tryz.prog 3 Tryz.f3 (OpenSpec.ofChange Rows.execGroupsSpec).bare Rows.execGroupsRow=true:=by kernel_rfl
theorem uX:(fun (P:Program) (f:FuncId) (fn:Func) (s:ChangeSpec) (c:OpenClaim)=>(((c.wideKeys==(fn.params.toList++s.plain.varTypes P++fn.resultTypes.toList).any (P.wideKeysFrom ·)):Bool))) Tryz.prog 3 Tryz.f3 (OpenSpec.ofChange Rows.execGroupsSpec).bare Rows.execGroupsRow=true:=by kernel_rfl
theorem pR:(fun (P:Program) (f:FuncId) (fn:Func) (s:ChangeSpec) (c:OpenClaim)=>((s.vars.all (P.varReadable ·):Bool))) Tryz.prog 3 Tryz.f3 (OpenSpec.ofChange Rows.execGroupsSpec).bare Rows.execGroupsRow=true:=by kernel_rfl
theorem po:(fun (P:Program) (f:FuncId) (fn:Func) (s:ChangeSpec) (c:OpenClaim)=>((fn.resultTypes.all (fun t=>P.readableRec t&&decide (t<P.types.size)):Bool))) Tryz.prog 3 Tryz.f3 (OpenSpec.ofChange Rows.execGroupsSpec).bare Rows.execGroupsRow=true:=by kernel_rfl
theorem rT:(fun (P:Program) (f:FuncId) (fn:Func) (s:ChangeSpec) (c:OpenClaim)=>(((c.ifacesOut==fn.resultTypes.toList.any (P.ifacesRec ·)):Bool))) Tryz.prog 3 Tryz.f3 (OpenSpec.ofChange Rows.execGroupsSpec).bare Rows.execGroupsRow=true:=by kernel_rfl
theorem sk:(fun (P:Program) (f:FuncId) (fn:Func) (s:ChangeSpec) (c:OpenClaim)=>(((c.loopsOut==fn.resultTypes.toList.any (P.loopsFrom ·)):Bool))) Tryz.prog 3 Tryz.f3 (OpenSpec.ofChange Rows.execGroupsSpec).bare Rows.execGroupsRow=true:=by kernel_rfl
theorem pQ:(fun (P:Program) (f:FuncId) (fn:Func) (s:ChangeSpec) (c:OpenClaim)=>(((c.plainKeys==P.plainKeys):Bool))) Tryz.prog 3 Tryz.f3 (OpenSpec.ofChange Rows.execGroupsSpec).bare Rows.execGroupsRow=true:=by kernel_rfl
theorem oe:(fun (P:Program) (f:FuncId) (fn:Func) (s:ChangeSpec) (c:OpenClaim)=>((c.shortTexts.isNone:Bool))) Tryz.prog 3 Tryz.f3 (OpenSpec.ofChange Rows.execGroupsSpec).bare Rows.execGroupsRow=true:=by kernel_rfl
theorem rb:(fun (P:Program) (f:FuncId) (fn:Func) (s:ChangeSpec) (c:OpenClaim)=>((P.stopsHeard:Bool))) Tryz.prog 3 Tryz.f3 (OpenSpec.ofChange Rows.execGroupsSpec).bare Rows.execGroupsRow=true:=by kernel_rfl
theorem rQ:(fun (P:Program) (f:FuncId) (fn:Func) (s:ChangeSpec) (c:OpenClaim)=>((P.mayEnter:Bool))) Tryz.prog 3 Tryz.f3 (OpenSpec.ofChange Rows.execGroupsSpec).bare Rows.execGroupsRow=true:=by kernel_rfl
theorem ux:(fun (P:Program) (f:FuncId) (fn:Func) (s:ChangeSpec) (c:OpenClaim)=>(((c.lifted==P.liftsFinal):Bool))) Tryz.prog 3 Tryz.f3 (OpenSpec.ofChange Rows.execGroupsSpec).bare Rows.execGroupsRow=true:=by kernel_rfl
theorem sm:(fun (P:Program) (f:FuncId) (fn:Func) (s:ChangeSpec) (c:OpenClaim)=>(((P.make==some c.make):Bool))) Tryz.prog 3 Tryz.f3 (OpenSpec.ofChange Rows.execGroupsSpec).bare Rows.execGroupsRow=true:=by kernel_rfl
theorem pT:(fun (P:Program) (f:FuncId) (fn:Func) (s:ChangeSpec) (c:OpenClaim)=>(((c.kinds==(if c.domain.isEmpty then [] else fn.params.toList.map fun t=>match P.underlying t with|some (.int k)=>some k|_=>none)):Bool))) Tryz.prog 3 Tryz.f3 (OpenSpec.ofChange Rows.execGroupsSpec).bare Rows.execGroupsRow=true:=by kernel_rfl
theorem rE:(fun (P:Program) (f:FuncId) (fn:Func) (s:ChangeSpec) (c:OpenClaim)=>(((c.pinned==c.pinnedBy):Bool))) Tryz.prog 3 Tryz.f3 (OpenSpec.ofChange Rows.execGroupsSpec).bare Rows.execGroupsRow=true:=by kernel_rfl
theorem sS:(fun (P:Program) (f:FuncId) (fn:Func) (s:ChangeSpec) (c:OpenClaim)=>(((c.veiled==(fn.params.toList++s.plain.varTypes P++fn.resultTypes.toList).any (P.veiledRec ·)):Bool))) Tryz.prog 3 Tryz.f3 (OpenSpec.ofChange Rows.execGroupsSpec).bare Rows.execGroupsRow=true:=by kernel_rfl
theorem uv:(fun (P:Program) (f:FuncId) (fn:Func) (s:ChangeSpec) (c:OpenClaim)=>((c.veiledFits P fn.params.toList (fn.params.toList++s.plain.varTypes P++fn.resultTypes.toList):Bool))) Tryz.prog 3 Tryz.f3 (OpenSpec.ofChange Rows.execGroupsSpec).bare Rows.execGroupsRow=true:=by kernel_rfl
theorem named:Tryz.prog.funcNamed "bowsprit/bowspritlaw20.ExecGroups" = some 3:=by kernel_rfl
theorem asB:decide (Tryz.f3.isInstance Tryz.prog Rows.execGroupsRow.origin Rows.execGroupsRow.targs)=true:=by kernel_rfl
theorem wrap:Tryz.f3.isWrapper Tryz.prog Rows.execGroupsRow.wrapper Rows.execGroupsRow.mainSum:=by
 unfold Func.isWrapper;first|(rw[if_pos (by decide +kernel)];kernel_rfl)|(rw[if_neg (by decide +kernel)];exact⟨rfl,rfl⟩)
theorem Ym:false=Tryz.pinned.checked.prog.looks []:=by kernel_rfl
theorem PV:(Tryz.f3.params.toList.all fun t=>!Tryz.prog.wantsStandIn t)=true:=by kernel_rfl
theorem aez:Rows.execGroupsRow.wfByText (OpenSpec.ofChange Rows.execGroupsSpec)=true:=by kernel_rfl
theorem aeD:Tryz.pinned.checked.prog.mainIs=some (Rows.execGroupsCard.stood.harness.1,Rows.execGroupsCard.stood.harness.2.toList):=by kernel_rfl
theorem arT:false=Rows.execGroupsRow.goesBy Tryz.pinned.checked.prog:=by kernel_rfl
end Go.Proofs.YtegkopkbogoajaaGreatDoor.execGroups
