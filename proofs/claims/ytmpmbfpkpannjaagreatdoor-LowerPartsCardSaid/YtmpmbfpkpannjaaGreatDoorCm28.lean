/- Part of the proof. -/
import Derived.Test.YtmpmbfpkpannjaaGreatDoorCards
import Derived.Deep.DeepHandedRow
import Derived.KernelRfl
set_option linter.unusedVariables false
set_option linter.unusedSimpArgs false
set_option linter.unusedSectionVars false
namespace Go.Proofs.YtmpmbfpkpannjaaGreatDoor.lowerParts
open Go.ChangeShapes Go.WideShapes Go.ChangeAt
theorem j0:(fun (P:Program) (f:FuncId) (fn:Func) (s:ChangeSpec) (c:OpenClaim)=>((c.wf (OpenSpec.ofChange s):Bool))) Tryz.prog 5 Tryz.f5 (OpenSpec.ofChange Rows.lowerPartsSpec).bare Rows.lowerPartsRow=true:=by kernel_rfl
theorem j1:(fun (P:Program) (f:FuncId) (fn:Func) (s:ChangeSpec) (c:OpenClaim)=>((laidOutB P:Bool))) Tryz.prog 5 Tryz.f5 (OpenSpec.ofChange Rows.lowerPartsSpec).bare Rows.lowerPartsRow=true:=by kernel_rfl
theorem j2:(fun (P:Program) (f:FuncId) (fn:Func) (s:ChangeSpec) (c:OpenClaim)=>((mapsRowed P:Bool))) Tryz.prog 5 Tryz.f5 (OpenSpec.ofChange Rows.lowerPartsSpec).bare Rows.lowerPartsRow=true:=by kernel_rfl
theorem j3:(fun (P:Program) (f:FuncId) (fn:Func) (s:ChangeSpec) (c:OpenClaim)=>((fn.params.all (P.readableRec ·):Bool))) Tryz.prog 5 Tryz.f5 (OpenSpec.ofChange Rows.lowerPartsSpec).bare Rows.lowerPartsRow=true:=by kernel_rfl
theorem j4:(fun (P:Program) (f:FuncId) (fn:Func) (s:ChangeSpec) (c:OpenClaim)=>((namedTie P c.named s.vars:Bool))) Tryz.prog 5 Tryz.f5 (OpenSpec.ofChange Rows.lowerPartsSpec).bare Rows.lowerPartsRow=true:=by kernel_rfl
theorem j5:(fun (P:Program) (f:FuncId) (fn:Func) (s:ChangeSpec) (c:OpenClaim)=>(((c.stops==[]):Bool))) Tryz.prog 5 Tryz.f5 (OpenSpec.ofChange Rows.lowerPartsSpec).bare Rows.lowerPartsRow=true:=by kernel_rfl
theorem j6:(fun (P:Program) (f:FuncId) (fn:Func) (s:ChangeSpec) (c:OpenClaim)=>(((P.stops==[]):Bool))) Tryz.prog 5 Tryz.f5 (OpenSpec.ofChange Rows.lowerPartsSpec).bare Rows.lowerPartsRow=true:=by kernel_rfl
theorem j7:(fun (P:Program) (f:FuncId) (fn:Func) (s:ChangeSpec) (c:OpenClaim)=>(((c.knobs==[]):Bool))) Tryz.prog 5 Tryz.f5 (OpenSpec.ofChange Rows.lowerPartsSpec).bare Rows.lowerPartsRow=true:=by kernel_rfl
theorem j8:(fun (P:Program) (f:FuncId) (fn:Func) (s:ChangeSpec) (c:OpenClaim)=>(((P.stopKnobs==[]):Bool))) Tryz.prog 5 Tryz.f5 (OpenSpec.ofChange Rows.lowerPartsSpec).bare Rows.lowerPartsRow=true:=by kernel_rfl
theorem j9:(fun (P:Program) (f:FuncId) (fn:Func) (s:ChangeSpec) (c:OpenClaim)=>(((c.inPlace==P.inPlace f):Bool))) Tryz.prog 5 Tryz.f5 (OpenSpec.ofChange Rows.lowerPartsSpec).bare Rows.lowerPartsRow=true:=by kernel_rfl
theorem j10:(fun (P:Program) (f:FuncId) (fn:Func) (s:ChangeSpec) (c:OpenClaim)=>(((c.unfollowed==P.unfollowed f):Bool))) Tryz.prog 5 Tryz.f5 (OpenSpec.ofChange Rows.lowerPartsSpec).bare Rows.lowerPartsRow=true:=by kernel_rfl
end Go.Proofs.YtmpmbfpkpannjaaGreatDoor.lowerParts
