/- Part of the proof. -/
import Derived.Test.YtmpmbfpkpannjaaGreatDoorCards
import Derived.Deep.DeepHandedRow
import Derived.KernelRfl
set_option linter.unusedVariables false
set_option linter.unusedSimpArgs false
set_option linter.unusedSectionVars false
namespace Go.Proofs.YtmpmbfpkpannjaaGreatDoor.lowerParts
open Go.ChangeShapes Go.WideShapes Go.ChangeAt
theorem j11:(fun (P:Program) (f:FuncId) (fn:Func) (s:ChangeSpec) (c:OpenClaim)=>(((c.recurses==P.recurses f):Bool))) Tryz.prog 5 Tryz.f5 (OpenSpec.ofChange Rows.lowerPartsSpec).bare Rows.lowerPartsRow=true:=by kernel_rfl
theorem j12:(fun (P:Program) (f:FuncId) (fn:Func) (s:ChangeSpec) (c:OpenClaim)=>(((c.named==P.varsNamed f):Bool))) Tryz.prog 5 Tryz.f5 (OpenSpec.ofChange Rows.lowerPartsSpec).bare Rows.lowerPartsRow=true:=by kernel_rfl
end Go.Proofs.YtmpmbfpkpannjaaGreatDoor.lowerParts
