/- Part of the proof. -/
import Derived.Test.YtmpmbfpkpannjaaGreatDoorCards
import Derived.Deep.DeepHandedRow
import Derived.KernelRfl
set_option linter.unusedVariables false
set_option linter.unusedSimpArgs false
set_option linter.unusedSectionVars false
namespace Go.Proofs.YtmpmbfpkpannjaaGreatDoor.lowerAll
open Go.ChangeShapes Go.WideShapes Go.ChangeAt
theorem j11:(fun (P:Program) (f:FuncId) (fn:Func) (s:ChangeSpec) (c:OpenClaim)=>(((c.recurses==P.recurses f):Bool))) Tryz.prog 3 Tryz.f3 (OpenSpec.ofChange Rows.lowerAllSpec).bare Rows.lowerAllRow=true:=by kernel_rfl
theorem j12:(fun (P:Program) (f:FuncId) (fn:Func) (s:ChangeSpec) (c:OpenClaim)=>(((c.named==P.varsNamed f):Bool))) Tryz.prog 3 Tryz.f3 (OpenSpec.ofChange Rows.lowerAllSpec).bare Rows.lowerAllRow=true:=by kernel_rfl
end Go.Proofs.YtmpmbfpkpannjaaGreatDoor.lowerAll
