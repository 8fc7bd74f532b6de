/- Part of the proof. -/
import Derived.Test.YtegkopkbogoajaaGreatDoorCards
import Derived.Deep.DeepHandedRow
import Derived.KernelRfl
set_option linter.unusedVariables false
set_option linter.unusedSimpArgs false
namespace Go.Proofs.YtegkopkbogoajaaGreatDoor.execGroups
open Go.ChangeShapes Go.WideShapes Go.ChangeAt
theorem qR:(fun (P:Program) (f:FuncId) (fn:Func) (s:ChangeSpec) (c:OpenClaim)=>(((c.recurses==P.recurses f):Bool))) Tryz.prog 3 Tryz.f3 (OpenSpec.ofChange Rows.execGroupsSpec).bare Rows.execGroupsRow=true:=by kernel_rfl
theorem tV:(fun (P:Program) (f:FuncId) (fn:Func) (s:ChangeSpec) (c:OpenClaim)=>(((c.named==P.varsNamed f):Bool))) Tryz.prog 3 Tryz.f3 (OpenSpec.ofChange Rows.execGroupsSpec).bare Rows.execGroupsRow=true:=by kernel_rfl
end Go.Proofs.YtegkopkbogoajaaGreatDoor.execGroups
