/- The example's plan, run by the kernel. -/
import Derived.Test.YtappfinkgehchaaGreatDoorAm19
set_option linter.unusedVariables false
set_option linter.unusedSimpArgs false
set_option linter.unusedSectionVars false
namespace Go.AM
theorem wkB : callM code kn1 60 I.plan_Plan [tupAt 2 wk0, tupAt 0 wk0] [] = some (wk1, []) := by kernel_rfl
end Go.AM
