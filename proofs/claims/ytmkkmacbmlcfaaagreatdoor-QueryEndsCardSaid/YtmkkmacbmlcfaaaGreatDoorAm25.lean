/- The example of the law of the end of a query, run by the kernel. -/
import Derived.Test.YtmkkmacbmlcfaaaGreatDoorAm22
set_option linter.unusedVariables false
set_option linter.unusedSimpArgs false
set_option linter.unusedSectionVars false
set_option maxRecDepth 100000
namespace Go.AM
theorem wqp_run : callM code kq1 60 I.plan_Plan [.agg [wqN], wqC] [] = some (wqP, []) := by kernel_rfl
end Go.AM
