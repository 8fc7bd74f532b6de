/- The example of the law of the end of a query, run by the kernel. -/
import Derived.Test.YtmkkmacbmlcfaaaGreatDoorAm22
set_option linter.unusedVariables false
set_option linter.unusedSimpArgs false
set_option linter.unusedSectionVars false
set_option maxRecDepth 100000
namespace Go.AM
theorem wql_run : callM code kq1 60 I.lower_Query [wqC, wqS] [] = some (.tup [.agg [wqN, .imm false [.str [97]]], .int .i64 0, .int .i64 0], []) := by kernel_rfl
end Go.AM
