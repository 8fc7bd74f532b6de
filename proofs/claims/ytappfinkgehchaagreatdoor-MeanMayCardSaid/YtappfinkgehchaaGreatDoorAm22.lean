/- The example's meaning, run by the kernel. -/
import Derived.Test.YtappfinkgehchaaGreatDoorAm21
set_option linter.unusedVariables false
set_option linter.unusedSimpArgs false
set_option linter.unusedSectionVars false
namespace Go.AM
theorem wkF : callM code (kn2 ++ kn1) 60 I.mean_through [tupAt 0 wk1, tupAt 0 wk0, tupAt 1 wk0] [] = some (wk3, []) := by kernel_rfl
end Go.AM
