/- The layer of tasks wakes: run by the kernel. -/
import Derived.Test.YtmkdaehnmhgjmaaGreatDoorAm08
import Derived.KernelRfl
set_option linter.unusedVariables false
set_option linter.unusedSimpArgs false
namespace Go.AM
theorem wakes25_run : callN code 300 I.blaw25_wakes [] [] = some (.bool true, []) := by kernel_rfl
end Go.AM
