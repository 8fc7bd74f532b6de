/- The layer wakes: run by the kernel. -/
import Derived.Test.YtkbcglkclodkaaaGreatDoorAm08
import Derived.KernelRfl
set_option linter.unusedVariables false
set_option linter.unusedSimpArgs false
namespace Go.AM
theorem wakes_run : callN code 120 I.blaw20_wakes [] [] = some (.bool true, []) := by kernel_rfl
end Go.AM
