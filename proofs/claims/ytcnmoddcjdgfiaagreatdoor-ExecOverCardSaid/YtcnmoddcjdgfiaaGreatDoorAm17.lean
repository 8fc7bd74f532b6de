/- The layer wakes: run by the kernel. -/
import Derived.Test.YtcnmoddcjdgfiaaGreatDoorAm07
import Derived.KernelRfl
namespace Go.AM
theorem wakes_run : callN code 120 I.blaw20_wakes [] [] = some (.bool true, []) := by kernel_rfl
end Go.AM
