/- Part of the proof. -/
import Derived.Test.YtpdimbocafbieaaGreatDoorAm06
import Derived.KernelRfl
set_option linter.unusedVariables false
set_option linter.unusedSimpArgs false
namespace Go.AM
theorem wakes25_run:callN code 300 I.qg [] []=some (.bool true,[]):=by kernel_rfl
end Go.AM
