/- Part of the proof. -/
import Derived.Test.YtkbcglkclodkaaaGreatDoorAm06
import Derived.KernelRfl
set_option linter.unusedVariables false
set_option linter.unusedSimpArgs false
namespace Go.AM
theorem wakes_run:callN code 120 I.qai [] []=some (.bool true,[]):=by kernel_rfl
end Go.AM
