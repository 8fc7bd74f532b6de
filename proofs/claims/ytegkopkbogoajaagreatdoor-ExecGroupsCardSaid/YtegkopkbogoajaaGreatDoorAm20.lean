/- Part of the proof. -/
import Derived.Test.YtegkopkbogoajaaGreatDoorAm04
import Derived.KernelRfl
set_option linter.unusedVariables false
set_option linter.unusedSimpArgs false
namespace Go.AM
theorem YS:bJ code 120 I.qag [] []=some (.bool true,[]):=by kernel_rfl
end Go.AM
