/- Part of the proof. -/
import Derived.Test.YtdfklhejofpgbaaGreatDoorAm05
import Derived.KernelRfl
set_option linter.unusedVariables false
set_option linter.unusedSimpArgs false
namespace Go.AM
theorem TQ:dl code 120 I.qah [] []=some (.bool true,[]):=by kernel_rfl
end Go.AM
