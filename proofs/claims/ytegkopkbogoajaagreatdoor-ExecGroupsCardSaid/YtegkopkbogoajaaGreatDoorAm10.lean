/- Part of the proof. -/
import Derived.Test.YtegkopkbogoajaaGreatDoorAm05
namespace Go.AM.K
theorem k5:PR 232 ((P.tbl.drop 232).take 58)=true:=by kernel_rfl
end Go.AM.K
