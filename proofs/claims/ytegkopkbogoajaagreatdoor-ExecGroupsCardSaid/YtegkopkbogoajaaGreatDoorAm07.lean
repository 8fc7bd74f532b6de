/- Part of the proof. -/
import Derived.Test.YtegkopkbogoajaaGreatDoorAm05
namespace Go.AM.K
theorem k2:PR 58 ((P.tbl.drop 58).take 58)=true:=by kernel_rfl
end Go.AM.K
