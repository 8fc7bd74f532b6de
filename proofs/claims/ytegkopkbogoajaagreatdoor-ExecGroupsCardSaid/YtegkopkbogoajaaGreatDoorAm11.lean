/- Part of the proof. -/
import Derived.Test.YtegkopkbogoajaaGreatDoorAm05
namespace Go.AM.K
theorem k6:PR 290 ((P.tbl.drop 290).take 58)=true:=by kernel_rfl
end Go.AM.K
