/- Part of the proof. -/
import Derived.Test.YtegkopkbogoajaaGreatDoorAm05
namespace Go.AM.K
theorem k1:PR 0 ((P.tbl.drop 0).take 58)=true:=by kernel_rfl
end Go.AM.K
