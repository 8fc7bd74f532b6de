/- Part of the proof. -/
import Derived.Test.YtegkopkbogoajaaGreatDoorAm05
namespace Go.AM.K
theorem k3:PR 116 ((P.tbl.drop 116).take 58)=true:=by kernel_rfl
end Go.AM.K
