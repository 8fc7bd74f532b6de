/- Part of the proof. -/
import Derived.Test.YtegkopkbogoajaaGreatDoorAm05
namespace Go.AM.K
theorem k4:PR 174 ((P.tbl.drop 174).take 58)=true:=by kernel_rfl
end Go.AM.K
