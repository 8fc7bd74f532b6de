/- Part of the proof. -/
import Derived.Test.YtegkopkbogoajaaGreatDoorAm05
namespace Go.AM.K
theorem k7:PR 348 (P.tbl.drop 348)=true:=by kernel_rfl
end Go.AM.K
