/- Part of the proof. -/
import Derived.Test.YtchifcbclnonbaaGreatDoorAm08
namespace Go.AM.K
theorem k6:M4 235 (P.tbl.drop 235)=true:=by kernel_rfl
end Go.AM.K
