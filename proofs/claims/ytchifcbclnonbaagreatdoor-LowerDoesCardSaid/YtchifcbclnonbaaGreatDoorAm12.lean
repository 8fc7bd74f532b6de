/- Part of the proof. -/
import Derived.Test.YtchifcbclnonbaaGreatDoorAm08
namespace Go.AM.K
theorem k4:M4 141 ((P.tbl.drop 141).take 47)=true:=by kernel_rfl
end Go.AM.K
