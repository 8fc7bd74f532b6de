/- Part of the proof. -/
import Derived.Test.YtchifcbclnonbaaGreatDoorAm08
namespace Go.AM.K
theorem k1:M4 0 ((P.tbl.drop 0).take 47)=true:=by kernel_rfl
end Go.AM.K
