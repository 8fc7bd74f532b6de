/- Part of the proof. -/
import Derived.Test.YtchifcbclnonbaaGreatDoorAm08
namespace Go.AM.K
theorem k3:M4 94 ((P.tbl.drop 94).take 47)=true:=by kernel_rfl
end Go.AM.K
