/- Part of the proof. -/
import Derived.Test.YtchifcbclnonbaaGreatDoorAm08
namespace Go.AM.K
theorem k2:M4 47 ((P.tbl.drop 47).take 47)=true:=by kernel_rfl
end Go.AM.K
