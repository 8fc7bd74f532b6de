/- Part of the proof. -/
import Derived.Test.YtchifcbclnonbaaGreatDoorAm08
namespace Go.AM.K
theorem k5:M4 188 ((P.tbl.drop 188).take 47)=true:=by kernel_rfl
end Go.AM.K
