/- Part of the proof. -/
import Derived.Test.YtdfklhejofpgbaaGreatDoorAm06
namespace Go.AM.K
theorem k4:Qe 309 (P.tbl.drop 309)=true:=by kernel_rfl
end Go.AM.K
