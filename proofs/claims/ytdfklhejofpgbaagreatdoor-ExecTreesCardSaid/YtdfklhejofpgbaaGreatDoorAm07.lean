/- Part of the proof. -/
import Derived.Test.YtdfklhejofpgbaaGreatDoorAm06
namespace Go.AM.K
theorem k1:Qe 0 ((P.tbl.drop 0).take 103)=true:=by kernel_rfl
end Go.AM.K
