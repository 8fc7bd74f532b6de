/- Part of the proof. -/
import Derived.Test.YtdfklhejofpgbaaGreatDoorAm06
namespace Go.AM.K
theorem k2:Qe 103 ((P.tbl.drop 103).take 103)=true:=by kernel_rfl
end Go.AM.K
