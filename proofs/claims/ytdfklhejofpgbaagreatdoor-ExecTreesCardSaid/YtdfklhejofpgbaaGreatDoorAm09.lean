/- Part of the proof. -/
import Derived.Test.YtdfklhejofpgbaaGreatDoorAm06
namespace Go.AM.K
theorem k3:Qe 206 ((P.tbl.drop 206).take 103)=true:=by kernel_rfl
end Go.AM.K
