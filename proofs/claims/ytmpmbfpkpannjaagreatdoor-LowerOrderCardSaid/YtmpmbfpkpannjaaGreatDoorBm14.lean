/- Part of the proof. -/
import Derived.Test.YtmpmbfpkpannjaaGreatDoorBm08
namespace Go.AM.K
theorem k6:PI 345 (P.tbl.drop 345)=true:=by kernel_rfl
end Go.AM.K
