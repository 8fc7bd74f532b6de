/- Part of the proof. -/
import Derived.Test.YtmpmbfpkpannjaaGreatDoorCm08
namespace Go.AM.K
theorem k6:PN 345 (P.tbl.drop 345)=true:=by kernel_rfl
end Go.AM.K
