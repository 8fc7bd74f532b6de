/- Part of the proof. -/
import Derived.Test.YtmpmbfpkpannjaaGreatDoorBm08
namespace Go.AM.K
theorem k1:PI 0 ((P.tbl.drop 0).take 69)=true:=by kernel_rfl
end Go.AM.K
