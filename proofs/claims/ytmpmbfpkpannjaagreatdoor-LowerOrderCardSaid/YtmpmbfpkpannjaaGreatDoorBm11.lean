/- Part of the proof. -/
import Derived.Test.YtmpmbfpkpannjaaGreatDoorBm08
namespace Go.AM.K
theorem k3:PI 138 ((P.tbl.drop 138).take 69)=true:=by kernel_rfl
end Go.AM.K
