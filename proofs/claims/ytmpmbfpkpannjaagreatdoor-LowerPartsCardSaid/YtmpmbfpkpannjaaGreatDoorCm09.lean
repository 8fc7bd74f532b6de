/- Part of the proof. -/
import Derived.Test.YtmpmbfpkpannjaaGreatDoorCm08
namespace Go.AM.K
theorem k1:PN 0 ((P.tbl.drop 0).take 69)=true:=by kernel_rfl
end Go.AM.K
