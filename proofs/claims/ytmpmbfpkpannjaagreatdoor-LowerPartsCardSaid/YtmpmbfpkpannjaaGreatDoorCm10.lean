/- Part of the proof. -/
import Derived.Test.YtmpmbfpkpannjaaGreatDoorCm08
namespace Go.AM.K
theorem k2:PN 69 ((P.tbl.drop 69).take 69)=true:=by kernel_rfl
end Go.AM.K
