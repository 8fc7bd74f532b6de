/- Part of the proof. -/
import Derived.Test.YtmpmbfpkpannjaaGreatDoorCm08
namespace Go.AM.K
theorem k4:PN 207 ((P.tbl.drop 207).take 69)=true:=by kernel_rfl
end Go.AM.K
