/- Part of the proof. -/
import Derived.Test.YtmpmbfpkpannjaaGreatDoorCm08
namespace Go.AM.K
theorem k5:PN 276 ((P.tbl.drop 276).take 69)=true:=by kernel_rfl
end Go.AM.K
