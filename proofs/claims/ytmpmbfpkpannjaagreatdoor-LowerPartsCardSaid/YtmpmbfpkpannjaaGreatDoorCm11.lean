/- Part of the proof. -/
import Derived.Test.YtmpmbfpkpannjaaGreatDoorCm08
namespace Go.AM.K
theorem k3:PN 138 ((P.tbl.drop 138).take 69)=true:=by kernel_rfl
end Go.AM.K
