/- PRINTED by mktop2.py: a part of the functions is the program's, as the kernel sees. -/
import Derived.Test.YtmkkmacbmlcfaaaGreatDoorAm11
namespace Go.AM.K
theorem k1 : ckL 0 ((P.tbl.drop 0).take 42) = true := by kernel_rfl
end Go.AM.K
