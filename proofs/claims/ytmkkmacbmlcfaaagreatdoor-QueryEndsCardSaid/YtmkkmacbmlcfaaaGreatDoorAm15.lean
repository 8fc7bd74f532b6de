/- PRINTED by mktop2.py: a part of the functions is the program's, as the kernel sees. -/
import Derived.Test.YtmkkmacbmlcfaaaGreatDoorAm11
namespace Go.AM.K
theorem k4 : ckL 126 ((P.tbl.drop 126).take 42) = true := by kernel_rfl
end Go.AM.K
