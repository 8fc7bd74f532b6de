/- PRINTED by mktop2.py: a part of the functions is the program's, as the kernel sees. -/
import Derived.Test.YtappfinkgehchaaGreatDoorAm09
namespace Go.AM.K
theorem k2 : ckL 40 ((P.tbl.drop 40).take 40) = true := by kernel_rfl
end Go.AM.K
