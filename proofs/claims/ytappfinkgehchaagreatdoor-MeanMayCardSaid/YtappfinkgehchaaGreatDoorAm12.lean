/- PRINTED by mktop2.py: a part of the functions is the program's, as the kernel sees. -/
import Derived.Test.YtappfinkgehchaaGreatDoorAm09
namespace Go.AM.K
theorem k3 : ckL 80 ((P.tbl.drop 80).take 40) = true := by kernel_rfl
end Go.AM.K
