/- The layer wakes: run by the kernel. -/
import Derived.Test.YtappfinkgehchaaGreatDoorAm20
import Derived.Test.YtappfinkgehchaaGreatDoorAm22
set_option linter.unusedVariables false
set_option linter.unusedSimpArgs false
set_option linter.unusedSectionVars false
namespace Go.AM
theorem wkA : callN code 60 I.blaw21_one [] [] = some (wk0, []) := by kernel_rfl
def kn3 : List Known := [⟨I.blaw21_one, [], wk0⟩, ⟨I.plan_Plan, [tupAt 2 wk0, tupAt 0 wk0], wk1⟩, ⟨I.mean_through, [tupAt 0 wk1, tupAt 0 wk0, tupAt 1 wk0], wk3⟩]
theorem kn3_ok : ∀ e ∈ kn3, e.Ok code 180 := fun e he => by
  simp only [kn3, List.mem_cons, List.not_mem_nil, or_false] at he
  rcases he with rfl | rfl | rfl
  · exact Known.Ok.mono (N := 60) good ⟨rfl, wkA⟩ (by decide)
  · exact Known.Ok.mono (N := 120) good ⟨rfl, callM_le good kn1_ok 60 _ _ _ _ wkB⟩ (by decide)
  · exact ⟨rfl, callM_le good kn12_ok 60 _ _ _ _ wkF⟩
theorem wakes_memo : callM code kn3 40 I.blaw21_wakes [] [] = some (.bool true, []) := by kernel_rfl
theorem wakes_run : callN code 220 I.blaw21_wakes [] [] = some (.bool true, []) := callM_le good kn3_ok 40 _ _ _ _ wakes_memo
end Go.AM
