/- The example's plan is right, run by the kernel. -/
import Derived.Test.YtappfinkgehchaaGreatDoorAm19
set_option linter.unusedVariables false
set_option linter.unusedSimpArgs false
set_option linter.unusedSectionVars false
namespace Go.AM
def kn2 : List Known := [⟨I.prop_Check, [tupAt 0 wk1, tupAt 0 wk0], .tup [.int .i64 0, .int .i64 0, .int .i64 0]⟩, ⟨I.place_Check, [tupAt 0 wk0, tupAt 1 wk0], .int .i64 0⟩]
theorem wkD : callM code kn1 60 I.prop_Check [tupAt 0 wk1, tupAt 0 wk0] [] = some (.tup [.int .i64 0, .int .i64 0, .int .i64 0], []) := by kernel_rfl
theorem wkE : callM code kn1 60 I.place_Check [tupAt 0 wk0, tupAt 1 wk0] [] = some (.int .i64 0, []) := by kernel_rfl
theorem kn2_ok : ∀ e ∈ kn2, e.Ok code 120 := fun e he => by
  simp only [kn2, List.mem_cons, List.not_mem_nil, or_false] at he
  rcases he with rfl | rfl
  · exact ⟨rfl, callM_le good kn1_ok 60 _ _ _ _ wkD⟩
  · exact ⟨rfl, callM_le good kn1_ok 60 _ _ _ _ wkE⟩
theorem kn12_ok : ∀ e ∈ kn2 ++ kn1, e.Ok code 120 := fun e he => by
  rcases List.mem_append.1 he with h | h
  · exact kn2_ok e h
  · exact Known.Ok.mono good (kn1_ok e h) (by decide)
end Go.AM
