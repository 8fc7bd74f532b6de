/- The example of the law of the end of a query, run by the kernel. -/
import Derived.Test.YtmkkmacbmlcfaaaGreatDoorAm23
import Derived.Test.YtmkkmacbmlcfaaaGreatDoorAm24
import Derived.Test.YtmkkmacbmlcfaaaGreatDoorAm25
set_option linter.unusedVariables false
set_option linter.unusedSimpArgs false
set_option linter.unusedSectionVars false
set_option maxRecDepth 100000
namespace Go.AM
def kq2 : List Known := [⟨I.lower_Query, [wqC, wqS], .tup [.agg [wqN, .imm false [.str [97]]], .int .i64 0, .int .i64 0]⟩, ⟨I.rewrite_Rewrite, [.agg [wqN]], .tup [.agg [wqN], .int .i64 0]⟩, ⟨I.plan_Plan, [.agg [wqN], wqC], wqP⟩]
theorem kq2_ok : ∀ e ∈ kq2, e.Ok code 100 := fun e he => by
  simp only [kq2, List.mem_cons, List.not_mem_nil, or_false] at he
  rcases he with rfl | rfl | rfl
  · exact ⟨rfl, callM_le good kq1_ok 60 _ _ _ _ wql_run⟩
  · exact ⟨rfl, callM_le good kq1_ok 60 _ _ _ _ wqr_run⟩
  · exact ⟨rfl, callM_le good kq1_ok 60 _ _ _ _ wqp_run⟩
theorem wakes_memo : callM code (kq2 ++ kq1) 60 I.blaw27_wakes [] [] = some (.bool true, []) := by kernel_rfl
theorem kq12_ok : ∀ e ∈ kq2 ++ kq1, e.Ok code 100 := fun e he => by
  rcases List.mem_append.1 he with h | h
  · exact kq2_ok e h
  · exact Known.Ok.mono good (kq1_ok e h) (by decide)
theorem wakes_run : callN code 160 I.blaw27_wakes [] [] = some (.bool true, []) := callM_le good kq12_ok 60 _ _ _ _ wakes_memo
end Go.AM
