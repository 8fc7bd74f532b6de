/- Calls that the example makes, run by the kernel. -/
import Derived.Test.YtmkkmacbmlcfaaaGreatDoorAm21
set_option linter.unusedVariables false
set_option linter.unusedSimpArgs false
set_option linter.unusedSectionVars false
set_option maxRecDepth 100000
namespace Go.AM
def kq1 : List Known := [
  ⟨32, [.agg [.imm false [.agg [.int .i64 2, .int .i64 (-1), .int .i64 (-1), .int .i64 0, .int .i64 0, .int .i64 0, .int .u64 0, .str []]]], .imm false [.int .i64 2]], .tup [.int .i64 2, .int .i64 0]⟩,
  ⟨9, [.agg [.imm false [.agg [.int .i64 2, .int .i64 (-1), .int .i64 (-1), .int .i64 0, .int .i64 0, .int .i64 0, .int .u64 0, .str []]]]], .int .i64 0⟩,
  ⟨63, [.agg [.imm false [.agg [.str [116], .imm false [.agg [.str [97], .int .i64 2]], .imm false []]]]], .int .i64 0⟩,
  ⟨19, [.str [116]], .bool true⟩,
  ⟨19, [.str [97]], .bool true⟩]
noncomputable def okB (N : Nat) (e : Known) : Bool := isPureFn (code.fns e.f) && match callN code N e.f e.args [] with
  | some (v, []) => same v e.out
  | _ => false
theorem okB_ok {N : Nat} {e : Known} (h : okB N e = true) : e.Ok code N := by
  unfold okB at h
  simp only [Bool.and_eq_true] at h
  refine ⟨h.1, ?_⟩
  have h2 := h.2
  split at h2
  · rename_i v hv
    rw [hv, same_eq h2]
  · cases h2
theorem kq1_b : (kq1.all fun e => okB 40 e) = true := by kernel_rfl
theorem kq1_ok : ∀ e ∈ kq1, e.Ok code 40 := fun e he => okB_ok (List.all_eq_true.1 kq1_b e he)
end Go.AM
