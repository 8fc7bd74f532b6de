/- Calls that the example makes, run by the kernel. -/
import Derived.Test.YtappfinkgehchaaGreatDoorAm18
set_option linter.unusedVariables false
set_option linter.unusedSimpArgs false
set_option linter.unusedSectionVars false
set_option maxRecDepth 100000
namespace Go.AM
def kn1 : List Known := [
  ⟨2, [.agg [.int .i64 2, .int .i64 1, .int .u64 0, .str []]], .int .i64 0⟩,
  ⟨2, [.agg [.int .i64 2, .int .i64 3, .int .u64 0, .str []]], .int .i64 0⟩,
  ⟨2, [.agg [.int .i64 2, .int .i64 2, .int .u64 0, .str []]], .int .i64 0⟩,
  ⟨2, [.agg [.int .i64 0, .int .i64 0, .int .u64 0, .str []]], .int .i64 0⟩,
  ⟨2, [.agg [.int .i64 4, .int .i64 0, .int .u64 1, .str []]], .int .i64 0⟩,
  ⟨2, [.agg [.int .i64 4, .int .i64 0, .int .u64 4, .str []]], .int .i64 0⟩,
  ⟨2, [.agg [.int .i64 4, .int .i64 0, .int .u64 2, .str []]], .int .i64 0⟩,
  ⟨2, [.agg [.int .i64 4, .int .i64 0, .int .u64 6, .str []]], .int .i64 0⟩,
  ⟨2, [.agg [.int .i64 2, .int .i64 6, .int .u64 0, .str []]], .int .i64 0⟩,
  ⟨17, [.imm false [.agg [.int .i64 2, .int .i64 1, .int .u64 0, .str []]]], .bool true⟩,
  ⟨17, [.imm false [.agg [.int .i64 2, .int .i64 3, .int .u64 0, .str []]]], .bool true⟩,
  ⟨17, [.imm false [.agg [.int .i64 4, .int .i64 0, .int .u64 4, .str []]]], .bool true⟩,
  ⟨17, [.imm false [.agg [.int .i64 2, .int .i64 2, .int .u64 0, .str []]]], .bool true⟩,
  ⟨17, [.imm false [.agg [.int .i64 4, .int .i64 0, .int .u64 2, .str []]]], .bool true⟩,
  ⟨17, [.imm false [.agg [.int .i64 2, .int .i64 6, .int .u64 0, .str []]]], .bool true⟩,
  ⟨62, [.imm false [.imm false [.agg [.int .i64 2, .int .i64 1, .int .u64 0, .str []]], .imm false [.agg [.int .i64 2, .int .i64 3, .int .u64 0, .str []]]], .imm false [.int .i64 2]], .bool true⟩,
  ⟨62, [.imm false [.imm false [.agg [.int .i64 4, .int .i64 0, .int .u64 4, .str []]]], .imm false [.int .i64 4]], .bool true⟩,
  ⟨62, [.imm false [.imm false [.agg [.int .i64 2, .int .i64 2, .int .u64 0, .str []]]], .imm false [.int .i64 2]], .bool true⟩,
  ⟨62, [.imm false [.imm false [.agg [.int .i64 4, .int .i64 0, .int .u64 2, .str []]]], .imm false [.int .i64 4]], .bool true⟩,
  ⟨62, [.imm false [.imm false [.agg [.int .i64 4, .int .i64 0, .int .u64 2, .str []]], .imm false [.agg [.int .i64 4, .int .i64 0, .int .u64 4, .str []]]], .imm false [.int .i64 4]], .bool true⟩,
  ⟨62, [.imm false [.imm false [.agg [.int .i64 2, .int .i64 6, .int .u64 0, .str []]]], .imm false [.int .i64 2]], .bool true⟩,
  ⟨26, [.agg [.str [116], .imm false [.agg [.str [97], .int .i64 2]], .imm false []]], .str [116]⟩,
  ⟨24, [.agg [.str [97], .int .i64 2]], .str [97]⟩,
  ⟨38, [.agg [.imm false [.agg [.int .i64 1, .int .i64 (-1), .int .i64 (-1), .int .i64 0, .imm false [.int .i64 2], .bool false, .imm false [], .imm false [], .imm false [], .imm false [], .imm false [], .int .i64 0], .agg [.int .i64 10, .int .i64 0, .int .i64 (-1), .int .i64 0, .imm false [], .bool false, .imm false [], .imm false [], .imm false [.agg [.int .i64 3, .imm false [.agg [.int .i64 2, .int .i64 (-1), .int .i64 (-1), .int .i64 0, .int .i64 0, .int .i64 0, .int .u64 0, .str []]]]], .imm false [], .imm false [], .int .i64 0]], .int .i64 1, .int .i64 3, .imm false []], .int .i64 2], .imm false [.int .i64 1, .int .i64 2]⟩,
  ⟨38, [.agg [.imm false [.agg [.int .i64 9, .int .i64 (-1), .int .i64 (-1), .int .i64 0, .imm false [.int .i64 4], .bool false, .imm false [], .imm false [], .imm false [], .imm false [], .imm false [], .int .i64 0], .agg [.int .i64 11, .int .i64 0, .int .i64 (-1), .int .i64 0, .imm false [], .bool false, .imm false [], .imm false [], .imm false [.agg [.int .i64 3, .imm false []]], .imm false [], .imm false [], .int .i64 0]], .int .i64 2, .int .i64 4, .imm false []], .int .i64 2], .imm false [.int .i64 0]⟩,
  ⟨9, [.agg [.imm false [.agg [.int .i64 2, .int .i64 (-1), .int .i64 (-1), .int .i64 0, .int .i64 0, .int .i64 0, .int .u64 0, .str []]]]], .int .i64 0⟩,
  ⟨31, [.imm true [.imm false [.imm false [.agg [.int .i64 2, .int .i64 1, .int .u64 0, .str []]], .imm false [.agg [.int .i64 2, .int .i64 3, .int .u64 0, .str []]]]]], .int .i64 0⟩,
  ⟨31, [.imm true [.imm true [.imm false [.agg [.int .i64 4, .int .i64 0, .int .u64 4, .str []]]]]], .int .i64 0⟩,
  ⟨31, [.imm true [.imm false [.imm false [.agg [.int .i64 2, .int .i64 2, .int .u64 0, .str []]]]]], .int .i64 0⟩,
  ⟨31, [.imm true [.imm true [.imm false [.agg [.int .i64 4, .int .i64 0, .int .u64 2, .str []]]]]], .int .i64 0⟩,
  ⟨31, [.imm true [.imm false [], .imm false [.imm false [.agg [.int .i64 4, .int .i64 0, .int .u64 4, .str []]]]]], .int .i64 0⟩,
  ⟨31, [.imm true [.imm false [.imm false [.agg [.int .i64 4, .int .i64 0, .int .u64 4, .str []]]]]], .int .i64 0⟩,
  ⟨31, [.imm true [.imm false [.imm false [.agg [.int .i64 4, .int .i64 0, .int .u64 4, .str []]]], .imm false [.imm false [.agg [.int .i64 4, .int .i64 0, .int .u64 2, .str []]]]]], .int .i64 0⟩,
  ⟨31, [.imm true [.imm false [.imm false [.agg [.int .i64 4, .int .i64 0, .int .u64 4, .str []]], .imm false [.agg [.int .i64 4, .int .i64 0, .int .u64 2, .str []]]]]], .int .i64 0⟩,
  ⟨31, [.imm true [.imm false [.imm false [.agg [.int .i64 4, .int .i64 0, .int .u64 2, .str []]], .imm false [.agg [.int .i64 4, .int .i64 0, .int .u64 4, .str []]]]]], .int .i64 0⟩,
  ⟨31, [.imm true [.imm true [.imm false [.agg [.int .i64 2, .int .i64 6, .int .u64 0, .str []]]]]], .int .i64 0⟩,
  ⟨63, [.imm false [.agg [.int .i64 1, .int .i64 (-1), .int .i64 (-1), .int .i64 0, .imm false [.int .i64 2], .bool false, .imm false [], .imm false [], .imm false [], .imm false [], .imm false [], .int .i64 0], .agg [.int .i64 10, .int .i64 0, .int .i64 (-1), .int .i64 0, .imm false [], .bool false, .imm false [], .imm false [], .imm false [.agg [.int .i64 3, .imm false [.agg [.int .i64 2, .int .i64 (-1), .int .i64 (-1), .int .i64 0, .int .i64 0, .int .i64 0, .int .u64 0, .str []]]]], .imm false [], .imm false [], .int .i64 0]]], .tup [.imm false [.imm false [.int .i64 2], .imm false [.int .i64 4]], .int .i64 0, .int .i64 0]⟩,
  ⟨63, [.imm false [.agg [.int .i64 9, .int .i64 (-1), .int .i64 (-1), .int .i64 0, .imm false [.int .i64 4], .bool false, .imm false [], .imm false [], .imm false [], .imm false [], .imm false [], .int .i64 0], .agg [.int .i64 11, .int .i64 0, .int .i64 (-1), .int .i64 0, .imm false [], .bool false, .imm false [], .imm false [], .imm false [.agg [.int .i64 3, .imm false []]], .imm false [], .imm false [], .int .i64 0]]], .tup [.imm false [.imm false [.int .i64 4], .imm false [.int .i64 2]], .int .i64 0, .int .i64 0]⟩,
  ⟨65, [.imm false [.imm false [.agg [.int .i64 2, .int .i64 1, .int .u64 0, .str []]], .imm false [.agg [.int .i64 2, .int .i64 3, .int .u64 0, .str []]]]], .frs 1 [.imm false [.agg [.int .i64 2, .int .i64 1, .int .u64 0, .str []]], .imm false [.agg [.int .i64 2, .int .i64 3, .int .u64 0, .str []]]]⟩,
  ⟨65, [.imm true [.imm false [.agg [.int .i64 4, .int .i64 0, .int .u64 4, .str []]]]], .frs 1 [.imm false [.agg [.int .i64 4, .int .i64 0, .int .u64 4, .str []]]]⟩,
  ⟨65, [.imm false [.imm false [.agg [.int .i64 2, .int .i64 2, .int .u64 0, .str []]]]], .frs 1 [.imm false [.agg [.int .i64 2, .int .i64 2, .int .u64 0, .str []]]]⟩,
  ⟨65, [.imm true [.imm false [.agg [.int .i64 4, .int .i64 0, .int .u64 2, .str []]]]], .frs 1 [.imm false [.agg [.int .i64 4, .int .i64 0, .int .u64 2, .str []]]]⟩,
  ⟨65, [.imm false [.imm false [.agg [.int .i64 4, .int .i64 0, .int .u64 4, .str []]]]], .frs 1 [.imm false [.agg [.int .i64 4, .int .i64 0, .int .u64 4, .str []]]]⟩,
  ⟨65, [.imm false [.imm false [.agg [.int .i64 4, .int .i64 0, .int .u64 4, .str []]], .imm false [.agg [.int .i64 4, .int .i64 0, .int .u64 2, .str []]]]], .frs 1 [.imm false [.agg [.int .i64 4, .int .i64 0, .int .u64 2, .str []]], .imm false [.agg [.int .i64 4, .int .i64 0, .int .u64 4, .str []]]]⟩,
  ⟨65, [.imm false [.imm false [.agg [.int .i64 4, .int .i64 0, .int .u64 2, .str []]], .imm false [.agg [.int .i64 4, .int .i64 0, .int .u64 4, .str []]]]], .frs 1 [.imm false [.agg [.int .i64 4, .int .i64 0, .int .u64 2, .str []]], .imm false [.agg [.int .i64 4, .int .i64 0, .int .u64 4, .str []]]]⟩,
  ⟨65, [.imm true [.imm false [.agg [.int .i64 2, .int .i64 6, .int .u64 0, .str []]]]], .frs 1 [.imm false [.agg [.int .i64 2, .int .i64 6, .int .u64 0, .str []]]]⟩,
  ⟨58, [.agg [.imm false [.agg [.int .i64 2, .int .i64 (-1), .int .i64 (-1), .int .i64 0, .int .i64 0, .int .i64 0, .int .u64 0, .str []]]], .imm false [.int .i64 2]], .tup [.int .i64 2, .int .i64 0]⟩,
  ⟨184, [.agg [.imm false [.agg [.int .i64 1, .int .i64 (-1), .int .i64 (-1), .int .i64 0, .imm false [.int .i64 2], .bool false, .imm false [], .imm false [], .imm false [], .imm false [], .imm false [], .int .i64 0]]]], .tup [.imm false [.int .i64 2], .int .i64 0]⟩,
  ⟨184, [.agg [.imm false [.agg [.int .i64 1, .int .i64 (-1), .int .i64 (-1), .int .i64 0, .imm false [.int .i64 2], .bool false, .imm false [], .imm false [], .imm false [], .imm false [], .imm false [], .int .i64 0], .agg [.int .i64 4, .int .i64 0, .int .i64 (-1), .int .i64 0, .imm false [], .bool false, .imm false [], .imm false [], .imm false [.agg [.int .i64 3, .imm false [.agg [.int .i64 2, .int .i64 (-1), .int .i64 (-1), .int .i64 0, .int .i64 0, .int .i64 0, .int .u64 0, .str []]]]], .imm false [], .imm false [], .int .i64 0]]]], .tup [.imm false [.int .i64 2], .int .i64 0]⟩,
  ⟨202, [.agg [.int .i64 10, .int .i64 0, .int .i64 (-1), .int .i64 0, .imm false [], .bool false, .imm false [], .imm false [], .imm false [.agg [.int .i64 3, .imm false [.agg [.int .i64 2, .int .i64 (-1), .int .i64 (-1), .int .i64 0, .int .i64 0, .int .i64 0, .int .u64 0, .str []]]]], .imm false [], .imm false [], .int .i64 0], .imm false [.int .i64 2]], .imm false [.int .i64 4]⟩,
  ⟨103, [.agg [.imm false [.agg [.str [116], .imm false [.agg [.str [97], .int .i64 2]], .imm false []]]]], .int .i64 0⟩]
noncomputable def okB (N : Nat) (e : Known) : Bool := isPureFn (code.fns e.f) && match callN code N e.f e.args [] with
  | some (v, []) => same v e.out
  | _ => false
theorem okB_ok {N : Nat} {e : Known} (h : okB N e = true) : e.Ok code N := by
  unfold okB at h
  simp only [Bool.and_eq_true] at h
  refine ⟨h.1, ?_⟩
  have h2 := h.2
  split at h2
  · rename_i v hv
    rw [hv, same_eq h2]
  · cases h2
theorem kn1_b : (kn1.all fun e => okB 60 e) = true := by kernel_rfl
theorem kn1_ok : ∀ e ∈ kn1, e.Ok code 60 := fun e he => okB_ok (List.all_eq_true.1 kn1_b e he)
end Go.AM
