/- What the kernel sees of the join's parts. -/
import Derived.Test.YtcnmoddcjdgfiaaGreatDoorAm14
import Derived.KernelRfl
namespace Go.AM
abbrev K1 : AVal := .imm false [.imm false [.int .i64 2]]
abbrev K3 : AVal := .imm false [.imm false [.int .i64 2], .imm false [.int .i64 2], .imm false [.int .i64 2, .int .i64 2]]
theorem kinds1 : callN code 120 I.prop_Kinds [.imm true [scanN]] [] = some (.tup [K1, .int .i64 0, .int .i64 0], []) := by kernel_rfl
theorem kinds3 : callN code 120 I.prop_Kinds [.imm true [scanN, inN, joinN]] [] = some (.tup [K3, .int .i64 0, .int .i64 0], []) := by kernel_rfl
theorem concat2 (n m : Int) : callN code 60 168 [.imm true [.imm false [intV n], .imm false [intV m]]] [] = some (.imm false [intV n, intV m], []) := by kernel_rfl
theorem holds2 (n m : Int) : callN code 100 192 [.agg [yesN], .imm false [intV n, intV m]] [] = some (.tup [.bool true, .bool true], []) := by kernel_rfl
end Go.AM
