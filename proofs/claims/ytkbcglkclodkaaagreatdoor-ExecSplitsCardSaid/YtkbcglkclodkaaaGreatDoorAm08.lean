/- PRINTED BY gen.py: the functions' code for the abstract machine. -/
import Derived.Test.YtkbcglkclodkaaaGreatDoorAm07
import Derived.Test.YtkbcglkclodkaaaGreatDoorAm06
import Derived.Test.YtkbcglkclodkaaaGreatDoorAm05
set_option linter.unusedVariables false
set_option linter.unusedSimpArgs false
namespace Go.AM.P
def b_exec_fit_1 : ACode :=
  (.seq (.reg [] [(2, (v (.bool false)))])
  (.seq (.reg [i (.load false 1 (e 1)), i (.call 253 [(e 0), (l 0), (v (.fn 254 [] []))] false), i (.una .not (l 1))] [(2, l 2)])
  .ret))
def f_exec_fit_1 : AFunc := ⟨3, 2, .pure, [.env 2], b_exec_fit_1⟩
def l_slices_EqualFunc_api_Row_int_api_Value_int_0 : ACode :=
  (.seq (.reg [i (.bin .lss (e 10) (e 9))] [(11, l 0)])
  (.seq (.cond (e 11) .skip (.exit 0))
  (.seq (.blk 1 (.seq (.reg [i (.idxs 4 (e 8) (e 10)), i (.load true 4 (l 0)), i (.box 4 (v (.agg [.int .i64 0, .int .i64 0, .int .u64 0, .str []]))), i (.store 4 (l 2) (l 1))] [(5, l 2), (4, e 10)])
  (.seq (.reg [i (.idxs 1 (e 1) (e 4)), i (.load false 1 (l 0))] [(6, l 1)])
  (.seq (.reg [i (.load true 4 (e 5)), i (.callv (e 2) [(l 0), (e 6)]), i (.una .not (l 1))] [(12, l 2)])
  (.cond (e 12) (.seq (.reg [] [(3, (v (.bool false)))])
  .ret) .skip)))))
  (.reg [i (.bin .add (e 10) (v (.int .i64 1)))] [(10, l 0)]))))
def b_slices_EqualFunc_api_Row_int_api_Value_int : ACode :=
  (.seq (.reg [] [(3, (v (.bool false)))])
  (.seq (.seq (.reg [i (.len (e 0)), i (.len (e 1)), i (.bin .neq (l 0) (l 1))] [(7, l 2)])
  (.cond (e 7) (.seq (.reg [] [(3, (v (.bool false)))])
  .ret) .skip))
  (.seq (.seq (.reg [i (.len (e 0))] [(8, e 0), (9, l 0), (10, (v (.int .i64 0)))])
  (.blk 0 (.loop [3, 4, 5, 6, 11, 12] l_slices_EqualFunc_api_Row_int_api_Value_int_0)))
  (.seq (.reg [] [(3, (v (.bool true)))])
  .ret))))
def f_slices_EqualFunc_api_Row_int_api_Value_int : AFunc := ⟨13, 3, .pure, [.env 3], b_slices_EqualFunc_api_Row_int_api_Value_int⟩
def b_exec_fit_1_1 : ACode :=
  (.seq (.reg [i (.box 4 (e 0))] [(2, l 0), (3, (v (.bool false)))])
  (.seq (.reg [i (.load true 4 (e 2)), i (.call 255 [(l 0)] false), i (.bin .eql (l 1) (v (.int .i64 0))), g (l 2) true (.fld 0 (e 2)), g (l 2) true (.load false 1 (l 3)), g (l 2) true (.bin .eql (l 4) (v (.int .i64 0))), g (l 2) true (.mov (l 5)), g (l 6) false (.fld 0 (e 2)), g (l 6) false (.load false 1 (l 7)), g (l 6) false (.mov (e 1)), g (l 6) false (.bin .eql (l 8) (l 9)), g (l 2) true (.pick (l 6) (v (.bool true)) (l 10)), i (.pick (l 2) (l 11) (v (.bool false)))] [(3, l 12)])
  .ret))
def f_exec_fit_1_1 : AFunc := ⟨4, 2, .pure, [.env 3], b_exec_fit_1_1⟩
def b_value_Check : ACode :=
  (.seq (.reg [i (.box 4 (e 0))] [(1, l 0), (2, (v (.int .i64 0)))])
  (.seq (.seq (.reg [i (.load true 4 (e 1)), i (.call 256 [(l 0)] false), i (.build [.int .i64 0, .int .i64 0, .int .u64 0, .str []] []), i (.eqa true [0, 0, 0, 2] (l 1) (l 2))] [(3, l 3)])
  (.cond (e 3) (.seq (.reg [] [(2, (v (.int .i64 120)))])
  .ret) .skip))
  (.seq (.reg [] [(2, (v (.int .i64 0)))])
  .ret)))
def f_value_Check : AFunc := ⟨4, 1, .pure, [.env 2], b_value_Check⟩
def b_math_bits_Mul : ACode :=
  (.seq (.reg [] [(2, (v (.int .u64 0))), (3, (v (.int .u64 0)))])
  (.seq (.cond (v (.bool false)) (.seq (.reg [i (.conv .u32 (e 0)), i (.conv .u32 (e 1)), i (.call 258 [(l 0), (l 1)] false), i (.ext 0 (l 2)), i (.ext 1 (l 2))] [(4, l 3), (5, l 4)])
  (.seq (.reg [i (.conv .u64 (e 4)), i (.conv .u64 (e 5))] [(2, l 0), (3, l 1)])
  .ret)) .skip)
  (.seq (.reg [i (.call 257 [(e 0), (e 1)] false), i (.ext 0 (l 0)), i (.ext 1 (l 0))] [(6, l 1), (7, l 2)])
  (.seq (.reg [] [(2, e 6), (3, e 7)])
  .ret))))
def f_math_bits_Mul : AFunc := ⟨8, 2, .pure, [.env 2, .env 3], b_math_bits_Mul⟩
def b_row_right : ACode :=
  (.seq (.reg [] [(1, (v (.bool false)))])
  (.seq (.reg [i (.mov (v (.fn 260 [] [])))] [(2, l 0)])
  (.seq (.reg [i (.len (e 0)), i (.bin .leq (l 0) (v (.int .i64 16))), g (l 1) true (.mov (e 0)), g (l 1) true (.mov (e 2)), g (l 1) true (.call 259 [(l 2), (l 3)] false), g (l 1) true (.una .not (l 4)), i (.pick (l 1) (l 5) (v (.bool false)))] [(1, l 6)])
  .ret)))
def f_row_right : AFunc := ⟨3, 1, .pure, [.env 1], b_row_right⟩
def b_slices_Grow_api_Row_api_Row : ACode :=
  (.seq (.reg [i (.mov (v (.nil0)))] [(2, l 0)])
  (.seq (.seq (.reg [i (.bin .lss (e 1) (v (.int .i64 0)))] [(3, l 0)])
  (.cond (e 3) (.reg [i (.bad), i (.bad)] []) .skip))
  (.seq (.seq (.reg [i (.cap (e 0)), i (.len (e 0)), i (.bin .sub (l 0) (l 1)), i (.bin .sub (e 1) (l 2))] [(1, l 3)])
  (.seq (.reg [i (.bin .gtr (e 1) (v (.int .i64 0)))] [(4, l 0)])
  (.cond (e 4) (.reg [i (.cap (e 0)), i (.slice 1 (e 0) none (some (l 0))), i (.appz 1 (.nil0) (l 1) (e 1)), i (.len (e 0)), i (.slice 1 (l 2) none (some (l 3)))] [(0, l 4)]) .skip)))
  (.seq (.reg [] [(2, e 0)])
  .ret))))
def f_slices_Grow_api_Row_api_Row : AFunc := ⟨5, 2, .keep, [.env 2], b_slices_Grow_api_Row_api_Row⟩
def l_row_number_0 : ACode :=
  (.seq (.seq (.reg [i (.bin .geq (e 3) (v (.int .i64 0)))] [(4, l 0)])
  (.cond (e 4) .skip (.exit 0)))
  (.seq (.blk 1 (.reg [i (.bin .shr (e 1) (e 3)), i (.conv .u8 (l 0)), i (.mkl 1 [(l 1)]), i (.app 1 (e 0) (l 2))] [(0, l 3)]))
  (.reg [i (.bin .sub (e 3) (v (.int .i64 8)))] [(3, l 0)])))
def b_row_number : ACode :=
  (.seq (.reg [i (.mov (v (.nil0)))] [(2, l 0)])
  (.seq (.seq (.reg [] [(3, (v (.int .i64 56)))])
  (.blk 0 (.loop [4] l_row_number_0)))
  (.seq (.reg [] [(2, e 0)])
  .ret)))
def f_row_number : AFunc := ⟨5, 2, .keep, [.env 2], b_row_number⟩
def l_sum_Sum32_0 : ACode :=
  (.seq (.reg [i (.bin .lss (e 8) (e 7))] [(9, l 0)])
  (.seq (.cond (e 9) .skip (.exit 0))
  (.seq (.blk 1 (.seq (.reg [i (.idxs 1 (e 6) (e 8)), i (.load false 1 (l 0))] [(5, l 1)])
  (.reg [i (.callv (e 4) [(e 5)])] [])))
  (.reg [i (.bin .add (e 8) (v (.int .i64 1)))] [(8, l 0)]))))
def b_sum_Sum32 : ACode :=
  (.seq (.reg [] [(1, (v (.int .u32 0)))])
  (.seq (.reg [i (.call 262 [] false), i (.box 256 (v (.agg (List.replicate 256 (.int .u32 0))))), i (.store 256 (l 1) (l 0))] [(2, l 1)])
  (.seq (.reg [i (.box 1 (v (.int .u32 0))), i (.store 1 (l 0) (v (.int .u32 4294967295)))] [(3, l 0)])
  (.seq (.reg [i (.mkfn 261 [] [(e 3), (e 2)])] [(4, l 0)])
  (.seq (.seq (.reg [i (.len (e 0))] [(6, e 0), (7, l 0), (8, (v (.int .i64 0)))])
  (.blk 0 (.loop [5, 9] l_sum_Sum32_0)))
  (.seq (.reg [i (.load false 1 (e 3)), i (.una .xor (l 0))] [(1, l 1)])
  .ret))))))
def f_sum_Sum32 : AFunc := ⟨10, 1, .pure, [.env 1], b_sum_Sum32⟩
def l_slices_Concat_api_Row_api_Value_0 : ACode :=
  (.seq (.reg [i (.bin .lss (e 13) (e 12))] [(14, l 0)])
  (.seq (.cond (e 14) .skip (.exit 2))
  (.seq (.blk 3 (.seq (.reg [i (.idxs 1 (e 11) (e 13)), i (.load false 1 (l 0))] [(5, l 1)])
  (.reg [i (.app 4 (e 4) (e 5))] [(4, l 0)])))
  (.reg [i (.bin .add (e 13) (v (.int .i64 1)))] [(13, l 0)]))))
def l_slices_Concat_api_Row_api_Value_1 : ACode :=
  (.seq (.reg [i (.bin .lss (e 8) (e 7))] [(9, l 0)])
  (.seq (.cond (e 9) .skip (.exit 0))
  (.seq (.blk 1 (.seq (.reg [i (.idxs 1 (e 6) (e 8)), i (.load false 1 (l 0))] [(3, l 1)])
  (.seq (.reg [i (.len (e 3)), i (.bin .add (e 2) (l 0))] [(2, l 1)])
  (.seq (.reg [i (.bin .lss (e 2) (v (.int .i64 0)))] [(10, l 0)])
  (.cond (e 10) (.reg [i (.bad), i (.bad)] []) .skip)))))
  (.reg [i (.bin .add (e 8) (v (.int .i64 1)))] [(8, l 0)]))))
def b_slices_Concat_api_Row_api_Value : ACode :=
  (.seq (.reg [i (.mov (v (.nil0)))] [(1, l 0)])
  (.seq (.reg [] [(2, (v (.int .i64 0)))])
  (.seq (.seq (.reg [i (.len (e 0))] [(6, e 0), (7, l 0), (8, (v (.int .i64 0)))])
  (.blk 0 (.loop [3, 9, 10] l_slices_Concat_api_Row_api_Value_1)))
  (.seq (.reg [i (.call 265 [(v (.nil0)), (e 2)] false)] [(4, l 0)])
  (.seq (.seq (.reg [i (.len (e 0))] [(11, e 0), (12, l 0), (13, (v (.int .i64 0)))])
  (.blk 2 (.loop [5, 14] l_slices_Concat_api_Row_api_Value_0)))
  (.seq (.reg [] [(1, e 4)])
  .ret))))))
def f_slices_Concat_api_Row_api_Value : AFunc := ⟨15, 1, .pure, [.env 1], b_slices_Concat_api_Row_api_Value⟩
def b_row_Distinct : ACode :=
  (.seq (.reg [i (.mov (v (.nil0)))] [(1, l 0), (2, (v (.int .i64 0)))])
  (.seq (.seq (.reg [i (.mkl 1 [(e 0)]), i (.call 79 [(l 0)] false)] [(3, l 1)])
  (.seq (.reg [i (.bin .neq (e 3) (v (.int .i64 0)))] [(4, l 0)])
  (.cond (e 4) (.seq (.reg [i (.mov (v (.nil0)))] [(1, l 0), (2, e 3)])
  .ret) .skip)))
  (.seq (.reg [i (.call 80 [(e 0)] true), i (.call 266 [(l 0), (v (.fn 116 [] []))] false)] [(1, l 1), (2, (v (.int .i64 0)))])
  .ret)))
def f_row_Distinct : AFunc := ⟨5, 1, .pure, [.env 1, .env 2], b_row_Distinct⟩
def b_prop_laid_scan : ACode :=
  (.seq (.reg [] [(1, (v (.bool false)))])
  (.seq (.reg [i (.nilck (e 0)), i (.fld 3 (l 0)), i (.fld 4 (l 1)), i (.load false 1 (l 2)), i (.nilck (e 0)), i (.fld 17 (l 4)), i (.store 1 (l 5) (l 3))] [])
  (.seq (.reg [i (.nilck (e 0)), i (.fld 3 (l 0)), i (.fld 4 (l 1)), i (.load false 1 (l 2)), i (.call 77 [(l 3), (v (.fn 272 [] []))] false), i (.una .not (l 4))] [(2, l 5)])
  (.seq (.reg [g (e 2) true (.mov (e 0)), g (e 2) true (.nilck (l 0)), g (e 2) true (.fld 3 (l 1)), g (e 2) true (.fld 3 (l 2)), g (e 2) true (.load false 1 (l 3)), g (e 2) true (.bin .geq (l 4) (v (.int .i64 0))), i (.pick (e 2) (l 5) (v (.bool false))), g (l 6) true (.mov (e 0)), g (l 6) true (.nilck (l 7)), g (l 6) true (.fld 3 (l 8)), g (l 6) true (.fld 3 (l 9)), g (l 6) true (.load false 1 (l 10)), g (l 6) true (.bin .lss (l 11) (v (.int .i64 4))), i (.pick (l 6) (l 12) (v (.bool false))), g (l 13) true (.mov (e 0)), g (l 13) true (.nilck (l 14)), g (l 13) true (.fld 3 (l 15)), g (l 13) true (.fld 4 (l 16)), g (l 13) true (.load false 1 (l 17)), g (l 13) true (.len (l 18)), g (l 13) true (.bin .gtr (l 19) (v (.int .i64 0))), i (.pick (l 13) (l 20) (v (.bool false))), g (l 21) true (.mov (e 0)), g (l 21) true (.nilck (l 22)), g (l 21) true (.fld 3 (l 23)), g (l 21) true (.fld 4 (l 24)), g (l 21) true (.load false 1 (l 25)), g (l 21) true (.len (l 26)), g (l 21) true (.bin .leq (l 27) (v (.int .i64 4))), i (.pick (l 21) (l 28) (v (.bool false)))] [(1, l 29)])
  .ret))))
def f_prop_laid_scan : AFunc := ⟨3, 1, .keep, [.env 1], b_prop_laid_scan⟩
def b_prop_laid_input : ACode :=
  (.seq (.reg [] [(1, (v (.bool false)))])
  (.seq (.reg [i (.nilck (e 0)), i (.fld 3 (l 0)), i (.fld 4 (l 1)), i (.load false 1 (l 2)), i (.nilck (e 0)), i (.fld 17 (l 4)), i (.store 1 (l 5) (l 3))] [])
  (.seq (.reg [i (.nilck (e 0)), i (.fld 3 (l 0)), i (.fld 4 (l 1)), i (.load false 1 (l 2)), i (.call 77 [(l 3), (v (.fn 273 [] []))] false), i (.una .not (l 4))] [(2, l 5)])
  (.seq (.reg [g (e 2) true (.mov (e 0)), g (e 2) true (.nilck (l 0)), g (e 2) true (.fld 3 (l 1)), g (e 2) true (.fld 3 (l 2)), g (e 2) true (.load false 1 (l 3)), g (e 2) true (.bin .geq (l 4) (v (.int .i64 0))), i (.pick (e 2) (l 5) (v (.bool false))), g (l 6) true (.mov (e 0)), g (l 6) true (.nilck (l 7)), g (l 6) true (.fld 3 (l 8)), g (l 6) true (.fld 3 (l 9)), g (l 6) true (.load false 1 (l 10)), g (l 6) true (.bin .lss (l 11) (v (.int .i64 30))), i (.pick (l 6) (l 12) (v (.bool false))), g (l 13) true (.mov (e 0)), g (l 13) true (.nilck (l 14)), g (l 13) true (.fld 3 (l 15)), g (l 13) true (.fld 4 (l 16)), g (l 13) true (.load false 1 (l 17)), g (l 13) true (.len (l 18)), g (l 13) true (.bin .gtr (l 19) (v (.int .i64 0))), i (.pick (l 13) (l 20) (v (.bool false))), g (l 21) true (.mov (e 0)), g (l 21) true (.nilck (l 22)), g (l 21) true (.fld 3 (l 23)), g (l 21) true (.fld 4 (l 24)), g (l 21) true (.load false 1 (l 25)), g (l 21) true (.len (l 26)), g (l 21) true (.bin .leq (l 27) (v (.int .i64 16))), i (.pick (l 21) (l 28) (v (.bool false)))] [(1, l 29)])
  .ret))))
def f_prop_laid_input : AFunc := ⟨3, 1, .keep, [.env 1], b_prop_laid_input⟩
def b_prop_laid_join : ACode :=
  (.seq (.reg [] [(1, (v (.bool false)))])
  (.seq (.reg [i (.nilck (e 0)), i (.fld 15 (l 0)), i (.load false 1 (l 1)), i (.nilck (e 0)), i (.fld 16 (l 3)), i (.load false 1 (l 4)), i (.mkl 1 [(l 2), (l 5)]), i (.call 275 [(l 6)] false), i (.nilck (e 0)), i (.fld 17 (l 8)), i (.store 1 (l 9) (l 7))] [])
  (.seq (.reg [i (.nilck (e 0)), i (.fld 3 (l 0)), i (.fld 6 (l 1)), i (.load true 1 (l 2)), i (.nilck (e 0)), i (.fld 17 (l 4)), i (.load false 1 (l 5)), i (.call 274 [(l 3), (l 6)] false)] [(1, l 7)])
  .ret)))
def f_prop_laid_join : AFunc := ⟨2, 1, .keep, [.env 1], b_prop_laid_join⟩
def b_prop_laid_filter : ACode :=
  (.seq (.reg [] [(1, (v (.bool false)))])
  (.seq (.reg [i (.nilck (e 0)), i (.fld 15 (l 0)), i (.load false 1 (l 1)), i (.nilck (e 0)), i (.fld 17 (l 3)), i (.store 1 (l 4) (l 2))] [])
  (.seq (.reg [i (.nilck (e 0)), i (.fld 3 (l 0)), i (.fld 6 (l 1)), i (.load true 1 (l 2)), i (.nilck (e 0)), i (.fld 15 (l 4)), i (.load false 1 (l 5)), i (.call 274 [(l 3), (l 6)] false)] [(1, l 7)])
  .ret)))
def f_prop_laid_filter : AFunc := ⟨2, 1, .keep, [.env 1], b_prop_laid_filter⟩
def l_prop_laid_group_0 : ACode :=
  (.seq (.reg [i (.bin .lss (e 16) (e 15))] [(17, l 0)])
  (.seq (.cond (e 17) .skip (.exit 2))
  (.seq (.blk 3 (.seq (.reg [i (.idxs 2 (e 14) (e 16)), i (.load true 2 (l 0)), i (.box 2 (v (.agg [.int .i64 0, .nil0]))), i (.store 2 (l 2) (l 1))] [(5, l 2)])
  (.seq (.reg [] [(6, (v (.int .i64 2)))])
  (.seq (.seq (.reg [i (.fld 0 (e 5)), i (.load false 1 (l 0)), i (.bin .eql (l 1) (v (.int .i64 1)))] [(18, l 2)])
  (.cond (e 18) (.reg [g (e 3) true (.fld 1 (e 5)), g (e 3) true (.fld 0 (l 0)), g (e 3) true (.load false 1 (l 1)), g (e 3) true (.len (l 2)), g (e 3) true (.bin .eql (l 3) (v (.int .i64 0))), i (.pick (e 3) (l 4) (v (.bool false)))] [(3, l 5)]) (.seq (.reg [i (.fld 1 (e 5)), i (.load true 1 (l 0)), i (.nilck (e 0)), i (.fld 15 (l 2)), i (.load false 1 (l 3)), i (.call 276 [(l 1), (l 4)] false), i (.ext 0 (l 5)), i (.ext 1 (l 5))] [(7, l 6), (8, l 7)])
  (.seq (.reg [g (e 3) true (.mov (e 8)), g (e 3) true (.bin .eql (l 0) (v (.int .i64 0))), i (.pick (e 3) (l 1) (v (.bool false))), g (l 2) true (.fld 0 (e 5)), g (l 2) true (.load false 1 (l 3)), g (l 2) true (.bin .gtr (l 4) (v (.int .i64 1))), i (.pick (l 2) (l 5) (v (.bool false))), g (l 6) true (.fld 0 (e 5)), g (l 6) true (.load false 1 (l 7)), g (l 6) true (.bin .leq (l 8) (v (.int .i64 5))), i (.pick (l 6) (l 9) (v (.bool false)))] [(3, l 10)])
  (.seq (.reg [i (.fld 0 (e 5)), i (.load false 1 (l 0))] [(19, l 1)])
  (.blk 4 (.seq (.reg [i (.bin .eql (e 19) (v (.int .i64 3)))] [(20, l 0)])
  (.cond (e 20) (.reg [g (e 3) true (.mov (e 7)), g (e 3) true (.bin .eql (l 0) (v (.int .i64 2))), g (e 3) true (.mov (l 1)), g (l 2) false (.mov (e 7)), g (l 2) false (.bin .eql (l 3) (v (.int .i64 0))), g (e 3) true (.pick (l 2) (v (.bool true)) (l 4)), i (.pick (e 3) (l 5) (v (.bool false)))] [(3, l 6)]) (.seq (.seq (.reg [i (.bin .eql (e 19) (v (.int .i64 4)))] [(21, l 0)])
  (.cond (e 21) .skip (.reg [i (.bin .eql (e 19) (v (.int .i64 5)))] [(21, l 0)])))
  (.cond (e 21) (.reg [] [(6, e 7)]) .skip))))))))))
  (.reg [i (.nilck (e 0)), i (.fld 17 (l 0)), i (.load false 1 (l 1)), i (.mkl 1 [(e 6)]), i (.app 1 (l 2) (l 3)), i (.nilck (e 0)), i (.fld 17 (l 5)), i (.store 1 (l 6) (l 4))] [])))))
  (.reg [i (.bin .add (e 16) (v (.int .i64 1)))] [(16, l 0)]))))
def l_prop_laid_group_1 : ACode :=
  (.seq (.reg [i (.bin .lss (e 11) (e 10))] [(12, l 0)])
  (.seq (.cond (e 12) .skip (.exit 0))
  (.seq (.blk 1 (.seq (.reg [i (.idxs 1 (e 9) (e 11)), i (.load false 1 (l 0))] [(4, l 1)])
  (.seq (.seq (.reg [i (.bin .lss (e 4) (v (.int .i64 0))), g (l 0) false (.mov (e 4)), g (l 0) false (.mov (e 0)), g (l 0) false (.nilck (l 2)), g (l 0) false (.fld 15 (l 3)), g (l 0) false (.load false 1 (l 4)), g (l 0) false (.len (l 5)), g (l 0) false (.bin .geq (l 1) (l 6)), i (.pick (l 0) (v (.bool true)) (l 7))] [(13, l 8)])
  (.cond (e 13) (.seq (.reg [] [(1, (v (.bool false)))])
  .ret) .skip))
  (.reg [i (.nilck (e 0)), i (.fld 17 (l 0)), i (.load false 1 (l 1)), i (.nilck (e 0)), i (.fld 15 (l 3)), i (.load false 1 (l 4)), i (.idxs 1 (l 5) (e 4)), i (.load false 1 (l 6)), i (.mkl 1 [(l 7)]), i (.app 1 (l 2) (l 8)), i (.nilck (e 0)), i (.fld 17 (l 10)), i (.store 1 (l 11) (l 9))] []))))
  (.reg [i (.bin .add (e 11) (v (.int .i64 1)))] [(11, l 0)]))))
def b_prop_laid_group : ACode :=
  (.seq (.reg [] [(1, (v (.bool false)))])
  (.seq (.reg [i (.nilck (e 0)), i (.fld 3 (l 0)), i (.load true 12 (l 1)), i (.box 12 (v (.agg [.int .i64 0, .int .i64 0, .int .i64 0, .int .i64 0, .nil0, .bool false, .nil0, .nil0, .nil0, .nil0, .nil0, .int .i64 0]))), i (.store 12 (l 3) (l 2))] [(2, l 3)])
  (.seq (.reg [i (.fld 7 (e 2)), i (.load false 1 (l 0)), i (.len (l 1)), i (.bin .leq (l 2) (v (.int .i64 3))), g (l 3) true (.fld 8 (e 2)), g (l 3) true (.load false 1 (l 4)), g (l 3) true (.len (l 5)), g (l 3) true (.bin .leq (l 6) (v (.int .i64 12))), i (.pick (l 3) (l 7) (v (.bool false))), g (l 8) true (.fld 7 (e 2)), g (l 8) true (.load false 1 (l 9)), g (l 8) true (.len (l 10)), g (l 8) true (.fld 8 (e 2)), g (l 8) true (.load false 1 (l 12)), g (l 8) true (.len (l 13)), g (l 8) true (.bin .add (l 11) (l 14)), g (l 8) true (.bin .gtr (l 15) (v (.int .i64 0))), i (.pick (l 8) (l 16) (v (.bool false)))] [(3, l 17)])
  (.seq (.reg [i (.nilck (e 0)), i (.fld 17 (l 0)), i (.store 1 (l 1) (v (.nil0)))] [])
  (.seq (.seq (.lift 0 17 1 (.reg [i (.fld 7 (e 2)), i (.load false 1 (l 0)), i (.len (l 1))] [(9, l 1), (10, l 2), (11, (v (.int .i64 0)))]))
  (.blk 0 (.loop [1, 4, 12, 13] l_prop_laid_group_1)))
  (.seq (.seq (.reg [i (.fld 8 (e 2)), i (.load false 1 (l 0)), i (.len (l 1))] [(14, l 1), (15, l 2), (16, (v (.int .i64 0)))])
  (.blk 2 (.loop [5, 6, 7, 8, 17, 18, 19, 20, 21] l_prop_laid_group_0)))
  (.seq (.reg [] [(1, e 3)])
  .ret)))))))
def f_prop_laid_group : AFunc := ⟨22, 1, .keep, [.env 1], b_prop_laid_group⟩
def l_prop_laid_partial_0 : ACode :=
  (.seq (.reg [i (.bin .lss (e 8) (e 7))] [(9, l 0)])
  (.seq (.cond (e 9) .skip (.exit 0))
  (.seq (.blk 1 (.seq (.reg [i (.idxs 2 (e 6) (e 8)), i (.load true 2 (l 0)), i (.box 2 (v (.agg [.int .i64 0, .nil0]))), i (.store 2 (l 2) (l 1))] [(4, l 2), (3, e 8)])
  (.seq (.reg [i (.fld 0 (e 4)), i (.load false 1 (l 0)), i (.bin .eql (l 1) (v (.int .i64 3)))] [(10, l 2)])
  (.cond (e 10) (.reg [i (.nilck (e 0)), i (.fld 17 (l 0)), i (.load false 1 (l 1)), i (.nilck (e 0)), i (.fld 3 (l 3)), i (.fld 7 (l 4)), i (.load false 1 (l 5)), i (.len (l 6)), i (.bin .add (l 7) (e 3)), i (.idxs 1 (l 2) (l 8)), i (.store 1 (l 9) (v (.int .i64 4)))] []) .skip))))
  (.reg [i (.bin .add (e 8) (v (.int .i64 1)))] [(8, l 0)]))))
def b_prop_laid_partial : ACode :=
  (.seq (.reg [] [(1, (v (.bool false)))])
  (.seq (.reg [i (.call 181 [(e 0)] false)] [(2, l 0)])
  (.seq (.seq (.reg [i (.una .not (e 2))] [(5, l 0)])
  (.cond (e 5) (.seq (.reg [] [(1, (v (.bool false)))])
  .ret) .skip))
  (.seq (.seq (.reg [i (.nilck (e 0)), i (.fld 3 (l 0)), i (.fld 8 (l 1)), i (.load false 1 (l 2)), i (.len (l 3))] [(6, l 3), (7, l 4), (8, (v (.int .i64 0)))])
  (.blk 0 (.loop [3, 4, 9, 10] l_prop_laid_partial_0)))
  (.seq (.reg [] [(1, (v (.bool true)))])
  .ret)))))
def f_prop_laid_partial : AFunc := ⟨11, 1, .keep, [.env 1], b_prop_laid_partial⟩
def l_prop_laid_final_0 : ACode :=
  (.seq (.reg [i (.bin .lss (e 17) (e 16))] [(18, l 0)])
  (.seq (.cond (e 18) .skip (.exit 2))
  (.seq (.blk 3 (.seq (.reg [i (.idxs 2 (e 15) (e 17)), i (.load true 2 (l 0)), i (.box 2 (v (.agg [.int .i64 0, .nil0]))), i (.store 2 (l 2) (l 1))] [(8, l 2), (7, e 17)])
  (.seq (.reg [i (.nilck (e 0)), i (.fld 15 (l 0)), i (.load false 1 (l 1)), i (.bin .add (e 3) (e 7)), i (.idxs 1 (l 2) (l 3)), i (.load false 1 (l 4))] [(9, l 5)])
  (.seq (.reg [g (e 4) true (.fld 1 (e 8)), g (e 4) true (.fld 0 (l 0)), g (e 4) true (.load false 1 (l 1)), g (e 4) true (.len (l 2)), g (e 4) true (.bin .eql (l 3) (v (.int .i64 0))), i (.pick (e 4) (l 4) (v (.bool false)))] [(4, l 5)])
  (.seq (.reg [i (.fld 0 (e 8)), i (.load false 1 (l 0))] [(19, l 1)])
  (.blk 4 (.seq (.seq (.reg [i (.bin .eql (e 19) (v (.int .i64 1)))] [(20, l 0)])
  (.cond (e 20) .skip (.reg [i (.bin .eql (e 19) (v (.int .i64 2)))] [(20, l 0)])))
  (.cond (e 20) (.reg [g (e 4) true (.mov (e 9)), g (e 4) true (.bin .eql (l 0) (v (.int .i64 2))), i (.pick (e 4) (l 1) (v (.bool false)))] [(4, l 2)]) (.seq (.reg [i (.bin .eql (e 19) (v (.int .i64 3)))] [(21, l 0)])
  (.cond (e 21) (.seq (.reg [g (e 4) true (.mov (e 9)), g (e 4) true (.bin .eql (l 0) (v (.int .i64 4))), i (.pick (e 4) (l 1) (v (.bool false)))] [(4, l 2)])
  (.reg [i (.nilck (e 0)), i (.fld 17 (l 0)), i (.load false 1 (l 1)), i (.bin .add (e 3) (e 7)), i (.idxs 1 (l 2) (l 3)), i (.store 1 (l 4) (v (.int .i64 2)))] [])) (.seq (.seq (.reg [i (.bin .eql (e 19) (v (.int .i64 4)))] [(22, l 0)])
  (.cond (e 22) .skip (.reg [i (.bin .eql (e 19) (v (.int .i64 5)))] [(22, l 0)])))
  (.cond (e 22) (.reg [g (e 4) true (.mov (e 9)), g (e 4) true (.bin .neq (l 0) (v (.int .i64 4))), i (.pick (e 4) (l 1) (v (.bool false)))] [(4, l 2)]) (.reg [] [(4, (v (.bool false)))])))))))))))))
  (.reg [i (.bin .add (e 17) (v (.int .i64 1)))] [(17, l 0)]))))
def l_prop_laid_final_1 : ACode :=
  (.seq (.reg [i (.bin .lss (e 13) (e 12))] [(14, l 0)])
  (.seq (.cond (e 14) .skip (.exit 0))
  (.seq (.blk 1 (.seq (.reg [i (.idxs 1 (e 11) (e 13)), i (.load false 1 (l 0))] [(5, e 13), (6, l 1)])
  (.reg [g (e 4) true (.mov (e 6)), g (e 4) true (.mov (e 5)), g (e 4) true (.bin .eql (l 0) (l 1)), i (.pick (e 4) (l 2) (v (.bool false))), g (l 3) true (.mov (e 0)), g (l 3) true (.nilck (l 4)), g (l 3) true (.fld 15 (l 5)), g (l 3) true (.load false 1 (l 6)), g (l 3) true (.mov (e 5)), g (l 3) true (.idxs 1 (l 7) (l 8)), g (l 3) true (.load false 1 (l 9)), g (l 3) true (.bin .neq (l 10) (v (.int .i64 4))), i (.pick (l 3) (l 11) (v (.bool false)))] [(4, l 12)])))
  (.reg [i (.bin .add (e 13) (v (.int .i64 1)))] [(13, l 0)]))))
def b_prop_laid_final : ACode :=
  (.seq (.reg [] [(1, (v (.bool false)))])
  (.seq (.reg [i (.nilck (e 0)), i (.fld 3 (l 0)), i (.load true 12 (l 1)), i (.box 12 (v (.agg [.int .i64 0, .int .i64 0, .int .i64 0, .int .i64 0, .nil0, .bool false, .nil0, .nil0, .nil0, .nil0, .nil0, .int .i64 0]))), i (.store 12 (l 3) (l 2))] [(2, l 3)])
  (.seq (.reg [i (.fld 7 (e 2)), i (.load false 1 (l 0)), i (.len (l 1))] [(3, l 2)])
  (.seq (.reg [i (.nilck (e 0)), i (.fld 0 (l 0)), i (.load false 1 (l 1)), i (.fld 1 (e 2)), i (.load false 1 (l 3)), i (.idxs 12 (l 2) (l 4)), i (.fld 0 (l 5)), i (.load false 1 (l 6)), i (.bin .eql (l 7) (v (.int .i64 9))), g (l 8) true (.mov (e 3)), g (l 8) true (.bin .leq (l 9) (v (.int .i64 3))), i (.pick (l 8) (l 10) (v (.bool false))), g (l 11) true (.fld 8 (e 2)), g (l 11) true (.load false 1 (l 12)), g (l 11) true (.len (l 13)), g (l 11) true (.bin .leq (l 14) (v (.int .i64 12))), i (.pick (l 11) (l 15) (v (.bool false))), g (l 16) true (.mov (e 3)), g (l 16) true (.fld 8 (e 2)), g (l 16) true (.load false 1 (l 18)), g (l 16) true (.len (l 19)), g (l 16) true (.bin .add (l 17) (l 20)), g (l 16) true (.mov (e 0)), g (l 16) true (.nilck (l 22)), g (l 16) true (.fld 15 (l 23)), g (l 16) true (.load false 1 (l 24)), g (l 16) true (.len (l 25)), g (l 16) true (.bin .eql (l 21) (l 26)), i (.pick (l 16) (l 27) (v (.bool false)))] [(4, l 28)])
  (.seq (.seq (.reg [i (.una .not (e 4))] [(10, l 0)])
  (.cond (e 10) (.seq (.reg [] [(1, (v (.bool false)))])
  .ret) .skip))
  (.seq (.reg [i (.nilck (e 0)), i (.fld 15 (l 0)), i (.load false 1 (l 1)), i (.call 95 [(l 2)] true), i (.nilck (e 0)), i (.fld 17 (l 4)), i (.store 1 (l 5) (l 3))] [])
  (.seq (.seq (.reg [i (.fld 7 (e 2)), i (.load false 1 (l 0)), i (.len (l 1))] [(11, l 1), (12, l 2), (13, (v (.int .i64 0)))])
  (.blk 0 (.loop [5, 6, 14] l_prop_laid_final_1)))
  (.seq (.seq (.reg [i (.fld 8 (e 2)), i (.load false 1 (l 0)), i (.len (l 1))] [(15, l 1), (16, l 2), (17, (v (.int .i64 0)))])
  (.blk 2 (.loop [7, 8, 9, 18, 19, 20, 21, 22] l_prop_laid_final_0)))
  (.seq (.reg [] [(1, e 4)])
  .ret)))))))))
def f_prop_laid_final : AFunc := ⟨23, 1, .keep, [.env 1], b_prop_laid_final⟩
def l_prop_laid_project_0 : ACode :=
  (.seq (.reg [i (.bin .lss (e 7) (e 6))] [(8, l 0)])
  (.seq (.cond (e 8) .skip (.exit 0))
  (.seq (.blk 1 (.seq (.reg [i (.idxs 1 (e 5) (e 7)), i (.load true 1 (l 0)), i (.box 1 (v (.agg [.nil0]))), i (.store 1 (l 2) (l 1))] [(2, l 2)])
  (.seq (.reg [i (.load true 1 (e 2)), i (.nilck (e 0)), i (.fld 15 (l 1)), i (.load false 1 (l 2)), i (.call 276 [(l 0), (l 3)] false), i (.ext 0 (l 4)), i (.ext 1 (l 4))] [(3, l 5), (4, l 6)])
  (.seq (.seq (.reg [i (.bin .neq (e 4) (v (.int .i64 0)))] [(9, l 0)])
  (.cond (e 9) (.seq (.reg [] [(1, (v (.bool false)))])
  .ret) .skip))
  (.reg [i (.nilck (e 0)), i (.fld 17 (l 0)), i (.load false 1 (l 1)), i (.mkl 1 [(e 3)]), i (.app 1 (l 2) (l 3)), i (.nilck (e 0)), i (.fld 17 (l 5)), i (.store 1 (l 6) (l 4))] [])))))
  (.reg [i (.bin .add (e 7) (v (.int .i64 1)))] [(7, l 0)]))))
def b_prop_laid_project : ACode :=
  (.seq (.reg [] [(1, (v (.bool false)))])
  (.seq (.reg [i (.nilck (e 0)), i (.fld 17 (l 0)), i (.store 1 (l 1) (v (.nil0)))] [])
  (.seq (.seq (.lift 0 17 1 (.reg [i (.nilck (e 0)), i (.fld 3 (l 0)), i (.fld 9 (l 1)), i (.load false 1 (l 2)), i (.len (l 3))] [(5, l 3), (6, l 4), (7, (v (.int .i64 0)))]))
  (.blk 0 (.loop [1, 2, 3, 4, 8, 9] l_prop_laid_project_0)))
  (.seq (.reg [i (.nilck (e 0)), i (.fld 17 (l 0)), i (.load false 1 (l 1)), i (.len (l 2)), i (.bin .gtr (l 3) (v (.int .i64 0)))] [(1, l 4)])
  .ret))))
def f_prop_laid_project : AFunc := ⟨10, 1, .keep, [.env 1], b_prop_laid_project⟩
def b_prop_laid_keeps : ACode :=
  (.seq (.reg [] [(1, (v (.bool false)))])
  (.seq (.reg [i (.nilck (e 0)), i (.fld 15 (l 0)), i (.load false 1 (l 1)), i (.nilck (e 0)), i (.fld 17 (l 3)), i (.store 1 (l 4) (l 2))] [])
  (.seq (.reg [] [(1, (v (.bool true)))])
  .ret)))
def f_prop_laid_keeps : AFunc := ⟨2, 1, .keep, [.env 1], b_prop_laid_keeps⟩
def l_prop_laid_union_0 : ACode :=
  (.seq (.reg [i (.bin .lss (e 8) (e 7))] [(9, l 0)])
  (.seq (.cond (e 9) .skip (.exit 0))
  (.seq (.blk 1 (.seq (.reg [i (.idxs 1 (e 6) (e 8)), i (.load false 1 (l 0))] [(2, e 8), (3, l 1)])
  (.seq (.reg [i (.nilck (e 0)), i (.fld 16 (l 0)), i (.load false 1 (l 1)), i (.idxs 1 (l 2) (e 2)), i (.load false 1 (l 3))] [(4, l 4)])
  (.seq (.seq (.reg [i (.bin .eql (e 3) (v (.int .i64 0)))] [(10, l 0)])
  (.cond (e 10) (.reg [] [(3, e 4)]) .skip))
  (.seq (.seq (.reg [i (.bin .neq (e 4) (v (.int .i64 0))), g (l 0) true (.mov (e 4)), g (l 0) true (.mov (e 3)), g (l 0) true (.bin .neq (l 1) (l 2)), i (.pick (l 0) (l 3) (v (.bool false)))] [(11, l 4)])
  (.cond (e 11) (.seq (.reg [] [(1, (v (.bool false)))])
  .ret) .skip))
  (.reg [i (.nilck (e 0)), i (.fld 17 (l 0)), i (.load false 1 (l 1)), i (.mkl 1 [(e 3)]), i (.app 1 (l 2) (l 3)), i (.nilck (e 0)), i (.fld 17 (l 5)), i (.store 1 (l 6) (l 4))] []))))))
  (.reg [i (.bin .add (e 8) (v (.int .i64 1)))] [(8, l 0)]))))
def b_prop_laid_union : ACode :=
  (.seq (.reg [] [(1, (v (.bool false)))])
  (.seq (.seq (.reg [i (.nilck (e 0)), i (.fld 15 (l 0)), i (.load false 1 (l 1)), i (.len (l 2)), i (.nilck (e 0)), i (.fld 16 (l 4)), i (.load false 1 (l 5)), i (.len (l 6)), i (.bin .neq (l 3) (l 7))] [(5, l 8)])
  (.cond (e 5) (.seq (.reg [] [(1, (v (.bool false)))])
  .ret) .skip))
  (.seq (.reg [i (.nilck (e 0)), i (.fld 17 (l 0)), i (.store 1 (l 1) (v (.nil0)))] [])
  (.seq (.seq (.lift 0 17 1 (.reg [i (.nilck (e 0)), i (.fld 15 (l 0)), i (.load false 1 (l 1)), i (.len (l 2))] [(6, l 2), (7, l 3), (8, (v (.int .i64 0)))]))
  (.blk 0 (.loop [1, 2, 3, 4, 9, 10, 11] l_prop_laid_union_0)))
  (.seq (.reg [] [(1, (v (.bool true)))])
  .ret)))))
def f_prop_laid_union : AFunc := ⟨12, 1, .keep, [.env 1], b_prop_laid_union⟩
def b_prop_laid_sort : ACode :=
  (.seq (.reg [i (.box 1 (e 0))] [(1, l 0), (2, (v (.bool false)))])
  (.seq (.reg [i (.load false 1 (e 1)), i (.load false 1 (e 1)), i (.nilck (l 1)), i (.fld 15 (l 2)), i (.load false 1 (l 3)), i (.nilck (l 0)), i (.fld 17 (l 5)), i (.store 1 (l 6) (l 4))] [])
  (.seq (.reg [i (.load false 1 (e 1)), i (.nilck (l 0)), i (.fld 3 (l 1)), i (.fld 10 (l 2)), i (.load false 1 (l 3)), i (.mkfn 277 [] [(e 1)]), i (.call 110 [(l 4), (l 5)] false)] [(3, l 6)])
  (.seq (.reg [i (.una .not (e 3)), g (l 0) true (.load false 1 (e 1)), g (l 0) true (.nilck (l 1)), g (l 0) true (.fld 3 (l 2)), g (l 0) true (.fld 10 (l 3)), g (l 0) true (.load false 1 (l 4)), g (l 0) true (.len (l 5)), g (l 0) true (.bin .leq (l 6) (v (.int .i64 3))), i (.pick (l 0) (l 7) (v (.bool false))), g (l 8) true (.load false 1 (e 1)), g (l 8) true (.nilck (l 9)), g (l 8) true (.fld 3 (l 10)), g (l 8) true (.fld 11 (l 11)), g (l 8) true (.load false 1 (l 12)), g (l 8) true (.bin .geq (l 13) (v (.int .i64 (-1)))), i (.pick (l 8) (l 14) (v (.bool false))), g (l 15) true (.load false 1 (e 1)), g (l 15) true (.nilck (l 16)), g (l 15) true (.fld 3 (l 17)), g (l 15) true (.fld 11 (l 18)), g (l 15) true (.load false 1 (l 19)), g (l 15) true (.bin .leq (l 20) (v (.int .i64 2147483647))), i (.pick (l 15) (l 21) (v (.bool false)))] [(2, l 22)])
  .ret))))
def f_prop_laid_sort : AFunc := ⟨4, 1, .keep, [.env 2], b_prop_laid_sort⟩
def b_prop_parts : ACode :=
  (.seq (.reg [] [(1, (v (.int .i64 0)))])
  (.seq (.seq (.reg [] [(2, e 0)])
  (.blk 0 (.seq (.seq (.reg [i (.bin .eql (e 2) (v (.int .i64 1)))] [(3, l 0)])
  (.cond (e 3) .skip (.reg [i (.bin .eql (e 2) (v (.int .i64 9)))] [(3, l 0)])))
  (.cond (e 3) (.seq (.reg [] [(1, (v (.int .i64 0)))])
  .ret) (.seq (.seq (.reg [i (.bin .eql (e 2) (v (.int .i64 2)))] [(4, l 0)])
  (.cond (e 4) .skip (.reg [i (.bin .eql (e 2) (v (.int .i64 7)))] [(4, l 0)])))
  (.cond (e 4) (.seq (.reg [] [(1, (v (.int .i64 2)))])
  .ret) (.seq (.seq (.reg [i (.bin .eql (e 2) (v (.int .i64 3)))] [(5, l 0)])
  (.cond (e 5) .skip (.seq (.reg [i (.bin .eql (e 2) (v (.int .i64 4)))] [(5, l 0)])
  (.cond (e 5) .skip (.seq (.reg [i (.bin .eql (e 2) (v (.int .i64 5)))] [(5, l 0)])
  (.cond (e 5) .skip (.seq (.reg [i (.bin .eql (e 2) (v (.int .i64 6)))] [(5, l 0)])
  (.cond (e 5) .skip (.seq (.reg [i (.bin .eql (e 2) (v (.int .i64 8)))] [(5, l 0)])
  (.cond (e 5) .skip (.seq (.reg [i (.bin .eql (e 2) (v (.int .i64 10)))] [(5, l 0)])
  (.cond (e 5) .skip (.reg [i (.bin .eql (e 2) (v (.int .i64 11)))] [(5, l 0)])))))))))))))
  (.cond (e 5) (.seq (.reg [] [(1, (v (.int .i64 1)))])
  .ret) .skip))))))))
  (.seq (.reg [] [(1, (v (.int .i64 (-1))))])
  .ret)))
def f_prop_parts : AFunc := ⟨6, 1, .pure, [.env 1], b_prop_parts⟩
def b_prop_blank : ACode :=
  (.seq (.reg [i (.box 12 (e 0))] [(1, l 0), (2, (v (.bool false)))])
  (.seq (.reg [i (.fld 0 (e 1)), i (.load false 1 (l 0)), i (.bin .eql (l 1) (v (.int .i64 1))), g (l 2) false (.fld 0 (e 1)), g (l 2) false (.load false 1 (l 3)), g (l 2) false (.bin .eql (l 4) (v (.int .i64 9))), i (.pick (l 2) (v (.bool true)) (l 5)), i (.fld 0 (e 1)), i (.load false 1 (l 7)), i (.bin .eql (l 8) (v (.int .i64 4))), g (l 9) false (.fld 0 (e 1)), g (l 9) false (.load false 1 (l 10)), g (l 9) false (.bin .eql (l 11) (v (.int .i64 10))), i (.pick (l 9) (v (.bool true)) (l 12)), g (l 13) false (.fld 0 (e 1)), g (l 13) false (.load false 1 (l 14)), g (l 13) false (.bin .eql (l 15) (v (.int .i64 11))), i (.pick (l 13) (v (.bool true)) (l 16))] [(3, l 6), (4, l 17)])
  (.seq (.reg [g (e 3) false (.fld 3 (e 1)), g (e 3) false (.load false 1 (l 0)), g (e 3) false (.bin .eql (l 1) (v (.int .i64 0))), g (e 3) false (.mov (l 2)), g (l 3) true (.fld 4 (e 1)), g (l 3) true (.load false 1 (l 4)), g (l 3) true (.len (l 5)), g (l 3) true (.bin .eql (l 6) (v (.int .i64 0))), g (e 3) false (.pick (l 3) (l 7) (v (.bool false))), i (.pick (e 3) (v (.bool true)) (l 8))] [(5, l 9)])
  (.seq (.reg [g (e 5) true (.fld 0 (e 1)), g (e 5) true (.load false 1 (l 0)), g (e 5) true (.bin .eql (l 1) (v (.int .i64 2))), g (e 5) true (.mov (l 2)), g (l 3) false (.fld 5 (e 1)), g (l 3) false (.load false 1 (l 4)), g (l 3) false (.una .not (l 5)), g (e 5) true (.pick (l 3) (v (.bool true)) (l 6)), i (.pick (e 5) (l 7) (v (.bool false))), g (l 8) true (.fld 0 (e 1)), g (l 8) true (.load false 1 (l 9)), g (l 8) true (.bin .eql (l 10) (v (.int .i64 2))), g (l 8) true (.mov (l 11)), g (l 12) false (.fld 0 (e 1)), g (l 12) false (.load false 1 (l 13)), g (l 12) false (.bin .eql (l 14) (v (.int .i64 3))), g (l 8) true (.pick (l 12) (v (.bool true)) (l 15)), g (l 8) true (.mov (l 16)), g (l 17) false (.fld 6 (e 1)), g (l 17) false (.fld 0 (l 18)), g (l 17) false (.load false 1 (l 19)), g (l 17) false (.len (l 20)), g (l 17) false (.bin .eql (l 21) (v (.int .i64 0))), g (l 8) true (.pick (l 17) (v (.bool true)) (l 22)), i (.pick (l 8) (l 23) (v (.bool false)))] [(5, l 24)])
  (.seq (.reg [g (e 5) true (.mov (e 4)), g (e 5) true (.mov (l 0)), g (l 1) false (.fld 7 (e 1)), g (l 1) false (.load false 1 (l 2)), g (l 1) false (.len (l 3)), g (l 1) false (.fld 8 (e 1)), g (l 1) false (.load false 1 (l 5)), g (l 1) false (.len (l 6)), g (l 1) false (.bin .add (l 4) (l 7)), g (l 1) false (.bin .eql (l 8) (v (.int .i64 0))), g (e 5) true (.pick (l 1) (v (.bool true)) (l 9)), i (.pick (e 5) (l 10) (v (.bool false))), g (l 11) true (.fld 0 (e 1)), g (l 11) true (.load false 1 (l 12)), g (l 11) true (.bin .eql (l 13) (v (.int .i64 5))), g (l 11) true (.mov (l 14)), g (l 15) false (.fld 9 (e 1)), g (l 15) false (.load false 1 (l 16)), g (l 15) false (.len (l 17)), g (l 15) false (.bin .eql (l 18) (v (.int .i64 0))), g (l 11) true (.pick (l 15) (v (.bool true)) (l 19)), i (.pick (l 11) (l 20) (v (.bool false)))] [(5, l 21)])
  (.seq (.reg [g (e 5) true (.fld 0 (e 1)), g (e 5) true (.load false 1 (l 0)), g (e 5) true (.bin .eql (l 1) (v (.int .i64 8))), g (e 5) true (.mov (l 2)), g (l 3) false (.fld 10 (e 1)), g (l 3) false (.load false 1 (l 4)), g (l 3) false (.len (l 5)), g (l 3) false (.bin .eql (l 6) (v (.int .i64 0))), g (l 3) false (.mov (l 7)), g (l 8) true (.fld 11 (e 1)), g (l 8) true (.load false 1 (l 9)), g (l 8) true (.bin .eql (l 10) (v (.int .i64 0))), g (l 3) false (.pick (l 8) (l 11) (v (.bool false))), g (e 5) true (.pick (l 3) (v (.bool true)) (l 12)), i (.pick (e 5) (l 13) (v (.bool false)))] [(2, l 14)])
  .ret))))))
def f_prop_blank : AFunc := ⟨6, 1, .pure, [.env 2], b_prop_blank⟩
def b_slices_Contains_int_int : ACode :=
  (.seq (.reg [] [(2, (v (.bool false)))])
  (.seq (.reg [i (.call 278 [(e 0), (e 1)] false), i (.bin .geq (l 0) (v (.int .i64 0)))] [(2, l 1)])
  .ret))
def f_slices_Contains_int_int : AFunc := ⟨3, 2, .pure, [.env 2], b_slices_Contains_int_int⟩
def b_exec_sorted : ACode :=
  (.seq (.reg [i (.mov (v (.nil0)))] [(1, l 0), (2, (v (.int .i64 0)))])
  (.seq (.seq (.reg [i (.len (e 0)), i (.bin .gtr (l 0) (v (.int .i64 8000)))] [(5, l 1)])
  (.cond (e 5) (.seq (.reg [] [(1, e 0), (2, (v (.int .i64 0)))])
  .ret) .skip))
  (.seq (.reg [i (.call 29 [(e 0)] false), i (.ext 0 (l 0)), i (.ext 1 (l 0))] [(3, l 1), (4, l 2)])
  (.seq (.seq (.reg [i (.bin .neq (e 4) (v (.int .i64 0)))] [(6, l 0)])
  (.cond (e 6) (.seq (.reg [i (.mov (v (.nil0)))] [(1, l 0), (2, (v (.int .i64 140)))])
  .ret) .skip))
  (.seq (.reg [] [(1, e 3), (2, (v (.int .i64 0)))])
  .ret)))))
def f_exec_sorted : AFunc := ⟨7, 1, .pure, [.env 1, .env 2], b_exec_sorted⟩
def b_exec_pairs : ACode :=
  (.seq (.reg [i (.box 1 (e 0)), i (.box 1 (e 1))] [(2, l 0), (3, l 1), (4, (v (.nilf)))])
  (.seq (.reg [i (.mkfn 279 [] [(e 2), (e 3)])] [(4, l 0)])
  .ret))
def f_exec_pairs : AFunc := ⟨5, 2, .keep, [.env 4], b_exec_pairs⟩
def b_exec_holds : ACode :=
  (.seq (.reg [i (.box 1 (e 0))] [(2, l 0), (3, (v (.bool false))), (4, (v (.bool false)))])
  (.seq (.reg [i (.load true 1 (e 2)), i (.call 172 [(l 0), (e 1)] false), i (.ext 0 (l 1)), i (.ext 1 (l 1)), i (.box 4 (v (.agg [.int .i64 0, .int .i64 0, .int .u64 0, .str []]))), i (.store 4 (l 4) (l 2))] [(5, l 4), (6, l 3)])
  (.seq (.reg [i (.load true 4 (e 5)), i (.call 264 [(l 0)] false), i (.bin .eql (e 6) (v (.int .i64 0)))] [(3, l 1), (4, l 2)])
  .ret)))
def f_exec_holds : AFunc := ⟨7, 2, .pure, [.env 3, .env 4], b_exec_holds⟩
def b_exec_run_group_1 : ACode :=
  (.seq (.reg [i (.box 2 (e 1)), i (.box 4 (v (.agg [.int .i64 0, .int .i64 0, .int .u64 0, .str []])))] [(3, l 0), (4, l 1), (5, (v (.int .i64 0)))])
  (.seq (.reg [i (.load true 2 (e 3)), i (.call 19 [(l 0), (e 2)] false), i (.ext 0 (l 1)), i (.ext 1 (l 1)), i (.store 4 (e 4) (l 2))] [(5, l 3)])
  .ret))
def f_exec_run_group_1 : AFunc := ⟨6, 3, .pure, [.cell true 4 4, .env 5], b_exec_run_group_1⟩
def l_slices_IndexFunc_api_Ord_api_Ord_0 : ACode :=
  (.seq (.reg [i (.bin .lss (e 5) (e 4))] [(6, l 0)])
  (.seq (.cond (e 6) .skip (.exit 0))
  (.seq (.blk 1 (.seq (.reg [] [(3, e 5)])
  (.seq (.reg [i (.idxs 2 (e 0) (e 3)), i (.load true 2 (l 0)), i (.callv (e 1) [(l 1)])] [(7, l 2)])
  (.cond (e 7) (.seq (.reg [] [(2, e 3)])
  .ret) .skip))))
  (.reg [i (.bin .add (e 5) (v (.int .i64 1)))] [(5, l 0)]))))
def b_slices_IndexFunc_api_Ord_api_Ord : ACode :=
  (.seq (.reg [] [(2, (v (.int .i64 0)))])
  (.seq (.seq (.reg [i (.len (e 0))] [(4, l 0), (5, (v (.int .i64 0)))])
  (.blk 0 (.loop [2, 3, 6, 7] l_slices_IndexFunc_api_Ord_api_Ord_0)))
  (.seq (.reg [] [(2, (v (.int .i64 (-1))))])
  .ret)))
def f_slices_IndexFunc_api_Ord_api_Ord : AFunc := ⟨8, 2, .pure, [.env 2], b_slices_IndexFunc_api_Ord_api_Ord⟩
def l_denote_by_1_0 : ACode :=
  (.seq (.reg [i (.bin .lss (e 8) (e 7))] [(9, l 0)])
  (.seq (.cond (e 9) .skip (.exit 0))
  (.seq (.blk 1 (.seq (.reg [i (.idxs 2 (e 6) (e 8)), i (.load true 2 (l 0)), i (.box 2 (v (.agg [.int .i64 0, .bool false]))), i (.store 2 (l 2) (l 1))] [(4, l 2)])
  (.seq (.reg [i (.fld 0 (e 4)), i (.load false 1 (l 0)), i (.idxs 4 (e 0) (l 1)), i (.load true 4 (l 2)), i (.fld 0 (e 4)), i (.load false 1 (l 4)), i (.idxs 4 (e 1) (l 5)), i (.load true 4 (l 6)), i (.call 148 [(l 3), (l 7)] false)] [(5, l 8)])
  (.seq (.seq (.reg [i (.fld 1 (e 4)), i (.load false 1 (l 0))] [(10, l 1)])
  (.cond (e 10) (.reg [i (.una .neg (e 5))] [(5, l 0)]) .skip))
  (.seq (.reg [i (.bin .neq (e 5) (v (.int .i64 0)))] [(11, l 0)])
  (.cond (e 11) (.seq (.reg [] [(3, e 5)])
  .ret) .skip))))))
  (.reg [i (.bin .add (e 8) (v (.int .i64 1)))] [(8, l 0)]))))
def b_denote_by_1 : ACode :=
  (.seq (.reg [] [(3, (v (.int .i64 0)))])
  (.seq (.seq (.reg [i (.load false 1 (e 2)), i (.len (l 0))] [(6, l 0), (7, l 1), (8, (v (.int .i64 0)))])
  (.blk 0 (.loop [3, 4, 5, 9, 10, 11] l_denote_by_1_0)))
  (.seq (.reg [i (.call 214 [(e 0), (e 1)] false)] [(3, l 0)])
  .ret)))
def f_denote_by_1 : AFunc := ⟨12, 3, .pure, [.env 3], b_denote_by_1⟩
def b_exec_groups : ACode :=
  (.seq (.reg [i (.box 1 (e 0)), i (.box 1 (e 1)), i (.box 1 (e 2))] [(3, l 0), (4, l 1), (5, l 2), (6, (v (.nilf)))])
  (.seq (.reg [i (.mkfn 280 [] [(e 3), (e 4), (e 5)])] [(6, l 0)])
  .ret))
def f_exec_groups : AFunc := ⟨7, 3, .keep, [.env 6], b_exec_groups⟩
def l_expr_Cols_0 : ACode :=
  (.seq (.reg [i (.bin .lss (e 8) (e 7))] [(9, l 0)])
  (.seq (.cond (e 9) .skip (.exit 0))
  (.seq (.blk 1 (.seq (.reg [i (.idxs 8 (e 6) (e 8)), i (.load true 8 (l 0)), i (.box 8 (v (.agg [.int .i64 0, .int .i64 0, .int .i64 0, .int .i64 0, .int .i64 0, .int .i64 0, .int .u64 0, .str []]))), i (.store 8 (l 2) (l 1))] [(4, l 2)])
  (.seq (.reg [i (.fld 0 (e 4)), i (.load false 1 (l 0)), i (.bin .eql (l 1) (v (.int .i64 2)))] [(10, l 2)])
  (.cond (e 10) (.reg [i (.fld 3 (e 4)), i (.load false 1 (l 0)), i (.mkl 1 [(l 1)]), i (.app 1 (e 3) (l 2))] [(3, l 3)]) .skip))))
  (.reg [i (.bin .add (e 8) (v (.int .i64 1)))] [(8, l 0)]))))
def b_expr_Cols : ACode :=
  (.seq (.reg [i (.box 1 (e 0)), i (.mov (v (.nil0)))] [(1, l 0), (2, l 1)])
  (.seq (.seq (.reg [i (.load true 1 (e 1)), i (.call 71 [(l 0)] false), i (.bin .neq (l 1) (v (.int .i64 0)))] [(5, l 2)])
  (.cond (e 5) (.seq (.reg [i (.mov (v (.nil0)))] [(2, l 0)])
  .ret) .skip))
  (.seq (.reg [i (.mknil 1)] [(3, l 0)])
  (.seq (.seq (.reg [i (.fld 0 (e 1)), i (.load false 1 (l 0)), i (.len (l 1))] [(6, l 1), (7, l 2), (8, (v (.int .i64 0)))])
  (.blk 0 (.loop [4, 9, 10] l_expr_Cols_0)))
  (.seq (.reg [i (.call 282 [(e 3)] false)] [])
  (.seq (.reg [i (.call 281 [(e 3)] false)] [(2, l 0)])
  .ret))))))
def f_expr_Cols : AFunc := ⟨11, 1, .pure, [.env 2], b_expr_Cols⟩
def b_value_Plain : ACode :=
  (.seq (.reg [i (.box 4 (e 0))] [(1, l 0), (2, (v (.bool false)))])
  (.seq (.reg [i (.load true 4 (e 1)), i (.call 255 [(l 0)] false), i (.bin .eql (l 1) (v (.int .i64 0))), g (l 2) true (.fld 0 (e 1)), g (l 2) true (.load false 1 (l 3)), g (l 2) true (.bin .neq (l 4) (v (.int .i64 4))), i (.pick (l 2) (l 5) (v (.bool false)))] [(2, l 6)])
  .ret))
def f_value_Plain : AFunc := ⟨3, 1, .pure, [.env 2], b_value_Plain⟩
def b_expr_does : ACode :=
  (.seq (.reg [] [(0, (v (.nilm)))])
  (.seq (.reg [i (.call 296 [(v (.fn 293 [] []))] false)] [(1, l 0)])
  (.seq (.reg [i (.mkmap), i (.call 283 [(v (.fn 284 [] []))] false), i (.mput (l 0) (v (.int .i64 4)) (l 1)), i (.call 283 [(v (.fn 285 [] []))] false), i (.mput (l 0) (v (.int .i64 5)) (l 3)), i (.call 286 [(v (.bool true))] false), i (.mput (l 0) (v (.int .i64 6)) (l 5)), i (.call 286 [(v (.bool false))] false), i (.mput (l 0) (v (.int .i64 7)) (l 7)), i (.mput (l 0) (v (.int .i64 12)) (v (.fn 287 [] []))), i (.mput (l 0) (v (.int .i64 13)) (v (.fn 288 [] []))), i (.mput (l 0) (v (.int .i64 14)) (v (.fn 289 [] []))), i (.mput (l 0) (v (.int .i64 15)) (v (.fn 290 [] []))), i (.mput (l 0) (v (.int .i64 16)) (v (.fn 291 [] []))), i (.call 292 [(v (.fn 291 [] []))] false), i (.mput (l 0) (v (.int .i64 17)) (l 14)), i (.mput (l 0) (v (.int .i64 18)) (v (.fn 293 [] []))), i (.mput (l 0) (v (.int .i64 20)) (e 1)), i (.call 292 [(e 1)] false), i (.mput (l 0) (v (.int .i64 19)) (l 18)), i (.call 292 [(v (.fn 293 [] []))] false), i (.mput (l 0) (v (.int .i64 21)) (l 20)), i (.mput (l 0) (v (.int .i64 22)) (v (.fn 294 [] []))), i (.mput (l 0) (v (.int .i64 23)) (v (.fn 295 [] [])))] [(0, l 0)])
  .ret)))
def f_expr_does : AFunc := ⟨2, 0, .pure, [.env 0], b_expr_does⟩
def l_expr_over_api_Value_0 : ACode :=
  (.seq (.reg [i (.bin .lss (e 14) (e 13))] [(15, l 0)])
  (.seq (.cond (e 15) .skip (.exit 0))
  (.seq (.blk 1 (.seq (.reg [i (.idxs 8 (e 12) (e 14)), i (.load true 8 (l 0)), i (.box 8 (v (.agg [.int .i64 0, .int .i64 0, .int .i64 0, .int .i64 0, .int .i64 0, .int .i64 0, .int .u64 0, .str []]))), i (.store 8 (l 2) (l 1))] [(9, l 2)])
  (.seq (.regd [i (.load true 8 (e 9)), i (.fld 0 (e 9)), i (.load false 1 (l 1)), i (.call 247 [(l 2)] false), i (.callv (e 7) [(l 3)]), i (.callv (e 1) [(l 0), (l 4)]), i (.ext 0 (l 5)), i (.ext 1 (l 5)), i (.box 4 (v (.agg [.int .i64 0, .int .i64 0, .int .u64 0, .str []]))), i (.store 4 (l 8) (l 6))] [(10, l 8), (11, l 7)] [(0, 5), (0, 9), (1, 9), (2, 9), (3, 9)])
  (.seq (.seq (.reg [i (.bin .neq (e 11) (v (.int .i64 0)))] [(16, l 0)])
  (.cond (e 16) (.seq (.reg [] [(8, e 11)])
  (.exit 0)) .skip))
  (.reg [i (.load false 1 (e 5)), i (.load true 4 (e 10)), i (.mkl 4 [(l 1)]), i (.app 4 (l 0) (l 2)), i (.store 1 (e 5) (l 3))] [])))))
  (.reg [i (.bin .add (e 14) (v (.int .i64 1)))] [(14, l 0)]))))
def b_expr_over_api_Value : ACode :=
  (.seq (.reg [i (.box 1 (e 0)), i (.box 4 (v (.agg [.int .i64 0, .int .i64 0, .int .u64 0, .str []])))] [(2, l 0), (3, l 1), (4, (v (.int .i64 0)))])
  (.scope (.seq (.reg [i (.box 1 (v (.nil0)))] [(5, l 0)])
  (.seq (.reg [i (.box 4 (v (.agg [.int .i64 0, .int .i64 0, .int .u64 0, .str []])))] [(6, l 0)])
  (.seq (.reg [i (.mkfn 297 [] [(e 5)])] [(7, l 0)])
  (.seq (.reg [] [(8, (v (.int .i64 0)))])
  (.seq (.seq (.lift 5 0 4 (.reg [i (.fld 0 (e 2)), i (.load false 1 (l 0)), i (.len (l 1))] [(12, l 1), (13, l 2), (14, (v (.int .i64 0)))]))
  (.blk 0 (.loop [9, 10, 11, 15, 16] l_expr_over_api_Value_0)))
  (.seq (.seq (.reg [i (.bin .neq (e 8) (v (.int .i64 0)))] [(17, l 0)])
  (.cond (e 17) (.seq (.reg [i (.load true 4 (e 6)), i (.store 4 (e 3) (l 0))] [(4, e 8)])
  .ret) .skip))
  (.seq (.reg [i (.load false 1 (e 5)), i (.idxs 4 (l 0) (v (.int .i64 0))), i (.load true 4 (l 1)), i (.store 4 (e 3) (l 2))] [(4, (v (.int .i64 0)))])
  .ret)))))))))
def f_expr_over_api_Value : AFunc := ⟨18, 2, .pure, [.cell true 4 3, .env 4], b_expr_over_api_Value⟩
def b_expr_Eval_1 : ACode :=
  (.seq (.reg [i (.box 8 (e 0)), i (.box 4 (v (.agg [.int .i64 0, .int .i64 0, .int .u64 0, .str []])))] [(4, l 0), (5, l 1), (6, (v (.int .i64 0)))])
  (.seq (.seq (.reg [i (.fld 0 (e 4)), i (.load false 1 (l 0))] [(9, l 1)])
  (.blk 0 (.seq (.reg [i (.bin .eql (e 9) (v (.int .i64 1)))] [(10, l 0)])
  (.cond (e 10) (.seq (.reg [i (.fld 4 (e 4)), i (.load true 4 (l 0)), i (.store 4 (e 5) (l 1))] [(6, (v (.int .i64 0)))])
  .ret) (.seq (.reg [i (.bin .eql (e 9) (v (.int .i64 2)))] [(11, l 0)])
  (.cond (e 11) (.seq (.reg [i (.load false 1 (e 2)), i (.fld 3 (e 4)), i (.load false 1 (l 1)), i (.idxs 4 (l 0) (l 2)), i (.load true 4 (l 3)), i (.store 4 (e 5) (l 4))] [(6, (v (.int .i64 0)))])
  .ret) .skip))))))
  (.seq (.regd [i (.load false 1 (e 3)), i (.fld 0 (e 4)), i (.load false 1 (l 1)), i (.look (.nilf) false (l 0) (l 2)), i (.idxs 4 (e 1) (v (.int .i64 0))), i (.load true 4 (l 4)), i (.len (e 1)), i (.bin .sub (l 6) (v (.int .i64 1))), i (.idxs 4 (e 1) (l 7)), i (.load true 4 (l 8)), i (.callv (l 3) [(l 5), (l 9)]), i (.ext 0 (l 10)), i (.ext 1 (l 10)), i (.box 4 (v (.agg [.int .i64 0, .int .i64 0, .int .u64 0, .str []]))), i (.store 4 (l 13) (l 11))] [(7, l 13), (8, l 12)] [(0, 14), (1, 14), (2, 14), (3, 14), (4, 14), (5, 14), (6, 14), (8, 14), (9, 14)])
  (.seq (.seq (.reg [i (.bin .neq (e 8) (v (.int .i64 0))), g (l 0) true (.mov (e 8)), g (l 0) true (.bin .neq (l 1) (v (.int .i64 140))), i (.pick (l 0) (l 2) (v (.bool false)))] [(12, l 3)])
  (.cond (e 12) (.reg [] [(8, (v (.int .i64 201)))]) .skip))
  (.seq (.reg [i (.load true 4 (e 7)), i (.store 4 (e 5) (l 0))] [(6, e 8)])
  .ret)))))
def f_expr_Eval_1 : AFunc := ⟨13, 4, .pure, [.cell true 4 5, .env 6], b_expr_Eval_1⟩
def l_arith_are_0 : ACode :=
  (.seq (.reg [i (.bin .lss (e 7) (e 6))] [(8, l 0)])
  (.seq (.cond (e 8) .skip (.exit 0))
  (.seq (.blk 1 (.seq (.reg [i (.idxs 4 (e 5) (e 7)), i (.load true 4 (l 0)), i (.box 4 (v (.agg [.int .i64 0, .int .i64 0, .int .u64 0, .str []]))), i (.store 4 (l 2) (l 1))] [(4, l 2)])
  (.seq (.seq (.reg [i (.load true 4 (e 4)), i (.call 255 [(l 0)] false), i (.bin .neq (l 1) (v (.int .i64 0)))] [(9, l 2)])
  (.cond (e 9) (.seq (.reg [] [(2, (v (.int .i64 120)))])
  .ret) .skip))
  (.seq (.reg [i (.fld 0 (e 4)), i (.load false 1 (l 0)), i (.bin .neq (l 1) (v (.int .i64 0))), g (l 2) true (.fld 0 (e 4)), g (l 2) true (.load false 1 (l 3)), g (l 2) true (.mov (e 0)), g (l 2) true (.bin .neq (l 4) (l 5)), i (.pick (l 2) (l 6) (v (.bool false)))] [(10, l 7)])
  (.cond (e 10) (.reg [] [(3, (v (.int .i64 2)))]) .skip)))))
  (.reg [i (.bin .add (e 7) (v (.int .i64 1)))] [(7, l 0)]))))
def b_arith_are : ACode :=
  (.seq (.reg [] [(2, (v (.int .i64 0)))])
  (.seq (.reg [] [(3, (v (.int .i64 0)))])
  (.seq (.seq (.reg [i (.len (e 1))] [(5, e 1), (6, l 0), (7, (v (.int .i64 0)))])
  (.blk 0 (.loop [2, 4, 8, 9, 10] l_arith_are_0)))
  (.seq (.reg [] [(2, e 3)])
  .ret))))
def f_arith_are : AFunc := ⟨11, 2, .pure, [.env 2], b_arith_are⟩
def b_arith_wide : ACode :=
  (.seq (.reg [i (.box 4 (e 0)), i (.box 4 (v (.agg [.int .i64 0, .int .i64 0, .int .u64 0, .str []])))] [(1, l 0), (2, l 1)])
  (.seq (.reg [i (.fld 1 (e 1)), i (.load false 1 (l 0)), i (.bin .shr (l 1) (v (.int .u64 63))), i (.fld 1 (e 1)), i (.load false 1 (l 3)), i (.conv .u64 (l 4)), i (.build [.int .i64 0, .int .i64 0, .int .u64 0, .str []] [(0, 1, (v (.int .i64 4))), (1, 1, (l 2)), (2, 1, (l 5))]), i (.store 4 (e 2) (l 6))] [])
  .ret))
def f_arith_wide : AFunc := ⟨3, 1, .pure, [.cell true 4 2], b_arith_wide⟩
def b_arith_plus : ACode :=
  (.seq (.reg [i (.box 4 (e 0)), i (.box 4 (e 1)), i (.box 4 (v (.agg [.int .i64 0, .int .i64 0, .int .u64 0, .str []])))] [(2, l 0), (3, l 1), (4, l 2), (5, (v (.int .i64 0)))])
  (.seq (.reg [i (.fld 2 (e 2)), i (.load false 1 (l 0)), i (.fld 2 (e 3)), i (.load false 1 (l 2)), i (.call 298 [(l 1), (l 3), (v (.int .u64 0))] false), i (.ext 0 (l 4)), i (.ext 1 (l 4))] [(6, l 5), (7, l 6)])
  (.seq (.reg [i (.fld 1 (e 2)), i (.load false 1 (l 0)), i (.conv .u64 (l 1)), i (.fld 1 (e 3)), i (.load false 1 (l 3)), i (.conv .u64 (l 4)), i (.call 298 [(l 2), (l 5), (e 7)] false), i (.ext 0 (l 6)), i (.ext 1 (l 6))] [(8, l 7)])
  (.seq (.reg [i (.conv .i64 (e 8))] [(9, l 0)])
  (.seq (.seq (.reg [i (.fld 1 (e 2)), i (.load false 1 (l 0)), i (.bin .xor (l 1) (e 9)), i (.fld 1 (e 3)), i (.load false 1 (l 3)), i (.bin .xor (l 4) (e 9)), i (.bin .and (l 2) (l 5)), i (.bin .lss (l 6) (v (.int .i64 0)))] [(10, l 7)])
  (.cond (e 10) (.seq (.reg [i (.build [.int .i64 0, .int .i64 0, .int .u64 0, .str []] []), i (.store 4 (e 4) (l 0))] [(5, (v (.int .i64 140)))])
  .ret) .skip))
  (.seq (.reg [i (.build [.int .i64 0, .int .i64 0, .int .u64 0, .str []] [(0, 1, (v (.int .i64 4))), (1, 1, (e 9)), (2, 1, (e 6))]), i (.store 4 (e 4) (l 0))] [(5, (v (.int .i64 0)))])
  .ret))))))
def f_arith_plus : AFunc := ⟨11, 2, .pure, [.cell true 4 4, .env 5], b_arith_plus⟩
def b_arith_End : ACode :=
  (.seq (.reg [i (.box 4 (e 0)), i (.box 4 (v (.agg [.int .i64 0, .int .i64 0, .int .u64 0, .str []])))] [(1, l 0), (2, l 1), (3, (v (.int .i64 0)))])
  (.seq (.seq (.reg [i (.load true 4 (e 1)), i (.mkl 4 [(l 0)]), i (.call 210 [(v (.int .i64 4)), (l 1)] false)] [(4, l 2)])
  (.blk 0 (.seq (.reg [i (.bin .neq (e 4) (v (.int .i64 0)))] [(6, l 0)])
  (.cond (e 6) (.seq (.reg [i (.build [.int .i64 0, .int .i64 0, .int .u64 0, .str []] []), i (.store 4 (e 2) (l 0))] [(3, e 4)])
  .ret) (.seq (.reg [i (.fld 0 (e 1)), i (.load false 1 (l 0)), i (.bin .eql (l 1) (v (.int .i64 0)))] [(7, l 2)])
  (.cond (e 7) (.seq (.reg [i (.load true 4 (e 1)), i (.store 4 (e 2) (l 0))] [(3, (v (.int .i64 0)))])
  .ret) .skip))))))
  (.seq (.seq (.reg [i (.fld 2 (e 1)), i (.load false 1 (l 0)), i (.conv .i64 (l 1)), i (.call 149 [(l 2)] false), i (.box 4 (v (.agg [.int .i64 0, .int .i64 0, .int .u64 0, .str []]))), i (.store 4 (l 4) (l 3))] [(5, l 4)])
  (.seq (.reg [i (.load true 4 (e 5)), i (.call 208 [(l 0)] false), i (.load true 4 (e 1)), i (.eqa false [0, 0, 0, 2] (l 1) (l 2))] [(8, l 3)])
  (.cond (e 8) (.seq (.reg [i (.load true 4 (e 5)), i (.store 4 (e 2) (l 0))] [(3, (v (.int .i64 0)))])
  .ret) .skip)))
  (.seq (.reg [i (.build [.int .i64 0, .int .i64 0, .int .u64 0, .str []] []), i (.store 4 (e 2) (l 0))] [(3, (v (.int .i64 140)))])
  .ret))))
def f_arith_End : AFunc := ⟨9, 1, .pure, [.cell true 4 2, .env 3], b_arith_End⟩
def b_row_has_1 : ACode :=
  (.seq (.reg [] [(2, (v (.bool false)))])
  (.seq (.reg [i (.bin .lss (e 0) (v (.int .i64 0))), g (l 0) false (.mov (e 0)), g (l 0) false (.load false 1 (e 1)), g (l 0) false (.len (l 2)), g (l 0) false (.bin .geq (l 1) (l 3)), i (.pick (l 0) (v (.bool true)) (l 4))] [(2, l 5)])
  .ret))
def f_row_has_1 : AFunc := ⟨3, 2, .pure, [.env 2], b_row_has_1⟩
def b_cmp_Compare_int : ACode :=
  (.seq (.reg [] [(2, (v (.int .i64 0)))])
  (.seq (.reg [i (.call 316 [(e 0)] false)] [(3, l 0)])
  (.seq (.reg [i (.call 316 [(e 1)] false)] [(4, l 0)])
  (.seq (.seq (.reg [] [(5, e 3)])
  (.cond (e 5) (.seq (.seq (.reg [] [(6, e 4)])
  (.cond (e 6) (.seq (.reg [] [(2, (v (.int .i64 0)))])
  .ret) .skip))
  (.seq (.reg [] [(2, (v (.int .i64 (-1))))])
  .ret)) .skip))
  (.seq (.seq (.reg [] [(7, e 4)])
  (.cond (e 7) (.seq (.reg [] [(2, (v (.int .i64 1)))])
  .ret) .skip))
  (.seq (.seq (.reg [i (.bin .lss (e 0) (e 1))] [(8, l 0)])
  (.cond (e 8) (.seq (.reg [] [(2, (v (.int .i64 (-1))))])
  .ret) .skip))
  (.seq (.seq (.reg [i (.bin .gtr (e 0) (e 1))] [(9, l 0)])
  (.cond (e 9) (.seq (.reg [] [(2, (v (.int .i64 1)))])
  .ret) .skip))
  (.seq (.reg [] [(2, (v (.int .i64 0)))])
  .ret))))))))
def f_cmp_Compare_int : AFunc := ⟨10, 2, .pure, [.env 2], b_cmp_Compare_int⟩
def b_cmp_Compare_int64 : ACode :=
  (.seq (.reg [] [(2, (v (.int .i64 0)))])
  (.seq (.reg [i (.call 317 [(e 0)] false)] [(3, l 0)])
  (.seq (.reg [i (.call 317 [(e 1)] false)] [(4, l 0)])
  (.seq (.seq (.reg [] [(5, e 3)])
  (.cond (e 5) (.seq (.seq (.reg [] [(6, e 4)])
  (.cond (e 6) (.seq (.reg [] [(2, (v (.int .i64 0)))])
  .ret) .skip))
  (.seq (.reg [] [(2, (v (.int .i64 (-1))))])
  .ret)) .skip))
  (.seq (.seq (.reg [] [(7, e 4)])
  (.cond (e 7) (.seq (.reg [] [(2, (v (.int .i64 1)))])
  .ret) .skip))
  (.seq (.seq (.reg [i (.bin .lss (e 0) (e 1))] [(8, l 0)])
  (.cond (e 8) (.seq (.reg [] [(2, (v (.int .i64 (-1))))])
  .ret) .skip))
  (.seq (.seq (.reg [i (.bin .gtr (e 0) (e 1))] [(9, l 0)])
  (.cond (e 9) (.seq (.reg [] [(2, (v (.int .i64 1)))])
  .ret) .skip))
  (.seq (.reg [] [(2, (v (.int .i64 0)))])
  .ret))))))))
def f_cmp_Compare_int64 : AFunc := ⟨10, 2, .pure, [.env 2], b_cmp_Compare_int64⟩
def b_cmp_Compare_uint64 : ACode :=
  (.seq (.reg [] [(2, (v (.int .i64 0)))])
  (.seq (.reg [i (.call 318 [(e 0)] false)] [(3, l 0)])
  (.seq (.reg [i (.call 318 [(e 1)] false)] [(4, l 0)])
  (.seq (.seq (.reg [] [(5, e 3)])
  (.cond (e 5) (.seq (.seq (.reg [] [(6, e 4)])
  (.cond (e 6) (.seq (.reg [] [(2, (v (.int .i64 0)))])
  .ret) .skip))
  (.seq (.reg [] [(2, (v (.int .i64 (-1))))])
  .ret)) .skip))
  (.seq (.seq (.reg [] [(7, e 4)])
  (.cond (e 7) (.seq (.reg [] [(2, (v (.int .i64 1)))])
  .ret) .skip))
  (.seq (.seq (.reg [i (.bin .lss (e 0) (e 1))] [(8, l 0)])
  (.cond (e 8) (.seq (.reg [] [(2, (v (.int .i64 (-1))))])
  .ret) .skip))
  (.seq (.seq (.reg [i (.bin .gtr (e 0) (e 1))] [(9, l 0)])
  (.cond (e 9) (.seq (.reg [] [(2, (v (.int .i64 1)))])
  .ret) .skip))
  (.seq (.reg [] [(2, (v (.int .i64 0)))])
  .ret))))))))
def f_cmp_Compare_uint64 : AFunc := ⟨10, 2, .pure, [.env 2], b_cmp_Compare_uint64⟩
def b_cmp_Compare_string : ACode :=
  (.seq (.reg [] [(2, (v (.int .i64 0)))])
  (.seq (.reg [i (.call 319 [(e 0)] false)] [(3, l 0)])
  (.seq (.reg [i (.call 319 [(e 1)] false)] [(4, l 0)])
  (.seq (.seq (.reg [] [(5, e 3)])
  (.cond (e 5) (.seq (.seq (.reg [] [(6, e 4)])
  (.cond (e 6) (.seq (.reg [] [(2, (v (.int .i64 0)))])
  .ret) .skip))
  (.seq (.reg [] [(2, (v (.int .i64 (-1))))])
  .ret)) .skip))
  (.seq (.seq (.reg [] [(7, e 4)])
  (.cond (e 7) (.seq (.reg [] [(2, (v (.int .i64 1)))])
  .ret) .skip))
  (.seq (.seq (.reg [i (.bin .lss (e 0) (e 1))] [(8, l 0)])
  (.cond (e 8) (.seq (.reg [] [(2, (v (.int .i64 (-1))))])
  .ret) .skip))
  (.seq (.seq (.reg [i (.bin .gtr (e 0) (e 1))] [(9, l 0)])
  (.cond (e 9) (.seq (.reg [] [(2, (v (.int .i64 1)))])
  .ret) .skip))
  (.seq (.reg [] [(2, (v (.int .i64 0)))])
  .ret))))))))
def f_cmp_Compare_string : AFunc := ⟨10, 2, .pure, [.env 2], b_cmp_Compare_string⟩
def b_expr_parts : ACode :=
  (.seq (.reg [] [(1, (v (.int .i64 0)))])
  (.seq (.blk 0 (.seq (.reg [i (.bin .eql (e 0) (v (.int .i64 1))), g (l 0) false (.mov (e 0)), g (l 0) false (.bin .eql (l 1) (v (.int .i64 2))), i (.pick (l 0) (v (.bool true)) (l 2))] [(2, l 3)])
  (.cond (e 2) (.seq (.reg [] [(1, (v (.int .i64 0)))])
  .ret) (.seq (.reg [i (.bin .geq (e 0) (v (.int .i64 4))), g (l 0) true (.mov (e 0)), g (l 0) true (.bin .leq (l 1) (v (.int .i64 7))), i (.pick (l 0) (l 2) (v (.bool false)))] [(3, l 3)])
  (.cond (e 3) (.seq (.reg [] [(1, (v (.int .i64 1)))])
  .ret) (.seq (.reg [i (.bin .geq (e 0) (v (.int .i64 12))), g (l 0) true (.mov (e 0)), g (l 0) true (.bin .leq (l 1) (v (.int .i64 23))), i (.pick (l 0) (l 2) (v (.bool false)))] [(4, l 3)])
  (.cond (e 4) (.seq (.reg [] [(1, (v (.int .i64 2)))])
  .ret) .skip)))))))
  (.seq (.reg [] [(1, (v (.int .i64 (-1))))])
  .ret)))
def f_expr_parts : AFunc := ⟨5, 1, .pure, [.env 1], b_expr_parts⟩
def b_expr_counts : ACode :=
  (.seq (.reg [i (.box 8 (e 0))] [(1, l 0), (2, (v (.bool false)))])
  (.seq (.seq (.reg [i (.fld 0 (e 1)), i (.load false 1 (l 0))] [(3, l 1)])
  (.blk 0 (.seq (.reg [i (.bin .eql (e 3) (v (.int .i64 1)))] [(4, l 0)])
  (.cond (e 4) (.seq (.reg [i (.fld 4 (e 1)), i (.load true 4 (l 0)), i (.call 206 [(l 1)] false), g (l 2) true (.fld 3 (e 1)), g (l 2) true (.load false 1 (l 3)), g (l 2) true (.bin .eql (l 4) (v (.int .i64 0))), i (.pick (l 2) (l 5) (v (.bool false)))] [(2, l 6)])
  .ret) (.seq (.reg [i (.bin .eql (e 3) (v (.int .i64 2)))] [(5, l 0)])
  (.cond (e 5) (.seq (.reg [i (.fld 4 (e 1)), i (.load true 4 (l 0)), i (.build [.int .i64 0, .int .i64 0, .int .u64 0, .str []] []), i (.eqa false [0, 0, 0, 2] (l 1) (l 2)), g (l 3) true (.fld 3 (e 1)), g (l 3) true (.load false 1 (l 4)), g (l 3) true (.bin .geq (l 5) (v (.int .i64 0))), i (.pick (l 3) (l 6) (v (.bool false))), g (l 7) true (.fld 3 (e 1)), g (l 7) true (.load false 1 (l 8)), g (l 7) true (.bin .lss (l 9) (v (.int .i64 16))), i (.pick (l 7) (l 10) (v (.bool false)))] [(2, l 11)])
  .ret) .skip))))))
  (.seq (.reg [i (.fld 4 (e 1)), i (.load true 4 (l 0)), i (.build [.int .i64 0, .int .i64 0, .int .u64 0, .str []] []), i (.eqa false [0, 0, 0, 2] (l 1) (l 2)), g (l 3) true (.fld 3 (e 1)), g (l 3) true (.load false 1 (l 4)), g (l 3) true (.bin .eql (l 5) (v (.int .i64 0))), i (.pick (l 3) (l 6) (v (.bool false)))] [(2, l 7)])
  .ret)))
def f_expr_counts : AFunc := ⟨6, 1, .pure, [.env 2], b_expr_counts⟩
def l_slices_IndexFunc_api_Value_api_Value_0 : ACode :=
  (.seq (.reg [i (.bin .lss (e 5) (e 4))] [(6, l 0)])
  (.seq (.cond (e 6) .skip (.exit 0))
  (.seq (.blk 1 (.seq (.reg [] [(3, e 5)])
  (.seq (.reg [i (.idxs 4 (e 0) (e 3)), i (.load true 4 (l 0)), i (.callv (e 1) [(l 1)])] [(7, l 2)])
  (.cond (e 7) (.seq (.reg [] [(2, e 3)])
  .ret) .skip))))
  (.reg [i (.bin .add (e 5) (v (.int .i64 1)))] [(5, l 0)]))))
def b_slices_IndexFunc_api_Value_api_Value : ACode :=
  (.seq (.reg [] [(2, (v (.int .i64 0)))])
  (.seq (.seq (.reg [i (.len (e 0))] [(4, l 0), (5, (v (.int .i64 0)))])
  (.blk 0 (.loop [2, 3, 6, 7] l_slices_IndexFunc_api_Value_api_Value_0)))
  (.seq (.reg [] [(2, (v (.int .i64 (-1))))])
  .ret)))
def f_slices_IndexFunc_api_Value_api_Value : AFunc := ⟨8, 2, .pure, [.env 2], b_slices_IndexFunc_api_Value_api_Value⟩
def b_value_blank : ACode :=
  (.seq (.reg [i (.box 4 (e 0)), i (.box 4 (v (.agg [.int .i64 0, .int .i64 0, .int .u64 0, .str []])))] [(1, l 0), (2, l 1)])
  (.seq (.seq (.reg [i (.fld 0 (e 1)), i (.load false 1 (l 0))] [(3, l 1)])
  (.blk 0 (.seq (.blk 5 (.seq (.blk 4 (.seq (.blk 3 (.seq (.blk 2 (.seq (.blk 1 (.seq (.seq (.seq (.reg [i (.bin .eql (e 3) (v (.int .i64 1)))] [(4, l 0)])
  (.cond (e 4) (.exit 1) .skip))
  (.seq (.seq (.reg [i (.bin .eql (e 3) (v (.int .i64 2)))] [(5, l 0)])
  (.cond (e 5) (.exit 2) .skip))
  (.seq (.seq (.reg [i (.bin .eql (e 3) (v (.int .i64 0)))] [(6, l 0)])
  (.cond (e 6) (.exit 3) .skip))
  (.seq (.seq (.reg [i (.bin .eql (e 3) (v (.int .i64 3)))] [(7, l 0)])
  (.cond (e 7) (.exit 4) .skip))
  (.seq (.reg [i (.bin .eql (e 3) (v (.int .i64 4)))] [(8, l 0)])
  (.cond (e 8) (.exit 5) .skip))))))
  (.exit 0)))
  (.seq (.reg [i (.fld 1 (e 1)), i (.load false 1 (l 0)), i (.bin .neq (l 1) (v (.int .i64 0))), g (l 2) true (.fld 1 (e 1)), g (l 2) true (.load false 1 (l 3)), g (l 2) true (.bin .neq (l 4) (v (.int .i64 1))), i (.pick (l 2) (l 5) (v (.bool false)))] [(9, l 6)])
  (.cond (e 9) (.exit 0) .skip))))
  (.reg [i (.fld 1 (e 1)), i (.store 1 (l 0) (v (.int .i64 0)))] [])))
  (.seq (.reg [i (.fld 0 (e 1)), i (.store 1 (l 0) (v (.int .i64 0)))] [])
  (.exit 0))))
  (.seq (.seq (.reg [i (.fld 3 (e 1)), i (.load false 1 (l 0)), i (.lent (l 1)), i (.bin .leq (l 2) (v (.int .i64 40)))] [(10, l 3)])
  (.cond (e 10) (.reg [i (.fld 0 (e 1)), i (.store 1 (l 0) (v (.int .i64 0))), i (.fld 3 (e 1)), i (.store 1 (l 2) (v (.str [])))] []) .skip))
  (.exit 0))))
  (.seq (.reg [i (.fld 0 (e 1)), i (.store 1 (l 0) (v (.int .i64 0))), i (.fld 1 (e 1)), i (.store 1 (l 2) (v (.int .i64 0))), i (.fld 2 (e 1)), i (.store 1 (l 4) (v (.int .u64 0)))] [])
  (.exit 0)))))
  (.seq (.reg [i (.load true 4 (e 1)), i (.store 4 (e 2) (l 0))] [])
  .ret)))
def f_value_blank : AFunc := ⟨11, 1, .pure, [.cell true 4 2], b_value_blank⟩
def b_math_bits_Mul32 : ACode :=
  (.seq (.reg [] [(2, (v (.int .u32 0))), (3, (v (.int .u32 0)))])
  (.seq (.reg [i (.conv .u64 (e 0)), i (.conv .u64 (e 1)), i (.bin .mul (l 0) (l 1))] [(4, l 2)])
  (.seq (.reg [i (.bin .shr (e 4) (v (.int .u64 32))), i (.conv .u32 (l 0)), i (.conv .u32 (e 4))] [(2, l 1), (3, l 2)])
  .ret)))
def f_math_bits_Mul32 : AFunc := ⟨5, 2, .pure, [.env 2, .env 3], b_math_bits_Mul32⟩
def b_math_bits_Mul64 : ACode :=
  (.seq (.reg [] [(2, (v (.int .u64 0))), (3, (v (.int .u64 0)))])
  (.seq (.reg [i (.bin .and (e 0) (v (.int .u64 4294967295)))] [(4, l 0)])
  (.seq (.reg [i (.bin .shr (e 0) (v (.int .u64 32)))] [(5, l 0)])
  (.seq (.reg [i (.bin .and (e 1) (v (.int .u64 4294967295)))] [(6, l 0)])
  (.seq (.reg [i (.bin .shr (e 1) (v (.int .u64 32)))] [(7, l 0)])
  (.seq (.reg [i (.bin .mul (e 4) (e 6))] [(8, l 0)])
  (.seq (.reg [i (.bin .mul (e 5) (e 6)), i (.bin .shr (e 8) (v (.int .u64 32))), i (.bin .add (l 0) (l 1))] [(9, l 2)])
  (.seq (.reg [i (.bin .and (e 9) (v (.int .u64 4294967295)))] [(10, l 0)])
  (.seq (.reg [i (.bin .shr (e 9) (v (.int .u64 32)))] [(11, l 0)])
  (.seq (.reg [i (.bin .mul (e 4) (e 7)), i (.bin .add (e 10) (l 0))] [(10, l 1)])
  (.seq (.reg [i (.bin .mul (e 5) (e 7)), i (.bin .add (l 0) (e 11)), i (.bin .shr (e 10) (v (.int .u64 32))), i (.bin .add (l 1) (l 2))] [(2, l 3)])
  (.seq (.reg [i (.bin .mul (e 0) (e 1))] [(3, l 0)])
  .ret))))))))))))
def f_math_bits_Mul64 : AFunc := ⟨12, 2, .pure, [.env 2, .env 3], b_math_bits_Mul64⟩
def b_row_right_1 : ACode :=
  (.seq (.reg [i (.box 4 (e 0))] [(1, l 0), (2, (v (.bool false)))])
  (.seq (.reg [i (.load true 4 (e 1)), i (.call 255 [(l 0)] false), i (.bin .neq (l 1) (v (.int .i64 0)))] [(2, l 2)])
  .ret))
def f_row_right_1 : AFunc := ⟨3, 1, .pure, [.env 2], b_row_right_1⟩
def b_slices_ContainsFunc_api_Row_api_Value : ACode :=
  (.seq (.reg [] [(2, (v (.bool false)))])
  (.seq (.reg [i (.call 320 [(e 0), (e 1)] false), i (.bin .geq (l 0) (v (.int .i64 0)))] [(2, l 1)])
  .ret))
def f_slices_ContainsFunc_api_Row_api_Value : AFunc := ⟨3, 2, .pure, [.env 2], b_slices_ContainsFunc_api_Row_api_Value⟩
def l_sum_steps_0 : ACode :=
  (.seq (.reg [i (.bin .lss (e 9) (e 8))] [(10, l 0)])
  (.seq (.cond (e 10) .skip (.exit 4))
  (.seq (.blk 5 (.seq (.reg [] [(4, e 9)])
  (.reg [i (.bin .add (e 3) (e 4)), i (.idxa 256 1 (e 0) (e 3)), i (.load false 1 (l 1)), i (.idxa 256 1 (e 0) (e 4)), i (.load false 1 (l 3)), i (.bin .xor (l 2) (l 4)), i (.idxa 256 1 (e 0) (l 0)), i (.store 1 (l 6) (l 5))] [])))
  (.reg [i (.bin .add (e 9) (v (.int .i64 1)))] [(9, l 0)]))))
def l_sum_steps_1 : ACode :=
  (.seq (.seq (.reg [i (.bin .lss (e 3) (v (.int .i64 256)))] [(7, l 0)])
  (.cond (e 7) .skip (.exit 2)))
  (.seq (.blk 3 (.seq (.reg [] [(8, e 3), (9, (v (.int .i64 0)))])
  (.blk 4 (.loop [4, 10] l_sum_steps_0))))
  (.reg [i (.bin .mul (e 3) (v (.int .i64 2)))] [(3, l 0)])))
def l_sum_steps_2 : ACode :=
  (.seq (.seq (.reg [i (.bin .gtr (e 1) (v (.int .i64 0)))] [(5, l 0)])
  (.cond (e 5) .skip (.exit 0)))
  (.seq (.blk 1 (.seq (.reg [i (.bin .mul (v (.int .i64 2)) (e 1)), i (.idxa 256 1 (e 0) (l 0)), i (.load false 1 (l 1))] [(2, l 2)])
  (.seq (.reg [i (.bin .shr (e 2) (v (.int .u64 1))), i (.idxa 256 1 (e 0) (e 1)), i (.store 1 (l 1) (l 0))] [])
  (.seq (.reg [i (.bin .and (e 2) (v (.int .u32 1))), i (.bin .eql (l 0) (v (.int .u32 1)))] [(6, l 1)])
  (.cond (e 6) (.reg [i (.idxa 256 1 (e 0) (e 1)), i (.load false 1 (l 0)), i (.bin .xor (l 1) (v (.int .u32 2197175160))), i (.idxa 256 1 (e 0) (e 1)), i (.store 1 (l 3) (l 2))] []) .skip)))))
  (.reg [i (.bin .quo (e 1) (v (.int .i64 2)))] [(1, l 0)])))
def b_sum_steps : ACode :=
  (.seq (.reg [i (.box 256 (v (.agg (List.replicate 256 (.int .u32 0)))))] [(0, l 0)])
  (.seq (.reg [i (.idxa 256 1 (e 0) (v (.int .i64 128))), i (.store 1 (l 0) (v (.int .u32 2197175160)))] [])
  (.seq (.seq (.reg [] [(1, (v (.int .i64 64)))])
  (.blk 0 (.loop [2, 5, 6] l_sum_steps_2)))
  (.seq (.seq (.reg [] [(3, (v (.int .i64 2)))])
  (.blk 2 (.loop [4, 7, 8, 9, 10] l_sum_steps_1)))
  (.seq (.reg [i (.load true 256 (e 0)), i (.store 256 (e 0) (l 0))] [])
  .ret)))))
def f_sum_steps : AFunc := ⟨11, 0, .pure, [.cell true 256 0], b_sum_steps⟩
def b_sum_Sum32_1 : ACode :=
  (.reg [i (.load false 1 (e 1)), i (.bin .shr (l 0) (v (.int .u64 8))), i (.load false 1 (e 1)), i (.conv .u8 (l 2)), i (.bin .xor (l 3) (e 0)), i (.idxa 256 1 (e 2) (l 4)), i (.load false 1 (l 5)), i (.bin .xor (l 1) (l 6)), i (.store 1 (e 1) (l 7))] [])
def f_sum_Sum32_1 : AFunc := ⟨3, 3, .keep, [], b_sum_Sum32_1⟩
def b_value_True : ACode :=
  (.seq (.reg [i (.box 4 (e 0))] [(1, l 0), (2, (v (.bool false)))])
  (.seq (.reg [i (.load true 4 (e 1)), i (.call 321 [(v (.bool true))] false), i (.eqa false [0, 0, 0, 2] (l 0) (l 1))] [(2, l 2)])
  .ret))
def f_value_True : AFunc := ⟨3, 1, .pure, [.env 2], b_value_True⟩
def b_slices_Grow_api_Row_api_Value : ACode :=
  (.seq (.reg [i (.mov (v (.nil0)))] [(2, l 0)])
  (.seq (.seq (.reg [i (.bin .lss (e 1) (v (.int .i64 0)))] [(3, l 0)])
  (.cond (e 3) (.reg [i (.bad), i (.bad)] []) .skip))
  (.seq (.seq (.reg [i (.cap (e 0)), i (.len (e 0)), i (.bin .sub (l 0) (l 1)), i (.bin .sub (e 1) (l 2))] [(1, l 3)])
  (.seq (.reg [i (.bin .gtr (e 1) (v (.int .i64 0)))] [(4, l 0)])
  (.cond (e 4) (.reg [i (.cap (e 0)), i (.slice 4 (e 0) none (some (l 0))), i (.appz 4 (.agg [.int .i64 0, .int .i64 0, .int .u64 0, .str []]) (l 1) (e 1)), i (.len (e 0)), i (.slice 4 (l 2) none (some (l 3)))] [(0, l 4)]) .skip)))
  (.seq (.reg [] [(2, e 0)])
  .ret))))
def f_slices_Grow_api_Row_api_Value : AFunc := ⟨5, 2, .keep, [.env 2], b_slices_Grow_api_Row_api_Value⟩
def l_slices_CompactFunc_api_Row_api_Row_0 : ACode :=
  (.seq (.seq (.reg [i (.len (e 4)), i (.bin .lss (e 5) (l 0))] [(9, l 1)])
  (.cond (e 9) .skip (.exit 2)))
  (.seq (.blk 3 (.seq (.reg [i (.idxs 1 (e 4) (e 5)), i (.load false 1 (l 0)), i (.bin .sub (e 5) (v (.int .i64 1))), i (.idxs 1 (e 4) (l 2)), i (.load false 1 (l 3)), i (.callv (e 1) [(l 1), (l 4)]), i (.una .not (l 5))] [(10, l 6)])
  (.cond (e 10) (.seq (.reg [i (.idxs 1 (e 4) (e 5)), i (.load false 1 (l 0)), i (.idxs 1 (e 0) (e 3)), i (.store 1 (l 2) (l 1))] [])
  (.reg [i (.bin .add (e 3) (v (.int .i64 1)))] [(3, l 0)])) .skip)))
  (.reg [i (.bin .add (e 5) (v (.int .i64 1)))] [(5, l 0)])))
def l_slices_CompactFunc_api_Row_api_Row_1 : ACode :=
  (.seq (.seq (.reg [i (.len (e 0)), i (.bin .lss (e 3) (l 0))] [(7, l 1)])
  (.cond (e 7) .skip (.exit 0)))
  (.seq (.blk 1 (.seq (.reg [i (.idxs 1 (e 0) (e 3)), i (.load false 1 (l 0)), i (.bin .sub (e 3) (v (.int .i64 1))), i (.idxs 1 (e 0) (l 2)), i (.load false 1 (l 3)), i (.callv (e 1) [(l 1), (l 4)])] [(8, l 5)])
  (.cond (e 8) (.seq (.reg [i (.slice 1 (e 0) (some (e 3)) none)] [(4, l 0)])
  (.seq (.seq (.reg [] [(5, (v (.int .i64 1)))])
  (.blk 2 (.loop [9, 10] l_slices_CompactFunc_api_Row_api_Row_0)))
  (.seq (.reg [i (.slice 1 (e 0) (some (e 3)) none), i (.clr (.nil0) (l 0))] [])
  (.seq (.reg [i (.slice 1 (e 0) none (some (e 3)))] [(2, l 0)])
  .ret)))) .skip)))
  (.reg [i (.bin .add (e 3) (v (.int .i64 1)))] [(3, l 0)])))
def b_slices_CompactFunc_api_Row_api_Row : ACode :=
  (.seq (.reg [i (.mov (v (.nil0)))] [(2, l 0)])
  (.seq (.seq (.reg [i (.len (e 0)), i (.bin .lss (l 0) (v (.int .i64 2)))] [(6, l 1)])
  (.cond (e 6) (.seq (.reg [] [(2, e 0)])
  .ret) .skip))
  (.seq (.seq (.reg [] [(3, (v (.int .i64 1)))])
  (.blk 0 (.loop [2, 4, 5, 7, 8, 9, 10] l_slices_CompactFunc_api_Row_api_Row_1)))
  (.seq (.reg [] [(2, e 0)])
  .ret))))
def f_slices_CompactFunc_api_Row_api_Row : AFunc := ⟨11, 2, .keep, [.env 2], b_slices_CompactFunc_api_Row_api_Row⟩
def b_prop_laid_scan_1 : ACode :=
  (.seq (.reg [] [(1, (v (.bool false)))])
  (.seq (.reg [i (.bin .lss (e 0) (v (.int .i64 1))), g (l 0) false (.mov (e 0)), g (l 0) false (.bin .gtr (l 1) (v (.int .i64 3))), i (.pick (l 0) (v (.bool true)) (l 2))] [(1, l 3)])
  .ret))
def f_prop_laid_scan_1 : AFunc := ⟨2, 1, .pure, [.env 1], b_prop_laid_scan_1⟩
def b_prop_laid_input_1 : ACode :=
  (.seq (.reg [] [(1, (v (.bool false)))])
  (.seq (.reg [i (.bin .lss (e 0) (v (.int .i64 0))), g (l 0) false (.mov (e 0)), g (l 0) false (.bin .gtr (l 1) (v (.int .i64 4))), i (.pick (l 0) (v (.bool true)) (l 2))] [(1, l 3)])
  .ret))
def f_prop_laid_input_1 : AFunc := ⟨2, 1, .pure, [.env 1], b_prop_laid_input_1⟩
def l_slices_Concat_int_int_0 : ACode :=
  (.seq (.reg [i (.bin .lss (e 13) (e 12))] [(14, l 0)])
  (.seq (.cond (e 14) .skip (.exit 2))
  (.seq (.blk 3 (.seq (.reg [i (.idxs 1 (e 11) (e 13)), i (.load false 1 (l 0))] [(5, l 1)])
  (.reg [i (.app 1 (e 4) (e 5))] [(4, l 0)])))
  (.reg [i (.bin .add (e 13) (v (.int .i64 1)))] [(13, l 0)]))))
def l_slices_Concat_int_int_1 : ACode :=
  (.seq (.reg [i (.bin .lss (e 8) (e 7))] [(9, l 0)])
  (.seq (.cond (e 9) .skip (.exit 0))
  (.seq (.blk 1 (.seq (.reg [i (.idxs 1 (e 6) (e 8)), i (.load false 1 (l 0))] [(3, l 1)])
  (.seq (.reg [i (.len (e 3)), i (.bin .add (e 2) (l 0))] [(2, l 1)])
  (.seq (.reg [i (.bin .lss (e 2) (v (.int .i64 0)))] [(10, l 0)])
  (.cond (e 10) (.reg [i (.bad), i (.bad)] []) .skip)))))
  (.reg [i (.bin .add (e 8) (v (.int .i64 1)))] [(8, l 0)]))))
def b_slices_Concat_int_int : ACode :=
  (.seq (.reg [i (.mov (v (.nil0)))] [(1, l 0)])
  (.seq (.reg [] [(2, (v (.int .i64 0)))])
  (.seq (.seq (.reg [i (.len (e 0))] [(6, e 0), (7, l 0), (8, (v (.int .i64 0)))])
  (.blk 0 (.loop [3, 9, 10] l_slices_Concat_int_int_1)))
  (.seq (.reg [i (.call 339 [(v (.nil0)), (e 2)] false)] [(4, l 0)])
  (.seq (.seq (.reg [i (.len (e 0))] [(11, e 0), (12, l 0), (13, (v (.int .i64 0)))])
  (.blk 2 (.loop [5, 14] l_slices_Concat_int_int_0)))
  (.seq (.reg [] [(1, e 4)])
  .ret))))))
def f_slices_Concat_int_int : AFunc := ⟨15, 1, .pure, [.env 1], b_slices_Concat_int_int⟩
def b_prop_truth : ACode :=
  (.seq (.reg [i (.box 1 (e 0))] [(2, l 0), (3, (v (.bool false)))])
  (.seq (.reg [i (.load true 1 (e 2)), i (.call 276 [(l 0), (e 1)] false), i (.ext 0 (l 1)), i (.ext 1 (l 1))] [(4, l 2), (5, l 3)])
  (.seq (.reg [i (.bin .eql (e 5) (v (.int .i64 0))), g (l 0) true (.mov (e 4)), g (l 0) true (.bin .eql (l 1) (v (.int .i64 0))), g (l 0) true (.mov (l 2)), g (l 3) false (.mov (e 4)), g (l 3) false (.bin .eql (l 4) (v (.int .i64 1))), g (l 0) true (.pick (l 3) (v (.bool true)) (l 5)), i (.pick (l 0) (l 6) (v (.bool false)))] [(3, l 7)])
  .ret)))
def f_prop_truth : AFunc := ⟨6, 2, .pure, [.env 3], b_prop_truth⟩
def l_expr_Kind_0 : ACode :=
  (.seq (.reg [i (.bin .lss (e 17) (e 16))] [(18, l 0)])
  (.seq (.cond (e 18) .skip (.exit 2))
  (.seq (.blk 3 (.seq (.reg [i (.idxs 1 (e 15) (e 17)), i (.load false 1 (l 0))] [(8, l 1)])
  (.seq (.reg [i (.load false 1 (e 3)), i (.len (l 0)), i (.bin .geq (e 8) (l 1))] [(19, l 2)])
  (.cond (e 19) (.seq (.reg [] [(4, (v (.int .i64 0))), (5, (v (.int .i64 2)))])
  .ret) .skip))))
  (.reg [i (.bin .add (e 17) (v (.int .i64 1)))] [(17, l 0)]))))
def l_expr_Kind_1 : ACode :=
  (.seq (.reg [i (.bin .lss (e 12) (e 11))] [(13, l 0)])
  (.seq (.cond (e 13) .skip (.exit 0))
  (.seq (.blk 1 (.seq (.reg [i (.idxs 1 (e 10) (e 12)), i (.load false 1 (l 0))] [(7, l 1)])
  (.seq (.reg [i (.bin .lss (e 7) (v (.int .i64 0))), g (l 0) false (.mov (e 7)), g (l 0) false (.bin .gtr (l 1) (v (.int .i64 3))), i (.pick (l 0) (v (.bool true)) (l 2))] [(14, l 3)])
  (.cond (e 14) (.seq (.reg [] [(4, (v (.int .i64 0))), (5, (v (.int .i64 2)))])
  .ret) .skip))))
  (.reg [i (.bin .add (e 12) (v (.int .i64 1)))] [(12, l 0)]))))
def b_expr_Kind : ACode :=
  (.seq (.reg [i (.box 1 (e 0)), i (.box 1 (e 1))] [(2, l 0), (3, l 1), (4, (v (.int .i64 0))), (5, (v (.int .i64 0)))])
  (.seq (.seq (.reg [i (.load true 1 (e 2)), i (.call 71 [(l 0)] false)] [(6, l 1)])
  (.seq (.reg [i (.bin .neq (e 6) (v (.int .i64 0)))] [(9, l 0)])
  (.cond (e 9) (.seq (.reg [] [(4, (v (.int .i64 0))), (5, e 6)])
  .ret) .skip)))
  (.seq (.seq (.reg [i (.load false 1 (e 3)), i (.len (l 0))] [(10, l 0), (11, l 1), (12, (v (.int .i64 0)))])
  (.blk 0 (.loop [4, 5, 7, 13, 14] l_expr_Kind_1)))
  (.seq (.seq (.reg [i (.load true 1 (e 2)), i (.call 207 [(l 0)] false), i (.len (l 1))] [(15, l 1), (16, l 2), (17, (v (.int .i64 0)))])
  (.blk 2 (.loop [4, 5, 8, 18, 19] l_expr_Kind_0)))
  (.seq (.reg [i (.load true 1 (e 2)), i (.mkfn 340 [] [(e 3)]), i (.call 341 [(l 0), (l 1)] false), i (.ext 0 (l 2)), i (.ext 1 (l 2))] [(4, l 3), (5, l 4)])
  .ret)))))
def f_expr_Kind : AFunc := ⟨20, 2, .pure, [.env 4, .env 5], b_expr_Kind⟩
def b_prop_laid_sort_1 : ACode :=
  (.seq (.reg [i (.box 2 (e 0))] [(2, l 0), (3, (v (.bool false)))])
  (.seq (.reg [i (.fld 0 (e 2)), i (.load false 1 (l 0)), i (.bin .lss (l 1) (v (.int .i64 0))), g (l 2) false (.fld 0 (e 2)), g (l 2) false (.load false 1 (l 3)), g (l 2) false (.load false 1 (e 1)), g (l 2) false (.nilck (l 5)), g (l 2) false (.fld 15 (l 6)), g (l 2) false (.load false 1 (l 7)), g (l 2) false (.len (l 8)), g (l 2) false (.bin .geq (l 4) (l 9)), i (.pick (l 2) (v (.bool true)) (l 10))] [(3, l 11)])
  .ret))
def f_prop_laid_sort_1 : AFunc := ⟨4, 2, .pure, [.env 3], b_prop_laid_sort_1⟩
def l_slices_Index_int_int_0 : ACode :=
  (.seq (.reg [i (.bin .lss (e 5) (e 4))] [(6, l 0)])
  (.seq (.cond (e 6) .skip (.exit 0))
  (.seq (.blk 1 (.seq (.reg [] [(3, e 5)])
  (.seq (.reg [i (.idxs 1 (e 0) (e 3)), i (.load false 1 (l 0)), i (.bin .eql (e 1) (l 1))] [(7, l 2)])
  (.cond (e 7) (.seq (.reg [] [(2, e 3)])
  .ret) .skip))))
  (.reg [i (.bin .add (e 5) (v (.int .i64 1)))] [(5, l 0)]))))
def b_slices_Index_int_int : ACode :=
  (.seq (.reg [] [(2, (v (.int .i64 0)))])
  (.seq (.seq (.reg [i (.len (e 0))] [(4, l 0), (5, (v (.int .i64 0)))])
  (.blk 0 (.loop [2, 3, 6, 7] l_slices_Index_int_int_0)))
  (.seq (.reg [] [(2, (v (.int .i64 (-1))))])
  .ret)))
def f_slices_Index_int_int : AFunc := ⟨8, 2, .pure, [.env 2], b_slices_Index_int_int⟩
def l_exec_pairs_1_0 : ACode :=
  (.seq (.reg [i (.bin .lss (e 12) (e 11))] [(13, l 0)])
  (.seq (.cond (e 13) .skip (.exit 2))
  (.seq (.blk 3 (.seq (.reg [i (.idxs 1 (e 10) (e 12)), i (.load false 1 (l 0))] [(5, l 1)])
  (.seq (.reg [i (.mkl 1 [(e 4), (e 5)]), i (.call 168 [(l 0)] false), i (.callv (e 0) [(e 3), (l 1)]), i (.una .not (l 2))] [(14, l 3)])
  (.cond (e 14) .ret .skip))))
  (.reg [i (.bin .add (e 12) (v (.int .i64 1)))] [(12, l 0)]))))
def l_exec_pairs_1_1 : ACode :=
  (.seq (.reg [i (.bin .lss (e 8) (e 7))] [(9, l 0)])
  (.seq (.cond (e 9) .skip (.exit 0))
  (.seq (.blk 1 (.seq (.reg [i (.idxs 1 (e 6) (e 8)), i (.load false 1 (l 0))] [(3, e 8), (4, l 1)])
  (.seq (.reg [i (.load false 1 (e 2)), i (.len (l 0))] [(10, l 0), (11, l 1), (12, (v (.int .i64 0)))])
  (.blk 2 (.loop [5, 13, 14] l_exec_pairs_1_0)))))
  (.reg [i (.bin .add (e 8) (v (.int .i64 1)))] [(8, l 0)]))))
def b_exec_pairs_1 : ACode :=
  (.seq (.reg [i (.load false 1 (e 1)), i (.len (l 0))] [(6, l 0), (7, l 1), (8, (v (.int .i64 0)))])
  (.blk 0 (.loop [3, 4, 5, 9, 10, 11, 12, 13, 14] l_exec_pairs_1_1)))
def f_exec_pairs_1 : AFunc := ⟨15, 3, .keep, [], b_exec_pairs_1⟩
def l_exec_groups_1_0 : ACode :=
  (.seq (.reg [i (.bin .lss (e 9) (e 8))] [(10, l 0)])
  (.seq (.cond (e 10) .skip (.exit 0))
  (.seq (.blk 1 (.seq (.reg [i (.idxs 2 (e 7) (e 9)), i (.load true 2 (l 0)), i (.box 2 (v (.agg [.nil0, .nil0]))), i (.store 2 (l 2) (l 1))] [(5, l 2)])
  (.seq (.reg [i (.load true 2 (e 5)), i (.callv (e 0) [(l 0)]), i (.una .not (l 1))] [(11, l 2)])
  (.cond (e 11) .ret .skip))))
  (.reg [i (.bin .add (e 9) (v (.int .i64 1)))] [(9, l 0)]))))
def b_exec_groups_1 : ACode :=
  (.seq (.reg [i (.load false 1 (e 1)), i (.load false 1 (e 2)), i (.call 20 [(l 0), (l 1)] false), i (.ext 0 (l 2)), i (.ext 1 (l 2))] [(4, l 3)])
  (.seq (.seq (.reg [i (.len (e 4)), i (.bin .eql (l 0) (v (.int .i64 0))), g (l 1) true (.load false 1 (e 2)), g (l 1) true (.len (l 2)), g (l 1) true (.bin .eql (l 3) (v (.int .i64 0))), i (.pick (l 1) (l 4) (v (.bool false))), g (l 5) true (.load false 1 (e 3)), i (.pick (l 5) (l 6) (v (.bool false)))] [(6, l 7)])
  (.cond (e 6) (.reg [i (.build [.nil0, .nil0] []), i (.mkl 2 [(l 0)])] [(4, l 1)]) .skip))
  (.seq (.reg [i (.len (e 4))] [(7, e 4), (8, l 0), (9, (v (.int .i64 0)))])
  (.blk 0 (.loop [5, 10, 11] l_exec_groups_1_0)))))
def f_exec_groups_1 : AFunc := ⟨12, 4, .keep, [], b_exec_groups_1⟩
def l_slices_Compact_int_int_0 : ACode :=
  (.seq (.seq (.reg [i (.len (e 3)), i (.bin .lss (e 4) (l 0))] [(8, l 1)])
  (.cond (e 8) .skip (.exit 2)))
  (.seq (.blk 3 (.seq (.reg [i (.idxs 1 (e 3) (e 4)), i (.load false 1 (l 0)), i (.bin .sub (e 4) (v (.int .i64 1))), i (.idxs 1 (e 3) (l 2)), i (.load false 1 (l 3)), i (.bin .neq (l 1) (l 4))] [(9, l 5)])
  (.cond (e 9) (.seq (.reg [i (.idxs 1 (e 3) (e 4)), i (.load false 1 (l 0)), i (.idxs 1 (e 0) (e 2)), i (.store 1 (l 2) (l 1))] [])
  (.reg [i (.bin .add (e 2) (v (.int .i64 1)))] [(2, l 0)])) .skip)))
  (.reg [i (.bin .add (e 4) (v (.int .i64 1)))] [(4, l 0)])))
def l_slices_Compact_int_int_1 : ACode :=
  (.seq (.seq (.reg [i (.len (e 0)), i (.bin .lss (e 2) (l 0))] [(6, l 1)])
  (.cond (e 6) .skip (.exit 0)))
  (.seq (.blk 1 (.seq (.reg [i (.idxs 1 (e 0) (e 2)), i (.load false 1 (l 0)), i (.bin .sub (e 2) (v (.int .i64 1))), i (.idxs 1 (e 0) (l 2)), i (.load false 1 (l 3)), i (.bin .eql (l 1) (l 4))] [(7, l 5)])
  (.cond (e 7) (.seq (.reg [i (.slice 1 (e 0) (some (e 2)) none)] [(3, l 0)])
  (.seq (.seq (.reg [] [(4, (v (.int .i64 1)))])
  (.blk 2 (.loop [8, 9] l_slices_Compact_int_int_0)))
  (.seq (.reg [i (.slice 1 (e 0) (some (e 2)) none), i (.clr (.int .i64 0) (l 0))] [])
  (.seq (.reg [i (.slice 1 (e 0) none (some (e 2)))] [(1, l 0)])
  .ret)))) .skip)))
  (.reg [i (.bin .add (e 2) (v (.int .i64 1)))] [(2, l 0)])))
def b_slices_Compact_int_int : ACode :=
  (.seq (.reg [i (.mov (v (.nil0)))] [(1, l 0)])
  (.seq (.seq (.reg [i (.len (e 0)), i (.bin .lss (l 0) (v (.int .i64 2)))] [(5, l 1)])
  (.cond (e 5) (.seq (.reg [] [(1, e 0)])
  .ret) .skip))
  (.seq (.seq (.reg [] [(2, (v (.int .i64 1)))])
  (.blk 0 (.loop [1, 3, 4, 6, 7, 8, 9] l_slices_Compact_int_int_1)))
  (.seq (.reg [] [(1, e 0)])
  .ret))))
def f_slices_Compact_int_int : AFunc := ⟨10, 1, .keep, [.env 1], b_slices_Compact_int_int⟩
def b_expr_turned : ACode :=
  (.seq (.reg [i (.box 1 (e 0))] [(1, l 0), (2, (v (.nilf)))])
  (.seq (.reg [i (.mkfn 342 [] [(e 1)])] [(2, l 0)])
  .ret))
def f_expr_turned : AFunc := ⟨3, 1, .pure, [.env 2], b_expr_turned⟩
def b_value_Less : ACode :=
  (.seq (.reg [i (.box 4 (e 0)), i (.box 4 (e 1)), i (.box 4 (v (.agg [.int .i64 0, .int .i64 0, .int .u64 0, .str []])))] [(2, l 0), (3, l 1), (4, l 2), (5, (v (.int .i64 0)))])
  (.seq (.reg [i (.load true 4 (e 2)), i (.load true 4 (e 3)), i (.call 343 [(l 0), (l 1), (v (.fn 344 [] []))] false), i (.ext 0 (l 2)), i (.ext 1 (l 2)), i (.store 4 (e 4) (l 3))] [(5, l 4)])
  .ret))
def f_value_Less : AFunc := ⟨6, 2, .pure, [.cell true 4 4, .env 5], b_value_Less⟩
def b_expr_first : ACode :=
  (.seq (.reg [i (.box 1 (e 0))] [(1, l 0), (2, (v (.nilf)))])
  (.seq (.reg [i (.mkfn 345 [] [(e 1)])] [(2, l 0)])
  .ret))
def f_expr_first : AFunc := ⟨3, 1, .pure, [.env 2], b_expr_first⟩
def b_arith_Neg : ACode :=
  (.seq (.reg [i (.box 4 (e 0)), i (.box 4 (v (.agg [.int .i64 0, .int .i64 0, .int .u64 0, .str []])))] [(1, l 0), (2, l 1), (3, (v (.int .i64 0)))])
  (.seq (.reg [i (.call 149 [(v (.int .i64 0))] false), i (.load true 4 (e 1)), i (.call 288 [(l 0), (l 1)] false), i (.ext 0 (l 2)), i (.ext 1 (l 2)), i (.store 4 (e 2) (l 3))] [(3, l 4)])
  .ret))
def f_arith_Neg : AFunc := ⟨4, 1, .pure, [.cell true 4 2, .env 3], b_arith_Neg⟩
def b_value_Not : ACode :=
  (.seq (.reg [i (.box 4 (e 0)), i (.box 4 (v (.agg [.int .i64 0, .int .i64 0, .int .u64 0, .str []])))] [(1, l 0), (2, l 1), (3, (v (.int .i64 0)))])
  (.seq (.reg [i (.load true 4 (e 1)), i (.mkl 4 [(l 0)]), i (.call 346 [(v (.fn 347 [] [])), (l 1)] false), i (.ext 0 (l 2)), i (.ext 1 (l 2)), i (.store 4 (e 2) (l 3))] [(3, l 4)])
  .ret))
def f_value_Not : AFunc := ⟨4, 1, .pure, [.cell true 4 2, .env 3], b_value_Not⟩
def b_expr_null : ACode :=
  (.seq (.reg [i (.box 1 (e 0))] [(1, l 0), (2, (v (.nilf)))])
  (.seq (.reg [i (.mkfn 348 [] [(e 1)])] [(2, l 0)])
  .ret))
def f_expr_null : AFunc := ⟨3, 1, .pure, [.env 2], b_expr_null⟩
def b_arith_Add : ACode :=
  (.seq (.reg [i (.box 4 (e 0)), i (.box 4 (e 1)), i (.box 4 (v (.agg [.int .i64 0, .int .i64 0, .int .u64 0, .str []])))] [(2, l 0), (3, l 1), (4, l 2), (5, (v (.int .i64 0)))])
  (.seq (.reg [i (.load true 4 (e 2)), i (.load true 4 (e 3)), i (.call 349 [(l 0), (l 1), (v (.fn 350 [] []))] false), i (.ext 0 (l 2)), i (.ext 1 (l 2)), i (.store 4 (e 4) (l 3))] [(5, l 4)])
  .ret))
def f_arith_Add : AFunc := ⟨6, 2, .pure, [.cell true 4 4, .env 5], b_arith_Add⟩
def b_arith_Sub : ACode :=
  (.seq (.reg [i (.box 4 (e 0)), i (.box 4 (e 1)), i (.box 4 (v (.agg [.int .i64 0, .int .i64 0, .int .u64 0, .str []])))] [(2, l 0), (3, l 1), (4, l 2), (5, (v (.int .i64 0)))])
  (.seq (.reg [i (.load true 4 (e 2)), i (.load true 4 (e 3)), i (.call 349 [(l 0), (l 1), (v (.fn 351 [] []))] false), i (.ext 0 (l 2)), i (.ext 1 (l 2)), i (.store 4 (e 4) (l 3))] [(5, l 4)])
  .ret))
def f_arith_Sub : AFunc := ⟨6, 2, .pure, [.cell true 4 4, .env 5], b_arith_Sub⟩
def b_arith_Mul : ACode :=
  (.seq (.reg [i (.box 4 (e 0)), i (.box 4 (e 1)), i (.box 4 (v (.agg [.int .i64 0, .int .i64 0, .int .u64 0, .str []])))] [(2, l 0), (3, l 1), (4, l 2), (5, (v (.int .i64 0)))])
  (.seq (.reg [i (.load true 4 (e 2)), i (.load true 4 (e 3)), i (.call 349 [(l 0), (l 1), (v (.fn 352 [] []))] false), i (.ext 0 (l 2)), i (.ext 1 (l 2)), i (.store 4 (e 4) (l 3))] [(5, l 4)])
  .ret))
def f_arith_Mul : AFunc := ⟨6, 2, .pure, [.cell true 4 4, .env 5], b_arith_Mul⟩
def b_arith_Div : ACode :=
  (.seq (.reg [i (.box 4 (e 0)), i (.box 4 (e 1)), i (.box 4 (v (.agg [.int .i64 0, .int .i64 0, .int .u64 0, .str []])))] [(2, l 0), (3, l 1), (4, l 2), (5, (v (.int .i64 0)))])
  (.seq (.reg [i (.load true 4 (e 2)), i (.load true 4 (e 3)), i (.call 349 [(l 0), (l 1), (v (.fn 353 [] []))] false), i (.ext 0 (l 2)), i (.ext 1 (l 2)), i (.store 4 (e 4) (l 3))] [(5, l 4)])
  .ret))
def f_arith_Div : AFunc := ⟨6, 2, .pure, [.cell true 4 4, .env 5], b_arith_Div⟩
def b_value_Equal : ACode :=
  (.seq (.reg [i (.box 4 (e 0)), i (.box 4 (e 1)), i (.box 4 (v (.agg [.int .i64 0, .int .i64 0, .int .u64 0, .str []])))] [(2, l 0), (3, l 1), (4, l 2), (5, (v (.int .i64 0)))])
  (.seq (.reg [i (.load true 4 (e 2)), i (.load true 4 (e 3)), i (.call 343 [(l 0), (l 1), (v (.fn 354 [] []))] false), i (.ext 0 (l 2)), i (.ext 1 (l 2)), i (.store 4 (e 4) (l 3))] [(5, l 4)])
  .ret))
def f_value_Equal : AFunc := ⟨6, 2, .pure, [.cell true 4 4, .env 5], b_value_Equal⟩
def b_expr_not : ACode :=
  (.seq (.reg [i (.box 1 (e 0))] [(1, l 0), (2, (v (.nilf)))])
  (.seq (.reg [i (.mkfn 355 [] [(e 1)])] [(2, l 0)])
  .ret))
def f_expr_not : AFunc := ⟨3, 1, .pure, [.env 2], b_expr_not⟩
def b_value_And : ACode :=
  (.seq (.reg [i (.box 4 (e 0)), i (.box 4 (e 1)), i (.box 4 (v (.agg [.int .i64 0, .int .i64 0, .int .u64 0, .str []])))] [(2, l 0), (3, l 1), (4, l 2), (5, (v (.int .i64 0)))])
  (.seq (.reg [i (.load true 4 (e 2)), i (.load true 4 (e 3)), i (.mkl 4 [(l 0), (l 1)]), i (.call 346 [(v (.fn 356 [] [])), (l 2)] false), i (.ext 0 (l 3)), i (.ext 1 (l 3)), i (.store 4 (e 4) (l 4))] [(5, l 5)])
  .ret))
def f_value_And : AFunc := ⟨6, 2, .pure, [.cell true 4 4, .env 5], b_value_And⟩
def b_value_Or : ACode :=
  (.seq (.reg [i (.box 4 (e 0)), i (.box 4 (e 1)), i (.box 4 (v (.agg [.int .i64 0, .int .i64 0, .int .u64 0, .str []])))] [(2, l 0), (3, l 1), (4, l 2), (5, (v (.int .i64 0)))])
  (.seq (.reg [i (.load true 4 (e 2)), i (.load true 4 (e 3)), i (.mkl 4 [(l 0), (l 1)]), i (.call 346 [(v (.fn 357 [] [])), (l 2)] false), i (.ext 0 (l 3)), i (.ext 1 (l 3)), i (.store 4 (e 4) (l 4))] [(5, l 5)])
  .ret))
def f_value_Or : AFunc := ⟨6, 2, .pure, [.cell true 4 4, .env 5], b_value_Or⟩
def b_expr_over_api_Value_1 : ACode :=
  (.seq (.reg [i (.mov (v (.nil0)))] [(2, l 0)])
  (.seq (.reg [i (.load false 1 (e 1)), i (.load false 1 (e 1)), i (.len (l 1)), i (.bin .sub (l 2) (e 0)), i (.slice 4 (l 0) (some (l 3)) none), i (.call 358 [(l 4)] true)] [(3, l 5)])
  (.seq (.reg [i (.load false 1 (e 1)), i (.load false 1 (e 1)), i (.len (l 1)), i (.bin .sub (l 2) (e 0)), i (.slice 4 (l 0) none (some (l 3))), i (.store 1 (e 1) (l 4))] [])
  (.seq (.reg [] [(2, e 3)])
  .ret))))
def f_expr_over_api_Value_1 : AFunc := ⟨4, 2, .keep, [.env 2], b_expr_over_api_Value_1⟩
def b_slices_Clone_api_Value_api_Value : ACode :=
  (.seq (.reg [i (.mov (v (.nil0)))] [(1, l 0)])
  (.seq (.seq (.reg [i (.nils false (e 0))] [(2, l 0)])
  (.cond (e 2) (.seq (.reg [i (.mov (v (.nil0)))] [(1, l 0)])
  .ret) .skip))
  (.seq (.reg [i (.mov (v .nil0)), i (.app 4 (l 0) (e 0))] [(1, l 1)])
  .ret)))
def f_slices_Clone_api_Value_api_Value : AFunc := ⟨3, 1, .fresh 4, [.env 1], b_slices_Clone_api_Value_api_Value⟩
def b_cmp_isNaN_int : ACode :=
  (.seq (.reg [] [(1, (v (.bool false)))])
  (.seq (.reg [i (.bin .neq (e 0) (e 0))] [(1, l 0)])
  .ret))
def f_cmp_isNaN_int : AFunc := ⟨2, 1, .pure, [.env 1], b_cmp_isNaN_int⟩
def b_cmp_isNaN_int64 : ACode :=
  (.seq (.reg [] [(1, (v (.bool false)))])
  (.seq (.reg [i (.bin .neq (e 0) (e 0))] [(1, l 0)])
  .ret))
def f_cmp_isNaN_int64 : AFunc := ⟨2, 1, .pure, [.env 1], b_cmp_isNaN_int64⟩
def b_cmp_isNaN_uint64 : ACode :=
  (.seq (.reg [] [(1, (v (.bool false)))])
  (.seq (.reg [i (.bin .neq (e 0) (e 0))] [(1, l 0)])
  .ret))
def f_cmp_isNaN_uint64 : AFunc := ⟨2, 1, .pure, [.env 1], b_cmp_isNaN_uint64⟩
def b_cmp_isNaN_string : ACode :=
  (.seq (.reg [] [(1, (v (.bool false)))])
  (.seq (.reg [i (.bin .neq (e 0) (e 0))] [(1, l 0)])
  .ret))
def f_cmp_isNaN_string : AFunc := ⟨2, 1, .pure, [.env 1], b_cmp_isNaN_string⟩
def l_slices_IndexFunc_api_Row_api_Value_0 : ACode :=
  (.seq (.reg [i (.bin .lss (e 5) (e 4))] [(6, l 0)])
  (.seq (.cond (e 6) .skip (.exit 0))
  (.seq (.blk 1 (.seq (.reg [] [(3, e 5)])
  (.seq (.reg [i (.idxs 4 (e 0) (e 3)), i (.load true 4 (l 0)), i (.callv (e 1) [(l 1)])] [(7, l 2)])
  (.cond (e 7) (.seq (.reg [] [(2, e 3)])
  .ret) .skip))))
  (.reg [i (.bin .add (e 5) (v (.int .i64 1)))] [(5, l 0)]))))
def b_slices_IndexFunc_api_Row_api_Value : ACode :=
  (.seq (.reg [] [(2, (v (.int .i64 0)))])
  (.seq (.seq (.reg [i (.len (e 0))] [(4, l 0), (5, (v (.int .i64 0)))])
  (.blk 0 (.loop [2, 3, 6, 7] l_slices_IndexFunc_api_Row_api_Value_0)))
  (.seq (.reg [] [(2, (v (.int .i64 (-1))))])
  .ret)))
def f_slices_IndexFunc_api_Row_api_Value : AFunc := ⟨8, 2, .pure, [.env 2], b_slices_IndexFunc_api_Row_api_Value⟩
def b_value_Bool : ACode :=
  (.seq (.reg [i (.box 4 (v (.agg [.int .i64 0, .int .i64 0, .int .u64 0, .str []])))] [(1, l 0)])
  (.seq (.reg [i (.build [.int .i64 0, .int .i64 0, .int .u64 0, .str []] [(0, 1, (v (.int .i64 1)))]), i (.box 4 (v (.agg [.int .i64 0, .int .i64 0, .int .u64 0, .str []]))), i (.store 4 (l 1) (l 0))] [(2, l 1)])
  (.seq (.seq (.reg [] [(3, e 0)])
  (.cond (e 3) (.reg [i (.fld 1 (e 2)), i (.store 1 (l 0) (v (.int .i64 1)))] []) .skip))
  (.seq (.reg [i (.load true 4 (e 2)), i (.store 4 (e 1) (l 0))] [])
  .ret))))
def f_value_Bool : AFunc := ⟨4, 1, .pure, [.cell true 4 1], b_value_Bool⟩
def b_slices_Grow_int_int : ACode :=
  (.seq (.reg [i (.mov (v (.nil0)))] [(2, l 0)])
  (.seq (.seq (.reg [i (.bin .lss (e 1) (v (.int .i64 0)))] [(3, l 0)])
  (.cond (e 3) (.reg [i (.bad), i (.bad)] []) .skip))
  (.seq (.seq (.reg [i (.cap (e 0)), i (.len (e 0)), i (.bin .sub (l 0) (l 1)), i (.bin .sub (e 1) (l 2))] [(1, l 3)])
  (.seq (.reg [i (.bin .gtr (e 1) (v (.int .i64 0)))] [(4, l 0)])
  (.cond (e 4) (.reg [i (.cap (e 0)), i (.slice 1 (e 0) none (some (l 0))), i (.appz 1 (.int .i64 0) (l 1) (e 1)), i (.len (e 0)), i (.slice 1 (l 2) none (some (l 3)))] [(0, l 4)]) .skip)))
  (.seq (.reg [] [(2, e 0)])
  .ret))))
def f_slices_Grow_int_int : AFunc := ⟨5, 2, .keep, [.env 2], b_slices_Grow_int_int⟩
def l_expr_over_int_0 : ACode :=
  (.seq (.reg [i (.bin .lss (e 14) (e 13))] [(15, l 0)])
  (.seq (.cond (e 15) .skip (.exit 0))
  (.seq (.blk 1 (.seq (.reg [i (.idxs 8 (e 12) (e 14)), i (.load true 8 (l 0)), i (.box 8 (v (.agg [.int .i64 0, .int .i64 0, .int .i64 0, .int .i64 0, .int .i64 0, .int .i64 0, .int .u64 0, .str []]))), i (.store 8 (l 2) (l 1))] [(9, l 2)])
  (.seq (.regd [i (.load true 8 (e 9)), i (.fld 0 (e 9)), i (.load false 1 (l 1)), i (.call 247 [(l 2)] false), i (.callv (e 7) [(l 3)]), i (.callv (e 1) [(l 0), (l 4)]), i (.ext 0 (l 5)), i (.ext 1 (l 5))] [(10, l 6), (11, l 7)] [(0, 5)])
  (.seq (.seq (.reg [i (.bin .neq (e 11) (v (.int .i64 0)))] [(16, l 0)])
  (.cond (e 16) (.seq (.reg [] [(8, e 11)])
  (.exit 0)) .skip))
  (.reg [i (.load false 1 (e 5)), i (.mkl 1 [(e 10)]), i (.app 1 (l 0) (l 1)), i (.store 1 (e 5) (l 2))] [])))))
  (.reg [i (.bin .add (e 14) (v (.int .i64 1)))] [(14, l 0)]))))
def b_expr_over_int : ACode :=
  (.seq (.reg [i (.box 1 (e 0))] [(2, l 0), (3, (v (.int .i64 0))), (4, (v (.int .i64 0)))])
  (.scope (.seq (.reg [i (.box 1 (v (.nil0)))] [(5, l 0)])
  (.seq (.reg [] [(6, (v (.int .i64 0)))])
  (.seq (.reg [i (.mkfn 374 [] [(e 5)])] [(7, l 0)])
  (.seq (.reg [] [(8, (v (.int .i64 0)))])
  (.seq (.seq (.lift 5 0 1 (.reg [i (.fld 0 (e 2)), i (.load false 1 (l 0)), i (.len (l 1))] [(12, l 1), (13, l 2), (14, (v (.int .i64 0)))]))
  (.blk 0 (.loop [9, 10, 11, 15, 16] l_expr_over_int_0)))
  (.seq (.seq (.reg [i (.bin .neq (e 8) (v (.int .i64 0)))] [(17, l 0)])
  (.cond (e 17) (.seq (.reg [] [(3, e 6), (4, e 8)])
  .ret) .skip))
  (.seq (.reg [i (.load false 1 (e 5)), i (.idxs 1 (l 0) (v (.int .i64 0))), i (.load false 1 (l 1))] [(3, l 2), (4, (v (.int .i64 0)))])
  .ret)))))))))
def f_expr_over_int : AFunc := ⟨18, 2, .pure, [.env 3, .env 4], b_expr_over_int⟩
def l_expr_Kind_1_0 : ACode :=
  (.seq (.reg [i (.bin .lss (e 12) (e 11))] [(13, l 0)])
  (.seq (.cond (e 13) .skip (.exit 0))
  (.seq (.blk 1 (.seq (.reg [i (.idxs 1 (e 10) (e 12)), i (.load false 1 (l 0))] [(7, l 1)])
  (.blk 2 (.seq (.reg [i (.bin .eql (e 7) (v (.int .i64 0))), g (l 0) false (.mov (e 7)), g (l 0) false (.mov (e 6)), g (l 0) false (.bin .eql (l 1) (l 2)), i (.pick (l 0) (v (.bool true)) (l 3))] [(14, l 4)])
  (.cond (e 14) .skip (.seq (.reg [i (.bin .eql (e 6) (v (.int .i64 0)))] [(15, l 0)])
  (.cond (e 15) (.reg [] [(6, e 7)]) (.reg [] [(6, (v (.int .i64 (-1))))]))))))))
  (.reg [i (.bin .add (e 12) (v (.int .i64 1)))] [(12, l 0)]))))
def b_expr_Kind_1 : ACode :=
  (.seq (.reg [i (.box 8 (e 0))] [(3, l 0), (4, (v (.int .i64 0))), (5, (v (.int .i64 0)))])
  (.seq (.reg [] [(6, (v (.int .i64 0)))])
  (.seq (.seq (.reg [i (.len (e 1))] [(10, e 1), (11, l 0), (12, (v (.int .i64 0)))])
  (.blk 0 (.loop [7, 13, 14, 15] l_expr_Kind_1_0)))
  (.seq (.reg [] [(8, e 6)])
  (.seq (.reg [] [(9, (v (.int .i64 1)))])
  (.seq (.blk 3 (.seq (.reg [i (.fld 0 (e 3)), i (.load false 1 (l 0)), i (.bin .eql (l 1) (v (.int .i64 1)))] [(16, l 2)])
  (.cond (e 16) (.seq (.reg [i (.fld 4 (e 3)), i (.fld 0 (l 0)), i (.load false 1 (l 1))] [(4, l 2), (5, (v (.int .i64 0)))])
  .ret) (.seq (.reg [i (.fld 0 (e 3)), i (.load false 1 (l 0)), i (.bin .eql (l 1) (v (.int .i64 2)))] [(17, l 2)])
  (.cond (e 17) (.seq (.reg [i (.load false 1 (e 2)), i (.fld 3 (e 3)), i (.load false 1 (l 1)), i (.idxs 1 (l 0) (l 2)), i (.load false 1 (l 3))] [(4, l 4), (5, (v (.int .i64 0)))])
  .ret) (.seq (.reg [i (.fld 0 (e 3)), i (.load false 1 (l 0)), i (.call 375 [(l 1)] false)] [(18, l 2)])
  (.cond (e 18) (.reg [] [(8, (v (.int .i64 2))), (9, (v (.int .i64 2)))]) (.seq (.reg [i (.fld 0 (e 3)), i (.load false 1 (l 0)), i (.bin .eql (l 1) (v (.int .i64 5))), g (l 2) false (.fld 0 (e 3)), g (l 2) false (.load false 1 (l 3)), g (l 2) false (.bin .eql (l 4) (v (.int .i64 22))), i (.pick (l 2) (v (.bool true)) (l 5)), g (l 6) false (.fld 0 (e 3)), g (l 6) false (.load false 1 (l 7)), g (l 6) false (.bin .eql (l 8) (v (.int .i64 23))), i (.pick (l 6) (v (.bool true)) (l 9))] [(19, l 10)])
  (.cond (e 19) (.reg [] [(8, (v (.int .i64 1)))]) .skip)))))))))
  (.seq (.seq (.reg [i (.bin .eql (e 6) (v (.int .i64 (-1)))), g (l 0) false (.mov (e 6)), g (l 0) false (.bin .neq (l 1) (v (.int .i64 0))), g (l 0) false (.mov (l 2)), g (l 3) true (.mov (e 6)), g (l 3) true (.mov (e 8)), g (l 3) true (.bin .neq (l 4) (l 5)), g (l 0) false (.pick (l 3) (l 6) (v (.bool false))), i (.pick (l 0) (v (.bool true)) (l 7))] [(20, l 8)])
  (.cond (e 20) (.seq (.reg [] [(4, (v (.int .i64 0))), (5, (v (.int .i64 201)))])
  .ret) .skip))
  (.seq (.reg [] [(4, e 9), (5, (v (.int .i64 0)))])
  .ret))))))))
def f_expr_Kind_1 : AFunc := ⟨21, 3, .pure, [.env 4, .env 5], b_expr_Kind_1⟩
def b_expr_arithmetic : ACode :=
  (.seq (.reg [] [(1, (v (.bool false)))])
  (.seq (.reg [i (.bin .eql (e 0) (v (.int .i64 4))), g (l 0) false (.mov (e 0)), g (l 0) false (.bin .geq (l 1) (v (.int .i64 12))), g (l 0) false (.mov (l 2)), g (l 3) true (.mov (e 0)), g (l 3) true (.bin .leq (l 4) (v (.int .i64 15))), g (l 0) false (.pick (l 3) (l 5) (v (.bool false))), i (.pick (l 0) (v (.bool true)) (l 6))] [(1, l 7)])
  .ret))
def f_expr_arithmetic : AFunc := ⟨2, 1, .pure, [.env 1], b_expr_arithmetic⟩
def b_expr_turned_1 : ACode :=
  (.seq (.reg [i (.box 4 (e 0)), i (.box 4 (e 1)), i (.box 4 (v (.agg [.int .i64 0, .int .i64 0, .int .u64 0, .str []])))] [(3, l 0), (4, l 1), (5, l 2), (6, (v (.int .i64 0)))])
  (.seq (.reg [i (.load false 1 (e 2)), i (.load true 4 (e 4)), i (.load true 4 (e 3)), i (.callv (l 0) [(l 1), (l 2)]), i (.ext 0 (l 3)), i (.ext 1 (l 3)), i (.store 4 (e 5) (l 4))] [(6, l 5)])
  .ret))
def f_expr_turned_1 : AFunc := ⟨7, 3, .pure, [.cell true 4 5, .env 6], b_expr_turned_1⟩
def b_value_held : ACode :=
  (.seq (.reg [i (.box 4 (e 0)), i (.box 4 (e 1)), i (.box 4 (v (.agg [.int .i64 0, .int .i64 0, .int .u64 0, .str []])))] [(3, l 0), (4, l 1), (5, l 2), (6, (v (.int .i64 0)))])
  (.seq (.seq (.reg [i (.load true 4 (e 3)), i (.load true 4 (e 4)), i (.mkl 4 [(l 0), (l 1)]), i (.call 387 [(l 2)] false)] [(7, l 3)])
  (.seq (.reg [i (.bin .neq (e 7) (v (.int .i64 0)))] [(9, l 0)])
  (.cond (e 9) (.seq (.reg [i (.build [.int .i64 0, .int .i64 0, .int .u64 0, .str []] []), i (.store 4 (e 5) (l 0))] [(6, e 7)])
  .ret) .skip)))
  (.seq (.reg [i (.fld 0 (e 3)), i (.load false 1 (l 0)), i (.bin .eql (l 1) (v (.int .i64 0))), g (l 2) false (.fld 0 (e 4)), g (l 2) false (.load false 1 (l 3)), g (l 2) false (.bin .eql (l 4) (v (.int .i64 0))), i (.pick (l 2) (v (.bool true)) (l 5))] [(8, l 6)])
  (.seq (.blk 0 (.seq (.reg [i (.fld 0 (e 3)), i (.load false 1 (l 0)), i (.bin .eql (l 1) (v (.int .i64 4))), g (l 2) false (.fld 0 (e 4)), g (l 2) false (.load false 1 (l 3)), g (l 2) false (.bin .eql (l 4) (v (.int .i64 4))), i (.pick (l 2) (v (.bool true)) (l 5)), g (l 6) false (.mov (e 8)), g (l 6) false (.una .not (l 7)), g (l 6) false (.mov (l 8)), g (l 9) true (.fld 0 (e 3)), g (l 9) true (.load false 1 (l 10)), g (l 9) true (.fld 0 (e 4)), g (l 9) true (.load false 1 (l 12)), g (l 9) true (.bin .neq (l 11) (l 13)), g (l 6) false (.pick (l 9) (l 14) (v (.bool false))), i (.pick (l 6) (v (.bool true)) (l 15))] [(10, l 16)])
  (.cond (e 10) (.seq (.reg [i (.build [.int .i64 0, .int .i64 0, .int .u64 0, .str []] []), i (.store 4 (e 5) (l 0))] [(6, (v (.int .i64 2)))])
  .ret) (.seq (.reg [] [(11, e 8)])
  (.cond (e 11) (.seq (.reg [i (.call 202 [] false), i (.store 4 (e 5) (l 0))] [(6, (v (.int .i64 0)))])
  .ret) .skip)))))
  (.seq (.reg [i (.load true 4 (e 3)), i (.load true 4 (e 4)), i (.call 386 [(l 0), (l 1)] false), i (.callv (e 2) [(l 2)]), i (.call 321 [(l 3)] false), i (.store 4 (e 5) (l 4))] [(6, (v (.int .i64 0)))])
  .ret)))))
def f_value_held : AFunc := ⟨12, 3, .pure, [.cell true 4 5, .env 6], b_value_held⟩
def b_value_Less_1 : ACode :=
  (.seq (.reg [] [(1, (v (.bool false)))])
  (.seq (.reg [i (.bin .lss (e 0) (v (.int .i64 0)))] [(1, l 0)])
  .ret))
def f_value_Less_1 : AFunc := ⟨2, 1, .pure, [.env 1], b_value_Less_1⟩
def b_expr_first_1 : ACode :=
  (.seq (.reg [i (.box 4 (e 0)), i (.box 4 (e 1)), i (.box 4 (v (.agg [.int .i64 0, .int .i64 0, .int .u64 0, .str []])))] [(3, l 0), (4, l 2), (5, (v (.int .i64 0)))])
  (.seq (.reg [i (.load false 1 (e 2)), i (.load true 4 (e 3)), i (.callv (l 0) [(l 1)]), i (.ext 0 (l 2)), i (.ext 1 (l 2)), i (.store 4 (e 4) (l 3))] [(5, l 4)])
  .ret))
def f_expr_first_1 : AFunc := ⟨6, 3, .pure, [.cell true 4 4, .env 5], b_expr_first_1⟩
def l_value_logic_0 : ACode :=
  (.seq (.reg [i (.bin .lss (e 10) (e 9))] [(11, l 0)])
  (.seq (.cond (e 11) .skip (.exit 0))
  (.seq (.blk 1 (.seq (.reg [i (.idxs 4 (e 8) (e 10)), i (.load true 4 (l 0)), i (.box 4 (v (.agg [.int .i64 0, .int .i64 0, .int .u64 0, .str []]))), i (.store 4 (l 2) (l 1))] [(6, l 2)])
  (.seq (.seq (.reg [i (.fld 0 (e 6)), i (.load false 1 (l 0)), i (.bin .gtr (l 1) (v (.int .i64 1)))] [(12, l 2)])
  (.cond (e 12) (.seq (.reg [i (.build [.int .i64 0, .int .i64 0, .int .u64 0, .str []] []), i (.store 4 (e 2) (l 0))] [(3, (v (.int .i64 2)))])
  .ret) .skip))
  (.reg [i (.load true 4 (e 6)), i (.call 388 [(l 0)] false), i (.mkl 1 [(l 1)]), i (.app 1 (e 5) (l 2))] [(5, l 3)]))))
  (.reg [i (.bin .add (e 10) (v (.int .i64 1)))] [(10, l 0)]))))
def b_value_logic : ACode :=
  (.seq (.reg [i (.box 4 (v (.agg [.int .i64 0, .int .i64 0, .int .u64 0, .str []])))] [(2, l 0), (3, (v (.int .i64 0)))])
  (.seq (.seq (.reg [i (.call 387 [(e 1)] false)] [(4, l 0)])
  (.seq (.reg [i (.bin .neq (e 4) (v (.int .i64 0)))] [(7, l 0)])
  (.cond (e 7) (.seq (.reg [i (.build [.int .i64 0, .int .i64 0, .int .u64 0, .str []] []), i (.store 4 (e 2) (l 0))] [(3, e 4)])
  .ret) .skip)))
  (.seq (.reg [i (.mknil 1)] [(5, l 0)])
  (.seq (.seq (.reg [i (.len (e 1))] [(8, e 1), (9, l 0), (10, (v (.int .i64 0)))])
  (.blk 0 (.loop [3, 6, 11, 12] l_value_logic_0)))
  (.seq (.reg [i (.callv (e 0) [(e 5)]), i (.idxa 3 4 (v (.cptr false (.agg [.int .i64 1, .int .i64 0, .int .u64 0, .str [], .int .i64 0, .int .i64 0, .int .u64 0, .str [], .int .i64 1, .int .i64 1, .int .u64 0, .str []]) 0)) (l 0)), i (.load true 4 (l 1)), i (.store 4 (e 2) (l 2))] [(3, (v (.int .i64 0)))])
  .ret)))))
def f_value_logic : AFunc := ⟨13, 2, .pure, [.cell true 4 2, .env 3], b_value_logic⟩
def b_value_Not_1 : ACode :=
  (.seq (.reg [] [(1, (v (.int .i64 0)))])
  (.seq (.reg [i (.idxs 1 (e 0) (v (.int .i64 0))), i (.load false 1 (l 0)), i (.bin .sub (v (.int .i64 2)) (l 1))] [(1, l 2)])
  .ret))
def f_value_Not_1 : AFunc := ⟨2, 1, .pure, [.env 1], b_value_Not_1⟩
def b_expr_null_1 : ACode :=
  (.seq (.reg [i (.box 4 (e 0)), i (.box 4 (e 1)), i (.box 4 (v (.agg [.int .i64 0, .int .i64 0, .int .u64 0, .str []])))] [(3, l 0), (4, l 2), (5, (v (.int .i64 0)))])
  (.seq (.reg [i (.fld 0 (e 3)), i (.load false 1 (l 0)), i (.bin .eql (l 1) (v (.int .i64 0))), i (.load false 1 (e 2)), i (.eqb false (l 2) (l 3)), i (.call 321 [(l 4)] false), i (.store 4 (e 4) (l 5))] [(5, (v (.int .i64 0)))])
  .ret))
def f_expr_null_1 : AFunc := ⟨6, 3, .pure, [.cell true 4 4, .env 5], b_expr_null_1⟩
def b_arith_do : ACode :=
  (.seq (.reg [i (.box 4 (e 0)), i (.box 4 (e 1)), i (.box 4 (v (.agg [.int .i64 0, .int .i64 0, .int .u64 0, .str []])))] [(3, l 0), (4, l 1), (5, l 2), (6, (v (.int .i64 0)))])
  (.seq (.seq (.reg [i (.load true 4 (e 3)), i (.load true 4 (e 4)), i (.mkl 4 [(l 0), (l 1)]), i (.call 210 [(v (.int .i64 2)), (l 2)] false)] [(7, l 3)])
  (.seq (.reg [i (.bin .neq (e 7) (v (.int .i64 0)))] [(10, l 0)])
  (.cond (e 10) (.seq (.reg [i (.build [.int .i64 0, .int .i64 0, .int .u64 0, .str []] []), i (.store 4 (e 5) (l 0))] [(6, e 7)])
  .ret) .skip)))
  (.seq (.seq (.reg [i (.fld 0 (e 3)), i (.load false 1 (l 0)), i (.bin .eql (l 1) (v (.int .i64 0))), g (l 2) false (.fld 0 (e 4)), g (l 2) false (.load false 1 (l 3)), g (l 2) false (.bin .eql (l 4) (v (.int .i64 0))), i (.pick (l 2) (v (.bool true)) (l 5))] [(11, l 6)])
  (.cond (e 11) (.seq (.reg [i (.call 202 [] false), i (.store 4 (e 5) (l 0))] [(6, (v (.int .i64 0)))])
  .ret) .skip))
  (.seq (.reg [i (.fld 1 (e 3)), i (.load false 1 (l 0)), i (.fld 1 (e 4)), i (.load false 1 (l 2)), i (.callv (e 2) [(l 1), (l 3)]), i (.ext 0 (l 4)), i (.ext 1 (l 4))] [(8, l 5), (9, l 6)])
  (.seq (.seq (.reg [i (.una .not (e 9))] [(12, l 0)])
  (.cond (e 12) (.seq (.reg [i (.build [.int .i64 0, .int .i64 0, .int .u64 0, .str []] []), i (.store 4 (e 5) (l 0))] [(6, (v (.int .i64 140)))])
  .ret) .skip))
  (.seq (.reg [i (.call 149 [(e 8)] false), i (.store 4 (e 5) (l 0))] [(6, (v (.int .i64 0)))])
  .ret))))))
def f_arith_do : AFunc := ⟨13, 3, .pure, [.cell true 4 5, .env 6], b_arith_do⟩
def b_arith_Add_1 : ACode :=
  (.seq (.reg [] [(2, (v (.int .i64 0))), (3, (v (.bool false)))])
  (.seq (.reg [i (.bin .add (e 0) (e 1))] [(4, l 0)])
  (.seq (.reg [i (.bin .xor (e 0) (e 4)), i (.bin .xor (e 1) (e 4)), i (.bin .and (l 0) (l 1)), i (.bin .geq (l 2) (v (.int .i64 0)))] [(2, e 4), (3, l 3)])
  .ret)))
def f_arith_Add_1 : AFunc := ⟨5, 2, .pure, [.env 2, .env 3], b_arith_Add_1⟩
def b_arith_Sub_1 : ACode :=
  (.seq (.reg [] [(2, (v (.int .i64 0))), (3, (v (.bool false)))])
  (.seq (.reg [i (.bin .sub (e 0) (e 1))] [(4, l 0)])
  (.seq (.reg [i (.bin .xor (e 0) (e 1)), i (.bin .xor (e 0) (e 4)), i (.bin .and (l 0) (l 1)), i (.bin .geq (l 2) (v (.int .i64 0)))] [(2, e 4), (3, l 3)])
  .ret)))
def f_arith_Sub_1 : AFunc := ⟨5, 2, .pure, [.env 2, .env 3], b_arith_Sub_1⟩
def b_arith_Mul_1 : ACode :=
  (.seq (.reg [] [(2, (v (.int .i64 0))), (3, (v (.bool false)))])
  (.seq (.reg [i (.call 390 [(e 0)] false), i (.call 390 [(e 1)] false), i (.call 257 [(l 0), (l 1)] false), i (.ext 0 (l 2)), i (.ext 1 (l 2))] [(4, l 3), (5, l 4)])
  (.seq (.reg [i (.bin .lss (e 0) (v (.int .i64 0))), i (.bin .lss (e 1) (v (.int .i64 0))), i (.eqb true (l 0) (l 1)), i (.call 389 [(e 5), (l 2)] false), i (.ext 0 (l 3)), i (.ext 1 (l 3))] [(6, l 4), (7, l 5)])
  (.seq (.reg [g (e 7) true (.mov (e 4)), g (e 7) true (.bin .eql (l 0) (v (.int .u64 0))), i (.pick (e 7) (l 1) (v (.bool false)))] [(2, e 6), (3, l 2)])
  .ret))))
def f_arith_Mul_1 : AFunc := ⟨8, 2, .pure, [.env 2, .env 3], b_arith_Mul_1⟩
def b_arith_size : ACode :=
  (.seq (.reg [] [(1, (v (.int .u64 0)))])
  (.seq (.seq (.reg [i (.bin .lss (e 0) (v (.int .i64 0)))] [(2, l 0)])
  (.cond (e 2) (.seq (.reg [i (.conv .u64 (e 0)), i (.una .neg (l 0))] [(1, l 1)])
  .ret) .skip))
  (.seq (.reg [i (.conv .u64 (e 0))] [(1, l 0)])
  .ret)))
def f_arith_size : AFunc := ⟨3, 1, .pure, [.env 1], b_arith_size⟩
def b_arith_signed : ACode :=
  (.seq (.reg [] [(2, (v (.int .i64 0))), (3, (v (.bool false)))])
  (.seq (.seq (.reg [] [(4, e 1)])
  (.cond (e 4) (.seq (.reg [i (.una .neg (e 0)), i (.conv .i64 (l 0)), i (.bin .leq (e 0) (v (.int .u64 9223372036854775808)))] [(2, l 1), (3, l 2)])
  .ret) .skip))
  (.seq (.reg [i (.conv .i64 (e 0)), i (.bin .leq (e 0) (v (.int .u64 9223372036854775807)))] [(2, l 0), (3, l 1)])
  .ret)))
def f_arith_signed : AFunc := ⟨5, 2, .pure, [.env 2, .env 3], b_arith_signed⟩
def b_arith_Div_1 : ACode :=
  (.seq (.reg [] [(2, (v (.int .i64 0))), (3, (v (.bool false)))])
  (.seq (.seq (.reg [i (.bin .eql (e 1) (v (.int .i64 0)))] [(4, l 0)])
  (.cond (e 4) (.seq (.reg [] [(2, (v (.int .i64 0))), (3, (v (.bool false)))])
  .ret) .skip))
  (.seq (.reg [i (.call 390 [(e 0)] false), i (.call 390 [(e 1)] false), i (.bin .quo (l 0) (l 1)), i (.bin .lss (e 0) (v (.int .i64 0))), i (.bin .lss (e 1) (v (.int .i64 0))), i (.eqb true (l 3) (l 4)), i (.call 389 [(l 2), (l 5)] false), i (.ext 0 (l 6)), i (.ext 1 (l 6))] [(2, l 7), (3, l 8)])
  .ret)))
def f_arith_Div_1 : AFunc := ⟨5, 2, .pure, [.env 2, .env 3], b_arith_Div_1⟩
def b_value_Equal_1 : ACode :=
  (.seq (.reg [] [(1, (v (.bool false)))])
  (.seq (.reg [i (.bin .eql (e 0) (v (.int .i64 0)))] [(1, l 0)])
  .ret))
def f_value_Equal_1 : AFunc := ⟨2, 1, .pure, [.env 1], b_value_Equal_1⟩
def b_expr_not_1 : ACode :=
  (.seq (.reg [i (.box 4 (e 0)), i (.box 4 (e 1)), i (.box 4 (v (.agg [.int .i64 0, .int .i64 0, .int .u64 0, .str []])))] [(3, l 0), (4, l 1), (5, l 2), (6, (v (.int .i64 0)))])
  (.seq (.reg [i (.load false 1 (e 2)), i (.load true 4 (e 3)), i (.load true 4 (e 4)), i (.callv (l 0) [(l 1), (l 2)]), i (.ext 0 (l 3)), i (.ext 1 (l 3)), i (.box 4 (v (.agg [.int .i64 0, .int .i64 0, .int .u64 0, .str []]))), i (.store 4 (l 6) (l 4))] [(7, l 6), (8, l 5)])
  (.seq (.seq (.reg [i (.bin .neq (e 8) (v (.int .i64 0)))] [(9, l 0)])
  (.cond (e 9) (.seq (.reg [i (.load true 4 (e 7)), i (.store 4 (e 5) (l 0))] [(6, e 8)])
  .ret) .skip))
  (.seq (.reg [i (.load true 4 (e 7)), i (.call 285 [(l 0)] false), i (.ext 0 (l 1)), i (.ext 1 (l 1)), i (.store 4 (e 5) (l 2))] [(6, l 3)])
  .ret))))
def f_expr_not_1 : AFunc := ⟨10, 3, .pure, [.cell true 4 5, .env 6], b_expr_not_1⟩
def b_value_And_1 : ACode :=
  (.seq (.reg [] [(1, (v (.int .i64 0)))])
  (.seq (.reg [i (.idxs 1 (e 0) (v (.int .i64 0))), i (.load false 1 (l 0)), i (.idxs 1 (e 0) (v (.int .i64 1))), i (.load false 1 (l 2)), i (.mins (l 1) [(l 3)])] [(1, l 4)])
  .ret))
def f_value_And_1 : AFunc := ⟨2, 1, .pure, [.env 1], b_value_And_1⟩
def b_value_Or_1 : ACode :=
  (.seq (.reg [] [(1, (v (.int .i64 0)))])
  (.seq (.reg [i (.idxs 1 (e 0) (v (.int .i64 0))), i (.load false 1 (l 0)), i (.idxs 1 (e 0) (v (.int .i64 1))), i (.load false 1 (l 2)), i (.maxs (l 1) [(l 3)])] [(1, l 4)])
  .ret))
def f_value_Or_1 : AFunc := ⟨2, 1, .pure, [.env 1], b_value_Or_1⟩
def b_expr_over_int_1 : ACode :=
  (.seq (.reg [i (.mov (v (.nil0)))] [(2, l 0)])
  (.seq (.reg [i (.load false 1 (e 1)), i (.load false 1 (e 1)), i (.len (l 1)), i (.bin .sub (l 2) (e 0)), i (.slice 1 (l 0) (some (l 3)) none), i (.call 95 [(l 4)] true)] [(3, l 5)])
  (.seq (.reg [i (.load false 1 (e 1)), i (.load false 1 (e 1)), i (.len (l 1)), i (.bin .sub (l 2) (e 0)), i (.slice 1 (l 0) none (some (l 3))), i (.store 1 (e 1) (l 4))] [])
  (.seq (.reg [] [(2, e 3)])
  .ret))))
def f_expr_over_int_1 : AFunc := ⟨4, 2, .keep, [.env 2], b_expr_over_int_1⟩
def l_value_right_0 : ACode :=
  (.seq (.reg [i (.bin .lss (e 6) (e 5))] [(7, l 0)])
  (.seq (.cond (e 7) .skip (.exit 0))
  (.seq (.blk 1 (.seq (.reg [i (.idxs 4 (e 4) (e 6)), i (.load true 4 (l 0)), i (.box 4 (v (.agg [.int .i64 0, .int .i64 0, .int .u64 0, .str []]))), i (.store 4 (l 2) (l 1))] [(2, l 2)])
  (.seq (.reg [i (.load true 4 (e 2)), i (.call 255 [(l 0)] false)] [(3, l 1)])
  (.seq (.reg [i (.bin .neq (e 3) (v (.int .i64 0)))] [(8, l 0)])
  (.cond (e 8) (.seq (.reg [] [(1, e 3)])
  .ret) .skip)))))
  (.reg [i (.bin .add (e 6) (v (.int .i64 1)))] [(6, l 0)]))))
def b_value_right : ACode :=
  (.seq (.reg [] [(1, (v (.int .i64 0)))])
  (.seq (.seq (.reg [i (.len (e 0))] [(4, e 0), (5, l 0), (6, (v (.int .i64 0)))])
  (.blk 0 (.loop [1, 2, 3, 7, 8] l_value_right_0)))
  (.seq (.reg [] [(1, (v (.int .i64 0)))])
  .ret)))
def f_value_right : AFunc := ⟨9, 1, .pure, [.env 1], b_value_right⟩
def b_value_Compare : ACode :=
  (.seq (.reg [i (.box 4 (e 0)), i (.box 4 (e 1))] [(2, l 0), (3, l 1), (4, (v (.int .i64 0)))])
  (.seq (.seq (.reg [i (.load true 4 (e 2)), i (.call 206 [(l 0)] false), i (.una .not (l 1)), g (l 2) false (.load true 4 (e 3)), g (l 2) false (.call 206 [(l 3)] false), g (l 2) false (.una .not (l 4)), i (.pick (l 2) (v (.bool true)) (l 5))] [(5, l 6)])
  (.cond (e 5) (.seq (.reg [] [(4, (v (.int .i64 0)))])
  .ret) .skip))
  (.seq (.reg [i (.fld 0 (e 2)), i (.load false 1 (l 0)), i (.fld 0 (e 3)), i (.load false 1 (l 2)), i (.call 242 [(l 1), (l 3)] false), i (.fld 1 (e 2)), i (.load false 1 (l 5)), i (.fld 1 (e 3)), i (.load false 1 (l 7)), i (.call 243 [(l 6), (l 8)] false), i (.fld 3 (e 2)), i (.load false 1 (l 10)), i (.fld 3 (e 3)), i (.load false 1 (l 12)), i (.call 398 [(l 11), (l 13)] false), i (.mkl 1 [(l 4), (l 9), (l 14)]), i (.call 141 [(l 15)] false)] [(4, l 16)])
  .ret)))
def f_value_Compare : AFunc := ⟨6, 2, .pure, [.env 4], b_value_Compare⟩
def b_value_truth : ACode :=
  (.seq (.reg [i (.box 4 (e 0))] [(1, l 0), (2, (v (.int .i64 0)))])
  (.seq (.seq (.reg [i (.fld 0 (e 1)), i (.load false 1 (l 0)), i (.bin .eql (l 1) (v (.int .i64 0)))] [(3, l 2)])
  (.cond (e 3) (.seq (.reg [] [(2, (v (.int .i64 1)))])
  .ret) .skip))
  (.seq (.reg [i (.fld 1 (e 1)), i (.load false 1 (l 0)), i (.bin .mul (v (.int .i64 2)) (l 1))] [(2, l 2)])
  .ret)))
def f_value_truth : AFunc := ⟨4, 1, .pure, [.env 2], b_value_truth⟩
def b_strings_Compare : ACode :=
  (.seq (.reg [] [(2, (v (.int .i64 0)))])
  (.seq (.reg [i (.call 401 [(e 0), (e 1)] false)] [(2, l 0)])
  .ret))
def f_strings_Compare : AFunc := ⟨3, 2, .pure, [.env 2], b_strings_Compare⟩
def b_internal_bytealg_CompareString : ACode :=
  (.seq (.reg [] [(2, (v (.int .i64 0)))])
  (.seq (.reg [i (.call 402 [(e 0), (e 1)] false)] [(2, l 0)])
  .ret))
def f_internal_bytealg_CompareString : AFunc := ⟨3, 2, .pure, [.env 2], b_internal_bytealg_CompareString⟩
def tbl : List AEntry := [
.none,
.none,
.fn f_exec_Run,
.fn f_blaw20_num,
.none,
.fn f_bref10_Made,
.fn f_blaw20_wakes,
.fn f_blaw20_alike,
.fn f_denote_Sort,
.none,
.fn f_blaw20_cut_api_Ord,
.fn f_blaw20_rows,
.fn f_bref05_Same,
.none,
.none,
.none,
.none,
.fn f_exec_Partial,
.fn f_blaw20_nodes,
.fn f_denote_Aggregate,
.fn f_row_Groups,
.none,
.none,
.none,
.none,
.none,
.fn f_blaw20_frag,
.none,
.fn f_row_Hash,
.fn f_row_Sorted,
.fn f_row_Merge,
.fn f_exec_Goes,
.none,
.none,
.fn f_bref02_Int,
.fn f_exec_does,
.fn f_exec_run_handed,
.fn f_prop_Kinds,
.fn f_blaw20_cut_api_Value,
.fn f_blaw20_cut_api_Row,
.fn f_denote_sorted,
.fn f_denote_right,
.fn f_slices_ContainsFunc_api_Row_api_Row,
.fn f_denote_Sort_1,
.fn f_row_Same,
.fn f_blaw20_short,
.fn f_blaw20_cut_int,
.fn f_blaw20_cut_api_Agg,
.fn f_blaw20_cut_api_Expr,
.fn f_blaw20_cut_api_LNode,
.fn f_exec_partial,
.fn f_exec_asked,
.fn f_exec_final,
.none,
.none,
.none,
.none,
.none,
.none,
.none,
.fn f_bref05_Compare,
.fn f_row_take,
.nilfn f_slices_Clone_api_Row_api_Row,
.round r_row_Groups_0,
.fn f_row_runs,
.fn f_row_Groups_2,
.fn f_row_Groups_1,
.prim 1,
.fn f_row_copies,
.fn f_row_asked,
.fn f_denote_aggregate,
.fn f_expr_Check,
.none,
.none,
.fn f_slices_Repeat_api_Row_api_Row,
.fn f_exec_fit,
.fn f_exec_Goes_1,
.fn f_slices_ContainsFunc_int_int,
.fn f_slices_Concat_api_Row_api_Row,
.fn f_row_lists,
.fn f_row_sorted,
.fn f_row_hash,
.fn f_row_Take,
.none,
.none,
.none,
.none,
.none,
.none,
.none,
.none,
.none,
.none,
.none,
.none,
.nilfn f_slices_Clone_int_int,
.fn f_prop_laid_takes,
.fn f_prop_asks,
.fn f_exec_run_given,
.fn f_exec_run_join,
.fn f_exec_run_filter,
.fn f_exec_run_project,
.fn f_exec_run_group,
.fn f_exec_run_partial,
.fn f_exec_run_final,
.fn f_exec_run_distinct,
.fn f_exec_run_union,
.fn f_exec_run_sort,
.fn f_denote_has,
.fn f_denote_has_1,
.fn f_slices_ContainsFunc_api_Ord_api_Ord,
.fn f_denote_right_1,
.fn f_slices_IndexFunc_api_Row_api_Row,
.fn f_denote_by,
.nilfn f_slices_Clone_api_Row_api_Value,
.fn f_slices_EqualFunc_api_Row_api_Row_api_Row_api_Row,
.fn f_row_equal,
.fn f_blaw20_cut_api_ENode,
.fn f_exec_asked_1,
.fn f_exec_grouped,
.fn f_exec_partial_1,
.fn f_exec_final_1,
.none,
.none,
.none,
.none,
.none,
.none,
.none,
.none,
.none,
.none,
.none,
.none,
.none,
.none,
.fn f_bref05_Value,
.fn f_bref05_sign,
.fn f_row_has,
.fn f_row_asked_1,
.fn f_row_order,
.fn f_cmp_Or_int,
.fn f_slices_CompareFunc_api_Row_api_Row_api_Value_api_Value,
.fn f_row_values,
.fn f_slices_Equal_api_Row_api_Value,
.fn f_row_runs_1,
.fn f_expr_firsts,
.fn f_slices_MaxFunc_api_Value_api_Value,
.fn f_denote_values,
.fn f_value_Int,
.fn f_arith_All,
.fn f_slices_MinFunc_api_Value_api_Value,
.fn f_slices_ContainsFunc_api_Value_api_Value,
.fn f_denote_aggregate_1,
.fn f_denote_args,
.none,
.none,
.none,
.none,
.none,
.fn f_slices_IndexFunc_int_int,
.fn f_exec_fit_1,
.fn f_math_bits_Mul,
.fn f_row_right,
.fn f_slices_Grow_api_Row_api_Row,
.fn f_sum_Sum32,
.fn f_row_number,
.none,
.fn f_slices_Concat_api_Row_api_Value,
.none,
.none,
.none,
.fn f_expr_Eval,
.fn f_row_Distinct,
.none,
.none,
.none,
.fn f_prop_laid_scan,
.fn f_prop_laid_input,
.fn f_prop_laid_join,
.fn f_prop_laid_filter,
.fn f_prop_laid_group,
.fn f_prop_laid_partial,
.fn f_prop_laid_final,
.fn f_prop_laid_project,
.fn f_prop_laid_keeps,
.fn f_prop_laid_union,
.fn f_prop_laid_sort,
.fn f_slices_Contains_int_int,
.fn f_prop_blank,
.fn f_prop_parts,
.fn f_exec_sorted,
.fn f_exec_holds,
.round r_exec_run_join_0,
.fn f_exec_pairs,
.fn f_exec_run_group_1,
.fn f_slices_IndexFunc_api_Ord_api_Ord,
.fn f_row_Check,
.fn f_denote_by_1,
.round r_exec_grouped_0,
.fn f_exec_groups,
.fn f_arith_Sum,
.fn f_value_Null,
.fn f_expr_Eval_1,
.fn f_expr_over_api_Value,
.fn f_expr_does,
.fn f_value_Plain,
.fn f_expr_Cols,
.fn f_arith_wide,
.fn f_arith_plus,
.fn f_arith_are,
.fn f_exec_summed,
.fn f_arith_Join,
.fn f_exec_final_1_1,
.fn f_row_Compare,
.fn f_arith_End,
.none,
.none,
.none,
.none,
.none,
.none,
.none,
.none,
.none,
.none,
.none,
.none,
.none,
.none,
.fn f_row_has_1,
.none,
.none,
.none,
.none,
.none,
.none,
.none,
.none,
.none,
.none,
.none,
.fn f_cmp_Compare_int,
.fn f_cmp_Compare_int64,
.fn f_cmp_Compare_uint64,
.fn f_cmp_Compare_string,
.fn f_expr_counts,
.fn f_expr_parts,
.fn f_slices_IndexFunc_api_Value_api_Value,
.none,
.none,
.none,
.none,
.fn f_slices_EqualFunc_api_Row_int_api_Value_int,
.fn f_exec_fit_1_1,
.fn f_value_Check,
.fn f_value_blank,
.fn f_math_bits_Mul64,
.fn f_math_bits_Mul32,
.fn f_slices_ContainsFunc_api_Row_api_Value,
.fn f_row_right_1,
.fn f_sum_Sum32_1,
.fn f_sum_steps,
.none,
.fn f_value_True,
.fn f_slices_Grow_api_Row_api_Value,
.fn f_slices_CompactFunc_api_Row_api_Row,
.none,
.none,
.none,
.none,
.none,
.fn f_prop_laid_scan_1,
.fn f_prop_laid_input_1,
.fn f_prop_truth,
.fn f_slices_Concat_int_int,
.fn f_expr_Kind,
.fn f_prop_laid_sort_1,
.fn f_slices_Index_int_int,
.fn f_exec_pairs_1,
.fn f_exec_groups_1,
.fn f_slices_Compact_int_int,
.prim 2,
.fn f_expr_first,
.fn f_arith_Neg,
.fn f_value_Not,
.fn f_expr_null,
.fn f_arith_Add,
.fn f_arith_Sub,
.fn f_arith_Mul,
.fn f_arith_Div,
.fn f_value_Equal,
.fn f_expr_not,
.fn f_value_Less,
.fn f_value_And,
.fn f_value_Or,
.fn f_expr_turned,
.fn f_expr_over_api_Value_1,
.prim 0,
.none,
.none,
.none,
.none,
.none,
.none,
.none,
.none,
.none,
.none,
.none,
.none,
.none,
.none,
.none,
.none,
.none,
.fn f_cmp_isNaN_int,
.fn f_cmp_isNaN_int64,
.fn f_cmp_isNaN_uint64,
.fn f_cmp_isNaN_string,
.fn f_slices_IndexFunc_api_Row_api_Value,
.fn f_value_Bool,
.none,
.none,
.none,
.none,
.none,
.none,
.none,
.none,
.none,
.none,
.none,
.none,
.none,
.none,
.none,
.none,
.none,
.fn f_slices_Grow_int_int,
.fn f_expr_Kind_1,
.fn f_expr_over_int,
.fn f_expr_turned_1,
.fn f_value_held,
.fn f_value_Less_1,
.fn f_expr_first_1,
.fn f_value_logic,
.fn f_value_Not_1,
.fn f_expr_null_1,
.fn f_arith_do,
.fn f_arith_Add_1,
.fn f_arith_Sub_1,
.fn f_arith_Mul_1,
.fn f_arith_Div_1,
.fn f_value_Equal_1,
.fn f_expr_not_1,
.fn f_value_And_1,
.fn f_value_Or_1,
.nilfn f_slices_Clone_api_Value_api_Value,
.none,
.none,
.none,
.none,
.none,
.none,
.none,
.none,
.none,
.none,
.none,
.none,
.none,
.none,
.none,
.fn f_expr_over_int_1,
.fn f_expr_arithmetic,
.none,
.none,
.none,
.none,
.none,
.none,
.none,
.none,
.none,
.none,
.fn f_value_Compare,
.fn f_value_right,
.fn f_value_truth,
.fn f_arith_signed,
.fn f_arith_size,
.none,
.none,
.none,
.none,
.none,
.none,
.none,
.fn f_strings_Compare,
.none,
.none,
.fn f_internal_bytealg_CompareString,
.prim 3,
.none,
.none,
.none,
.none,
.none,
.fn f_blaw20_ExecSplits,
.none,
.none,
.none,
.none,
.none,
.none,
.none,
.none,
.none,
.none,
.none,
.none,
.none,
.none,
.none,
.none,
.none,
.none,
.none,
.none,
.none,
.none,
.none,
.none,
.none,
.none,
.none,
.none,
.none,
.none,
.none,
.none,
.none,
.none,
.none,
.none,
.none,
.none,
.none,
.none,
.none,
.none,
.none,
.none,
.none,
.none,
.none,
.none,
.none,
.none,
.none,
.none,
.none,
.none,
.none,
.none,
.none,
.none,
.none,
.none,
.none,
.none,
.none,
.none,
.none,
.none,
.none,
.none,
.none,
.none,
.none,
.none,
.none,
.none,
.none,
.none,
.none,
.none,
.none,
.none,
.none,
.none,
.none,
.none,
.none,
.none,
.none,
.none,
.none,
.none,
.none,
.none,
.none,
.none,
.none,
.none,
.none,
.none,
.none,
.none,
.none,
.none,
.none,
.none,
.none,
.none,
.none,
.none,
.none,
.none,
.none,
.none,
.none,
.none,
.none,
.none,
.none,
.none,
.none,
.none,
.none,
.none,
.none,
.none,
.none,
.none]
end Go.AM.P
namespace Go.AM
def code : Code := ⟨fun n => P.tbl.getD n .none, prims⟩
end Go.AM
namespace Go.AM.I
abbrev blaw20_wakes : Nat := 6
abbrev blaw20_alike : Nat := 7
abbrev blaw20_cut_api_Ord : Nat := 10
abbrev blaw20_rows : Nat := 11
abbrev blaw20_nodes : Nat := 18
abbrev blaw20_frag : Nat := 26
abbrev row_Hash : Nat := 28
abbrev row_Sorted : Nat := 29
abbrev row_Merge : Nat := 30
abbrev exec_Goes : Nat := 31
abbrev prop_Kinds : Nat := 37
abbrev blaw20_cut_api_Value : Nat := 38
abbrev blaw20_cut_api_Row : Nat := 39
abbrev slices_ContainsFunc_api_Row_api_Row : Nat := 42
abbrev row_Same : Nat := 44
abbrev blaw20_short : Nat := 45
abbrev blaw20_cut_int : Nat := 46
abbrev blaw20_cut_api_Agg : Nat := 47
abbrev blaw20_cut_api_Expr : Nat := 48
abbrev blaw20_cut_api_LNode : Nat := 49
abbrev row_take : Nat := 61
abbrev slices_Clone_api_Row_api_Row : Nat := 62
abbrev row_copies : Nat := 68
abbrev row_asked : Nat := 69
abbrev expr_Check : Nat := 71
abbrev slices_Repeat_api_Row_api_Row : Nat := 74
abbrev exec_fit : Nat := 75
abbrev exec_Goes_1 : Nat := 76
abbrev slices_ContainsFunc_int_int : Nat := 77
abbrev slices_Concat_api_Row_api_Row : Nat := 78
abbrev row_lists : Nat := 79
abbrev row_sorted : Nat := 80
abbrev row_hash : Nat := 81
abbrev row_Take : Nat := 82
abbrev slices_Clone_int_int : Nat := 95
abbrev prop_laid_takes : Nat := 96
abbrev prop_asks : Nat := 97
abbrev slices_ContainsFunc_api_Ord_api_Ord : Nat := 110
abbrev slices_IndexFunc_api_Row_api_Row : Nat := 112
abbrev slices_Clone_api_Row_api_Value : Nat := 114
abbrev slices_EqualFunc_api_Row_api_Row_api_Row_api_Row : Nat := 115
abbrev row_equal : Nat := 116
abbrev blaw20_cut_api_ENode : Nat := 117
abbrev row_has : Nat := 138
abbrev row_asked_1 : Nat := 139
abbrev row_order : Nat := 140
abbrev cmp_Or_int : Nat := 141
abbrev slices_CompareFunc_api_Row_api_Row_api_Value_api_Value : Nat := 142
abbrev row_values : Nat := 143
abbrev slices_Equal_api_Row_api_Value : Nat := 144
abbrev expr_firsts : Nat := 146
abbrev slices_IndexFunc_int_int : Nat := 160
abbrev exec_fit_1 : Nat := 161
abbrev row_right : Nat := 163
abbrev slices_Grow_api_Row_api_Row : Nat := 164
abbrev sum_Sum32 : Nat := 165
abbrev row_number : Nat := 166
abbrev prop_laid_scan : Nat := 177
abbrev prop_laid_input : Nat := 178
abbrev prop_laid_join : Nat := 179
abbrev prop_laid_filter : Nat := 180
abbrev prop_laid_group : Nat := 181
abbrev prop_laid_partial : Nat := 182
abbrev prop_laid_final : Nat := 183
abbrev prop_laid_project : Nat := 184
abbrev prop_laid_keeps : Nat := 185
abbrev prop_laid_union : Nat := 186
abbrev prop_laid_sort : Nat := 187
abbrev slices_Contains_int_int : Nat := 188
abbrev prop_blank : Nat := 189
abbrev prop_parts : Nat := 190
abbrev slices_IndexFunc_api_Ord_api_Ord : Nat := 196
abbrev value_Plain : Nat := 206
abbrev expr_Cols : Nat := 207
abbrev row_has_1 : Nat := 230
abbrev cmp_Compare_int : Nat := 242
abbrev cmp_Compare_int64 : Nat := 243
abbrev cmp_Compare_uint64 : Nat := 244
abbrev cmp_Compare_string : Nat := 245
abbrev expr_counts : Nat := 246
abbrev expr_parts : Nat := 247
abbrev slices_EqualFunc_api_Row_int_api_Value_int : Nat := 253
abbrev exec_fit_1_1 : Nat := 254
abbrev value_Check : Nat := 255
abbrev value_blank : Nat := 256
abbrev slices_ContainsFunc_api_Row_api_Value : Nat := 259
abbrev row_right_1 : Nat := 260
abbrev sum_steps : Nat := 262
abbrev prop_laid_scan_1 : Nat := 272
abbrev prop_laid_input_1 : Nat := 273
abbrev prop_truth : Nat := 274
abbrev slices_Concat_int_int : Nat := 275
abbrev expr_Kind : Nat := 276
abbrev prop_laid_sort_1 : Nat := 277
abbrev slices_Index_int_int : Nat := 278
abbrev slices_Compact_int_int : Nat := 281
abbrev slices_Sort_int_int : Nat := 282
abbrev cmp_isNaN_int : Nat := 316
abbrev cmp_isNaN_int64 : Nat := 317
abbrev cmp_isNaN_uint64 : Nat := 318
abbrev cmp_isNaN_string : Nat := 319
abbrev slices_IndexFunc_api_Row_api_Value : Nat := 320
abbrev slices_Grow_int_int : Nat := 339
abbrev expr_Kind_1 : Nat := 340
abbrev expr_over_int : Nat := 341
abbrev slices_Clone_api_Value_api_Value : Nat := 358
abbrev expr_over_int_1 : Nat := 374
abbrev expr_arithmetic : Nat := 375
abbrev blaw20_ExecSplits : Nat := 408
end Go.AM.I
