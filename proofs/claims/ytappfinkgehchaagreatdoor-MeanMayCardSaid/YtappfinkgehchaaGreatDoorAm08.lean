/- PRINTED BY gen.py: the functions' code for the abstract machine. -/
import Derived.Test.YtappfinkgehchaaGreatDoorAm07
set_option linter.unusedVariables false
set_option linter.unusedSimpArgs false
set_option linter.unusedSectionVars false
namespace Go.AM.P
def f_expr_Check : AFunc := ⟨5, 1, .pure, [.env 2], b_expr_Check⟩
def b_prop_asks : ACode :=
  (.seq (.reg [] [(0, (v (.nilm)))])
  (.seq (.reg [i (.mkmap), i (.mput (l 0) (v (.int .i64 1)) (v (.fn 106 [] []))), i (.mput (l 0) (v (.int .i64 9)) (v (.fn 157 [] []))), i (.mput (l 0) (v (.int .i64 2)) (v (.fn 280 [] []))), i (.mput (l 0) (v (.int .i64 3)) (v (.fn 281 [] []))), i (.mput (l 0) (v (.int .i64 4)) (v (.fn 105 [] []))), i (.mput (l 0) (v (.int .i64 10)) (v (.fn 104 [] []))), i (.mput (l 0) (v (.int .i64 11)) (v (.fn 156 [] []))), i (.mput (l 0) (v (.int .i64 5)) (v (.fn 282 [] []))), i (.mput (l 0) (v (.int .i64 6)) (v (.fn 283 [] []))), i (.mput (l 0) (v (.int .i64 7)) (v (.fn 284 [] []))), i (.mput (l 0) (v (.int .i64 8)) (v (.fn 285 [] [])))] [(0, l 0)])
  .ret))
def f_prop_asks : AFunc := ⟨1, 0, .pure, [.env 0], b_prop_asks⟩
def l_prop_laid_takes_0 : ACode :=
  (.seq (.reg [i (.bin .lss (e 15) (e 14))] [(16, l 0)])
  (.seq (.cond (e 16) .skip (.exit 0))
  (.seq (.blk 1 (.seq (.reg [i (.idxs 1 (e 13) (e 15)), i (.load false 1 (l 0))] [(7, e 15), (8, l 1)])
  (.seq (.reg [i (.nilck (e 0)), i (.fld 1 (l 0)), i (.load false 1 (l 1)), i (.idxs 1 (l 2) (e 8)), i (.load false 1 (l 3))] [(9, l 4)])
  (.seq (.seq (.reg [i (.fld 0 (e 4)), i (.load false 1 (l 0)), i (.bin .neq (l 1) (v (.int .i64 11))), g (l 2) true (.mov (e 9)), g (l 2) true (.call 81 [(l 3), (v (.int .i64 4))] false), i (.pick (l 2) (l 4) (v (.bool false)))] [(17, l 5)])
  (.cond (e 17) (.seq (.reg [] [(3, (v (.bool false)))])
  .ret) .skip))
  (.seq (.reg [i (.bin .eql (e 7) (v (.int .i64 0)))] [(18, l 0)])
  (.cond (e 18) (.reg [i (.nilck (e 0)), i (.fld 15 (l 0)), i (.store 1 (l 1) (e 9))] []) (.reg [i (.nilck (e 0)), i (.fld 16 (l 0)), i (.store 1 (l 1) (e 9))] [])))))))
  (.reg [i (.bin .add (e 15) (v (.int .i64 1)))] [(15, l 0)]))))
def b_prop_laid_takes : ACode :=
  (.seq (.reg [] [(3, (v (.bool false)))])
  (.seq (.reg [i (.nilck (e 0)), i (.fld 0 (l 0)), i (.load false 1 (l 1)), i (.idxs 12 (l 2) (e 1)), i (.load true 12 (l 3)), i (.box 12 (v (.agg [.int .i64 0, .int .i64 0, .int .i64 0, .int .i64 0, .nil0, .bool false, .nil0, .nil0, .nil0, .nil0, .nil0, .int .i64 0]))), i (.store 12 (l 5) (l 4))] [(4, l 5)])
  (.seq (.reg [i (.fld 0 (e 4)), i (.load false 1 (l 0)), i (.call 18 [(l 1)] false)] [(5, l 2)])
  (.seq (.seq (.reg [i (.bin .lss (e 5) (v (.int .i64 0))), g (l 0) false (.mov (e 5)), g (l 0) false (.mov (e 0)), g (l 0) false (.nilck (l 2)), g (l 0) false (.fld 2 (l 3)), g (l 0) false (.load false 1 (l 4)), g (l 0) false (.len (l 5)), g (l 0) false (.bin .gtr (l 1) (l 6)), i (.pick (l 0) (v (.bool true)) (l 7)), g (l 8) false (.load true 12 (e 4)), g (l 8) false (.call 19 [(l 9)] false), g (l 8) false (.una .not (l 10)), i (.pick (l 8) (v (.bool true)) (l 11))] [(11, l 12)])
  (.cond (e 11) (.seq (.reg [] [(3, (v (.bool false)))])
  .ret) .skip))
  (.seq (.reg [i (.build [.int .i64 0, .int .i64 0] [(0, 1, (v (.int .i64 (-1)))), (1, 1, (v (.int .i64 (-1))))]), i (.box 2 (v (.agg [.int .i64 0, .int .i64 0]))), i (.store 2 (l 1) (l 0))] [(6, l 1)])
  (.seq (.reg [i (.aslice 2 (e 6)), i (.nilck (e 0)), i (.fld 2 (l 1)), i (.load false 1 (l 2)), i (.nilck (e 0)), i (.fld 2 (l 4)), i (.load false 1 (l 5)), i (.len (l 6)), i (.bin .sub (l 7) (e 5)), i (.slice 1 (l 3) (some (l 8)) none), i (.copy 1 (l 0) (l 9))] [])
  (.seq (.seq (.reg [i (.load true 2 (e 6)), i (.fld 1 (e 4)), i (.load false 1 (l 1)), i (.fld 2 (e 4)), i (.load false 1 (l 3)), i (.build [.int .i64 0, .int .i64 0] [(0, 1, (l 2)), (1, 1, (l 4))]), i (.eqa true [0, 0] (l 0) (l 5))] [(12, l 6)])
  (.cond (e 12) (.seq (.reg [] [(3, (v (.bool false)))])
  .ret) .skip))
  (.seq (.reg [i (.load true 12 (e 4)), i (.nilck (e 0)), i (.fld 3 (l 1)), i (.store 12 (l 2) (l 0)), i (.nilck (e 0)), i (.fld 15 (l 4)), i (.store 1 (l 5) (v (.nil0))), i (.nilck (e 0)), i (.fld 16 (l 7)), i (.store 1 (l 8) (v (.nil0)))] [])
  (.seq (.seq (.reg [i (.nilck (e 0)), i (.fld 2 (l 0)), i (.load false 1 (l 1)), i (.nilck (e 0)), i (.fld 2 (l 3)), i (.load false 1 (l 4)), i (.len (l 5)), i (.bin .sub (l 6) (e 5)), i (.slice 1 (l 2) (some (l 7)) none), i (.len (l 8))] [(13, l 8), (14, l 9), (15, (v (.int .i64 0)))])
  (.blk 0 (.loop [3, 7, 8, 9, 16, 17, 18] l_prop_laid_takes_0)))
  (.seq (.reg [i (.fld 0 (e 4)), i (.load false 1 (l 0)), i (.bin .eql (l 1) (v (.int .i64 8))), g (l 2) false (.fld 0 (e 4)), g (l 2) false (.load false 1 (l 3)), g (l 2) false (.bin .eql (l 4) (v (.int .i64 10))), i (.pick (l 2) (v (.bool true)) (l 5))] [(10, l 6)])
  (.seq (.seq (.reg [g (e 10) true (.mov (e 1)), g (e 10) true (.mov (e 0)), g (e 10) true (.nilck (l 1)), g (e 10) true (.fld 0 (l 2)), g (e 10) true (.load false 1 (l 3)), g (e 10) true (.len (l 4)), g (e 10) true (.bin .sub (l 5) (v (.int .i64 1))), g (e 10) true (.bin .neq (l 0) (l 6)), i (.pick (e 10) (l 7) (v (.bool false))), g (l 8) false (.mov (e 2)), g (l 8) false (.mov (e 0)), g (l 8) false (.callv (l 9) [(l 10)]), g (l 8) false (.una .not (l 11)), i (.pick (l 8) (v (.bool true)) (l 12)), g (l 13) false (.mov (e 0)), g (l 13) false (.nilck (l 14)), g (l 13) false (.fld 17 (l 15)), g (l 13) false (.load false 1 (l 16)), g (l 13) false (.len (l 17)), g (l 13) false (.bin .gtr (l 18) (v (.int .i64 16))), i (.pick (l 13) (v (.bool true)) (l 19))] [(19, l 20)])
  (.cond (e 19) (.seq (.reg [] [(3, (v (.bool false)))])
  .ret) .skip))
  (.seq (.regd [i (.nilck (e 0)), i (.fld 1 (l 0)), i (.load false 1 (l 1)), i (.nilck (e 0)), i (.fld 17 (l 3)), i (.load false 1 (l 4)), i (.mkl 1 [(l 5)]), i (.app 1 (l 2) (l 6)), i (.nilck (e 0)), i (.fld 2 (l 8)), i (.load false 1 (l 9)), i (.nilck (e 0)), i (.fld 2 (l 11)), i (.load false 1 (l 12)), i (.len (l 13)), i (.bin .sub (l 14) (e 5)), i (.slice 1 (l 10) none (some (l 15))), i (.mkl 1 [(e 1)]), i (.app 1 (l 16) (l 17)), i (.nilck (e 0)), i (.fld 1 (l 19)), i (.store 1 (l 20) (l 7)), i (.nilck (e 0)), i (.fld 2 (l 22)), i (.store 1 (l 23) (l 18))] [] [(8, 0), (9, 0), (10, 0), (11, 0), (12, 0), (13, 0), (14, 0), (16, 0)])
  (.seq (.reg [] [(3, (v (.bool true)))])
  .ret)))))))))))))
def f_prop_laid_takes : AFunc := ⟨20, 3, .keep, [.env 3], b_prop_laid_takes⟩
def b_slices_ContainsFunc_api_LNode_api_LNode : ACode :=
  (.seq (.reg [] [(2, (v (.bool false)))])
  (.seq (.reg [i (.call 182 [(e 0), (e 1)] false), i (.bin .geq (l 0) (v (.int .i64 0)))] [(2, l 1)])
  .ret))
def f_slices_ContainsFunc_api_LNode_api_LNode : AFunc := ⟨3, 2, .pure, [.env 2], b_slices_ContainsFunc_api_LNode_api_LNode⟩
def b_prop_checker_frag_2 : ACode :=
  (.seq (.reg [i (.box 12 (e 0))] [(3, l 0), (4, (v (.bool false)))])
  (.seq (.seq (.reg [i (.fld 0 (e 3)), i (.load false 1 (l 0)), i (.bin .neq (l 1) (v (.int .i64 1)))] [(5, l 2)])
  (.cond (e 5) (.seq (.reg [] [(4, (v (.bool false)))])
  .ret) .skip))
  (.seq (.seq (.reg [i (.fld 1 (e 1)), i (.load false 1 (l 0)), i (.bin .neq (l 1) (v (.int .i64 1))), g (l 2) false (.fld 3 (e 3)), g (l 2) false (.load false 1 (l 3)), g (l 2) false (.load false 1 (e 2)), g (l 2) false (.nilck (l 5)), g (l 2) false (.fld 1 (l 6)), g (l 2) false (.fld 0 (l 7)), g (l 2) false (.load false 1 (l 8)), g (l 2) false (.len (l 9)), g (l 2) false (.bin .geq (l 4) (l 10)), i (.pick (l 2) (v (.bool true)) (l 11))] [(6, l 12)])
  (.cond (e 6) (.seq (.reg [] [(4, (v (.bool true)))])
  .ret) .skip))
  (.seq (.reg [i (.fld 4 (e 3)), i (.load false 1 (l 0)), i (.load false 1 (e 2)), i (.nilck (l 2)), i (.fld 1 (l 3)), i (.fld 0 (l 4)), i (.load false 1 (l 5)), i (.fld 3 (e 3)), i (.load false 1 (l 7)), i (.idxs 3 (l 6) (l 8)), i (.fld 1 (l 9)), i (.load false 1 (l 10)), i (.call 222 [(l 1), (l 11), (v (.fn 221 [] []))] false), i (.una .not (l 12))] [(4, l 13)])
  .ret))))
def f_prop_checker_frag_2 : AFunc := ⟨7, 3, .pure, [.env 4], b_prop_checker_frag_2⟩
def l_slices_EqualFunc_int_api_Column_int_api_Column_0 : ACode :=
  (.seq (.reg [i (.bin .lss (e 10) (e 9))] [(11, l 0)])
  (.seq (.cond (e 11) .skip (.exit 0))
  (.seq (.blk 1 (.seq (.reg [i (.idxs 1 (e 8) (e 10)), i (.load false 1 (l 0))] [(4, e 10), (5, l 1)])
  (.seq (.reg [i (.idxs 2 (e 1) (e 4)), i (.load true 2 (l 0)), i (.box 2 (v (.agg [.str [], .int .i64 0]))), i (.store 2 (l 2) (l 1))] [(6, l 2)])
  (.seq (.reg [i (.load true 2 (e 6)), i (.callv (e 2) [(e 5), (l 0)]), i (.una .not (l 1))] [(12, l 2)])
  (.cond (e 12) (.seq (.reg [] [(3, (v (.bool false)))])
  .ret) .skip)))))
  (.reg [i (.bin .add (e 10) (v (.int .i64 1)))] [(10, l 0)]))))
def b_slices_EqualFunc_int_api_Column_int_api_Column : ACode :=
  (.seq (.reg [] [(3, (v (.bool false)))])
  (.seq (.seq (.reg [i (.len (e 0)), i (.len (e 1)), i (.bin .neq (l 0) (l 1))] [(7, l 2)])
  (.cond (e 7) (.seq (.reg [] [(3, (v (.bool false)))])
  .ret) .skip))
  (.seq (.seq (.reg [i (.len (e 0))] [(8, e 0), (9, l 0), (10, (v (.int .i64 0)))])
  (.blk 0 (.loop [3, 4, 5, 6, 11, 12] l_slices_EqualFunc_int_api_Column_int_api_Column_0)))
  (.seq (.reg [] [(3, (v (.bool true)))])
  .ret))))
def f_slices_EqualFunc_int_api_Column_int_api_Column : AFunc := ⟨13, 3, .pure, [.env 3], b_slices_EqualFunc_int_api_Column_int_api_Column⟩
def b_prop_checker_frag_2_1 : ACode :=
  (.seq (.reg [i (.box 2 (e 1))] [(2, l 0), (3, (v (.bool false)))])
  (.seq (.reg [i (.fld 1 (e 2)), i (.load false 1 (l 0)), i (.bin .eql (e 0) (l 1))] [(3, l 2)])
  .ret))
def f_prop_checker_frag_2_1 : AFunc := ⟨4, 2, .pure, [.env 3], b_prop_checker_frag_2_1⟩
def b_prop_checker_root : ACode :=
  (.seq (.reg [i (.mov (v (.nil0)))] [(2, l 0)])
  (.seq (.reg [i (.nilck (e 0)), i (.fld 2 (l 0)), i (.load false 1 (l 1)), i (.idxs 1 (l 2) (e 1)), i (.load false 1 (l 3))] [(3, l 4)])
  (.seq (.reg [i (.len (e 3)), i (.bin .sub (l 0) (v (.int .i64 1))), i (.idxs 1 (e 3) (l 1)), i (.load false 1 (l 2))] [(2, l 3)])
  .ret)))
def f_prop_checker_root : AFunc := ⟨4, 2, .pure, [.env 2], b_prop_checker_root⟩
def b_prop_inputs : ACode :=
  (.seq (.reg [i (.box 1 (e 0)), i (.box 1 (e 1))] [(2, l 0), (3, l 1), (4, (v (.nilf)))])
  (.seq (.reg [i (.mkfn 67 [] [(e 2), (e 3)])] [(4, l 0)])
  .ret))
def f_prop_inputs : AFunc := ⟨5, 2, .keep, [.env 4], b_prop_inputs⟩
def b_slices_Contains_int_int : ACode :=
  (.seq (.reg [] [(2, (v (.bool false)))])
  (.seq (.reg [i (.call 73 [(e 0), (e 1)] false), i (.bin .geq (l 0) (v (.int .i64 0)))] [(2, l 1)])
  .ret))
def f_slices_Contains_int_int : AFunc := ⟨3, 2, .pure, [.env 2], b_slices_Contains_int_int⟩
def l_denote_CheckBase_0 : ACode :=
  (.seq (.reg [i (.bin .lss (e 18) (e 17))] [(19, l 0)])
  (.seq (.cond (e 19) .skip (.exit 2))
  (.seq (.blk 3 (.seq (.reg [i (.idxs 2 (e 16) (e 18)), i (.load true 2 (l 0)), i (.box 2 (v (.agg [.str [], .int .i64 0]))), i (.store 2 (l 2) (l 1))] [(9, l 2)])
  (.reg [i (.fld 1 (e 9)), i (.load false 1 (l 0)), i (.mkl 1 [(l 1)]), i (.app 1 (e 8) (l 2))] [(8, l 3)])))
  (.reg [i (.bin .add (e 18) (v (.int .i64 1)))] [(18, l 0)]))))
def l_denote_CheckBase_1 : ACode :=
  (.seq (.reg [i (.bin .lss (e 14) (e 13))] [(15, l 0)])
  (.seq (.cond (e 15) .skip (.exit 0))
  (.seq (.blk 1 (.seq (.reg [i (.idxs 3 (e 12) (e 14)), i (.load true 3 (l 0)), i (.box 3 (v (.agg [.str [], .nil0, .nil0]))), i (.store 3 (l 2) (l 1))] [(7, l 2), (6, e 14)])
  (.seq (.reg [i (.mknil 1)] [(8, l 0)])
  (.seq (.seq (.reg [i (.fld 1 (e 7)), i (.load false 1 (l 0)), i (.len (l 1))] [(16, l 1), (17, l 2), (18, (v (.int .i64 0)))])
  (.blk 2 (.loop [9, 19] l_denote_CheckBase_0)))
  (.seq (.reg [i (.fld 0 (e 3)), i (.load false 1 (l 0)), i (.idxs 1 (l 1) (e 6)), i (.load false 1 (l 2)), i (.call 181 [(l 3), (e 8)] false), i (.una .not (l 4))] [(20, l 5)])
  (.cond (e 20) (.seq (.reg [] [(4, (v (.int .i64 250)))])
  .ret) .skip))))))
  (.reg [i (.bin .add (e 14) (v (.int .i64 1)))] [(14, l 0)]))))
def b_denote_CheckBase : ACode :=
  (.seq (.reg [i (.box 1 (e 0)), i (.box 1 (e 1))] [(2, l 0), (3, l 1), (4, (v (.int .i64 0)))])
  (.seq (.seq (.reg [i (.load true 1 (e 2)), i (.call 103 [(l 0)] false)] [(5, l 1)])
  (.seq (.reg [i (.bin .neq (e 5) (v (.int .i64 0)))] [(10, l 0)])
  (.cond (e 10) (.seq (.reg [] [(4, e 5)])
  .ret) .skip)))
  (.seq (.seq (.reg [i (.fld 0 (e 3)), i (.load false 1 (l 0)), i (.len (l 1)), i (.fld 0 (e 2)), i (.load false 1 (l 3)), i (.len (l 4)), i (.bin .neq (l 2) (l 5))] [(11, l 6)])
  (.cond (e 11) (.seq (.reg [] [(4, (v (.int .i64 250)))])
  .ret) .skip))
  (.seq (.seq (.reg [i (.fld 0 (e 2)), i (.load false 1 (l 0)), i (.len (l 1))] [(12, l 1), (13, l 2), (14, (v (.int .i64 0)))])
  (.blk 0 (.loop [4, 6, 7, 8, 9, 15, 16, 17, 18, 19, 20] l_denote_CheckBase_1)))
  (.seq (.reg [] [(4, (v (.int .i64 0)))])
  .ret)))))
def f_denote_CheckBase : AFunc := ⟨21, 2, .pure, [.env 4], b_denote_CheckBase⟩
def l_place_all_1_0 : ACode :=
  (.seq (.reg [i (.bin .lss (e 18) (e 17))] [(19, l 0)])
  (.seq (.cond (e 19) .skip (.exit 4))
  (.seq (.blk 5 (.seq (.reg [i (.idxs 1 (e 16) (e 18)), i (.load false 1 (l 0))] [(6, e 18), (7, l 1)])
  (.seq (.reg [i (.bin .add (e 2) (v (.int .i64 1))), i (.build [.int .i64 0, .int .i64 0, .int .i64 0] [(0, 1, (l 0)), (1, 1, (e 4)), (2, 1, (e 6))]), i (.callv (e 0) [(l 1), (e 7)]), i (.una .not (l 2))] [(20, l 3)])
  (.cond (e 20) .ret .skip))))
  (.reg [i (.bin .add (e 18) (v (.int .i64 1)))] [(18, l 0)]))))
def l_place_all_1_1 : ACode :=
  (.seq (.reg [i (.bin .lss (e 14) (e 13))] [(15, l 0)])
  (.seq (.cond (e 15) .skip (.exit 2))
  (.seq (.blk 3 (.seq (.reg [i (.idxs 1 (e 12) (e 14)), i (.load false 1 (l 0))] [(4, e 14), (5, l 1)])
  (.seq (.reg [i (.len (e 5))] [(16, e 5), (17, l 0), (18, (v (.int .i64 0)))])
  (.blk 4 (.loop [6, 7, 19, 20] l_place_all_1_0)))))
  (.reg [i (.bin .add (e 14) (v (.int .i64 1)))] [(14, l 0)]))))
def l_place_all_1_2 : ACode :=
  (.seq (.reg [i (.bin .lss (e 10) (e 9))] [(11, l 0)])
  (.seq (.cond (e 11) .skip (.exit 0))
  (.seq (.blk 1 (.seq (.reg [i (.idxs 1 (e 8) (e 10)), i (.load true 1 (l 0)), i (.box 1 (v (.agg [.nil0]))), i (.store 1 (l 2) (l 1))] [(3, l 2), (2, e 10)])
  (.seq (.reg [i (.fld 0 (e 3)), i (.load false 1 (l 0)), i (.len (l 1))] [(12, l 1), (13, l 2), (14, (v (.int .i64 0)))])
  (.blk 2 (.loop [4, 5, 6, 7, 15, 16, 17, 18, 19, 20] l_place_all_1_1)))))
  (.reg [i (.bin .add (e 10) (v (.int .i64 1)))] [(10, l 0)]))))
def b_place_all_1 : ACode :=
  (.seq (.reg [i (.fld 0 (e 1)), i (.load false 1 (l 0)), i (.len (l 1))] [(8, l 1), (9, l 2), (10, (v (.int .i64 0)))])
  (.blk 0 (.loop [2, 3, 4, 5, 6, 7, 11, 12, 13, 14, 15, 16, 17, 18, 19, 20] l_place_all_1_2)))
def f_place_all_1 : AFunc := ⟨21, 2, .keep, [], b_place_all_1⟩
def q_plan_some_0 : ACode :=
  (.blk 1 (.seq (.reg [i (.load false 1 (e 4)), i (.load true 3 (e 7)), i (.callv (l 0) [(l 1), (e 8)])] [(12, l 2)])
  (.cond (e 12) (.reg [i (.load false 1 (e 6)), i (.load true 3 (e 7)), i (.mkl 3 [(l 1)]), i (.app 3 (l 0) (l 2)), i (.store 1 (e 6) (l 3))] []) .skip)))
def q_plan_some_0p : ACode :=
  (.seq (.reg [i (.box 3 (v (.agg [.int .i64 0, .int .i64 0, .int .i64 0]))), i (.store 3 (l 0) (e 10))] [(7, l 0)])
  (.reg [] [(8, e 11)]))
def b_plan_some : ACode :=
  (.seq (.reg [i (.box 1 (e 0)), i (.box 1 (e 2)), i (.mov (v (.nil0)))] [(3, l 0), (4, l 1), (5, l 2)])
  (.seq (.reg [i (.box 1 (v (.nil0)))] [(6, l 0)])
  (.seq (.seq (.lift 6 0 3 (.reg [i (.load true 1 (e 3)), i (.call 155 [(l 0), (e 1)] false)] [(9, l 1)]))
  (.blk 0 (.rng 13 (e 9) 79)))
  (.seq (.reg [i (.load false 1 (e 6))] [(5, l 0)])
  .ret))))
def f_plan_some : AFunc := ⟨13, 3, .pure, [.env 5], b_plan_some⟩
def r_plan_some_0 : ARound := ⟨13, [10, 11], q_plan_some_0p, q_plan_some_0⟩
def b_plan_Into_1 : ACode :=
  (.seq (.reg [i (.box 3 (e 0))] [(4, l 0), (5, (v (.bool false)))])
  (.seq (.reg [i (.load false 1 (e 2)), i (.bin .eql (e 1) (l 0)), g (l 1) true (.fld 2 (e 4)), g (l 1) true (.load false 1 (l 2)), g (l 1) true (.load false 1 (e 3)), g (l 1) true (.bin .eql (l 3) (l 4)), i (.pick (l 1) (l 5) (v (.bool false)))] [(5, l 6)])
  .ret))
def f_plan_Into_1 : AFunc := ⟨6, 4, .pure, [.env 5], b_plan_Into_1⟩
def b_row_Merge : ACode :=
  (.seq (.reg [i (.mov (v (.nil0)))] [(1, l 0), (2, (v (.int .i64 0)))])
  (.seq (.seq (.reg [i (.call 31 [(e 0)] false)] [(3, l 0)])
  (.seq (.reg [i (.bin .neq (e 3) (v (.int .i64 0)))] [(4, l 0)])
  (.cond (e 4) (.seq (.reg [i (.mov (v (.nil0)))] [(1, l 0), (2, e 3)])
  .ret) .skip)))
  (.seq (.reg [i (.call 180 [(e 0)] false), i (.call 66 [(l 0)] false), i (.ext 0 (l 1)), i (.ext 1 (l 1))] [(1, l 2), (2, l 3)])
  .ret)))
def f_row_Merge : AFunc := ⟨5, 1, .pure, [.env 1, .env 2], b_row_Merge⟩
def b_exec_run_given : ACode :=
  (.seq (.reg [i (.box 12 (e 1)), i (.mov (v (.nil0)))] [(2, l 0), (3, l 1), (4, (v (.int .i64 0)))])
  (.seq (.reg [i (.load true 12 (e 2)), i (.call 82 [(e 0), (l 0)] false), i (.ext 0 (l 1)), i (.ext 1 (l 1))] [(5, l 2)])
  (.seq (.reg [i (.call 78 [(e 5)] false), i (.ext 0 (l 0)), i (.ext 1 (l 0))] [(3, l 1), (4, l 2)])
  .ret)))
def f_exec_run_given : AFunc := ⟨6, 2, .keep, [.env 3, .env 4], b_exec_run_given⟩
def b_exec_run_partial : ACode :=
  (.seq (.reg [i (.box 12 (e 1)), i (.mov (v (.nil0)))] [(2, l 0), (3, l 1), (4, (v (.int .i64 0)))])
  (.seq (.reg [i (.load true 12 (e 2)), i (.nilck (e 0)), i (.fld 7 (l 1)), i (.load false 1 (l 2)), i (.fld 1 (e 2)), i (.load false 1 (l 4)), i (.idxs 1 (l 3) (l 5)), i (.load false 1 (l 6)), i (.call 179 [(l 0), (l 7)] false), i (.ext 0 (l 8)), i (.ext 1 (l 8))] [(3, l 9), (4, l 10)])
  .ret))
def f_exec_run_partial : AFunc := ⟨5, 2, .pure, [.env 3, .env 4], b_exec_run_partial⟩
def b_exec_run_final : ACode :=
  (.seq (.reg [i (.box 12 (e 1)), i (.mov (v (.nil0)))] [(2, l 0), (3, l 1), (4, (v (.int .i64 0)))])
  (.seq (.reg [i (.load true 12 (e 2)), i (.nilck (e 0)), i (.fld 7 (l 1)), i (.load false 1 (l 2)), i (.fld 1 (e 2)), i (.load false 1 (l 4)), i (.idxs 1 (l 3) (l 5)), i (.load false 1 (l 6)), i (.call 219 [(l 0), (l 7)] false), i (.ext 0 (l 8)), i (.ext 1 (l 8))] [(3, l 9), (4, l 10)])
  .ret))
def f_exec_run_final : AFunc := ⟨5, 2, .pure, [.env 3, .env 4], b_exec_run_final⟩
def l_slices_IndexFunc_int_int_0 : ACode :=
  (.seq (.reg [i (.bin .lss (e 5) (e 4))] [(6, l 0)])
  (.seq (.cond (e 6) .skip (.exit 0))
  (.seq (.blk 1 (.seq (.reg [] [(3, e 5)])
  (.seq (.reg [i (.idxs 1 (e 0) (e 3)), i (.load false 1 (l 0)), i (.callv (e 1) [(l 1)])] [(7, l 2)])
  (.cond (e 7) (.seq (.reg [] [(2, e 3)])
  .ret) .skip))))
  (.reg [i (.bin .add (e 5) (v (.int .i64 1)))] [(5, l 0)]))))
def b_slices_IndexFunc_int_int : ACode :=
  (.seq (.reg [] [(2, (v (.int .i64 0)))])
  (.seq (.seq (.reg [i (.len (e 0))] [(4, l 0), (5, (v (.int .i64 0)))])
  (.blk 0 (.loop [2, 3, 6, 7] l_slices_IndexFunc_int_int_0)))
  (.seq (.reg [] [(2, (v (.int .i64 (-1))))])
  .ret)))
def f_slices_IndexFunc_int_int : AFunc := ⟨8, 2, .pure, [.env 2], b_slices_IndexFunc_int_int⟩
def b_slices_ContainsFunc_api_Row_api_Row : ACode :=
  (.seq (.reg [] [(2, (v (.bool false)))])
  (.seq (.reg [i (.call 53 [(e 0), (e 1)] false), i (.bin .geq (l 0) (v (.int .i64 0)))] [(2, l 1)])
  .ret))
def f_slices_ContainsFunc_api_Row_api_Row : AFunc := ⟨3, 2, .pure, [.env 2], b_slices_ContainsFunc_api_Row_api_Row⟩
def b_exec_fit_1 : ACode :=
  (.seq (.reg [] [(2, (v (.bool false)))])
  (.seq (.reg [i (.load false 1 (e 1)), i (.call 30 [(e 0), (l 0), (v (.fn 29 [] []))] false), i (.una .not (l 1))] [(2, l 2)])
  .ret))
def f_exec_fit_1 : AFunc := ⟨3, 2, .pure, [.env 2], b_exec_fit_1⟩
def l_slices_EqualFunc_api_Row_int_api_Value_int_0 : ACode :=
  (.seq (.reg [i (.bin .lss (e 10) (e 9))] [(11, l 0)])
  (.seq (.cond (e 11) .skip (.exit 0))
  (.seq (.blk 1 (.seq (.reg [i (.idxs 4 (e 8) (e 10)), i (.load true 4 (l 0)), i (.box 4 (v (.agg [.int .i64 0, .int .i64 0, .int .u64 0, .str []]))), i (.store 4 (l 2) (l 1))] [(5, l 2), (4, e 10)])
  (.seq (.reg [i (.idxs 1 (e 1) (e 4)), i (.load false 1 (l 0))] [(6, l 1)])
  (.seq (.reg [i (.load true 4 (e 5)), i (.callv (e 2) [(l 0), (e 6)]), i (.una .not (l 1))] [(12, l 2)])
  (.cond (e 12) (.seq (.reg [] [(3, (v (.bool false)))])
  .ret) .skip)))))
  (.reg [i (.bin .add (e 10) (v (.int .i64 1)))] [(10, l 0)]))))
def b_slices_EqualFunc_api_Row_int_api_Value_int : ACode :=
  (.seq (.reg [] [(3, (v (.bool false)))])
  (.seq (.seq (.reg [i (.len (e 0)), i (.len (e 1)), i (.bin .neq (l 0) (l 1))] [(7, l 2)])
  (.cond (e 7) (.seq (.reg [] [(3, (v (.bool false)))])
  .ret) .skip))
  (.seq (.seq (.reg [i (.len (e 0))] [(8, e 0), (9, l 0), (10, (v (.int .i64 0)))])
  (.blk 0 (.loop [3, 4, 5, 6, 11, 12] l_slices_EqualFunc_api_Row_int_api_Value_int_0)))
  (.seq (.reg [] [(3, (v (.bool true)))])
  .ret))))
def f_slices_EqualFunc_api_Row_int_api_Value_int : AFunc := ⟨13, 3, .pure, [.env 3], b_slices_EqualFunc_api_Row_int_api_Value_int⟩
def b_exec_fit_1_1 : ACode :=
  (.seq (.reg [i (.box 4 (e 0))] [(2, l 0), (3, (v (.bool false)))])
  (.seq (.reg [i (.load true 4 (e 2)), i (.call 2 [(l 0)] false), i (.bin .eql (l 1) (v (.int .i64 0))), g (l 2) true (.fld 0 (e 2)), g (l 2) true (.load false 1 (l 3)), g (l 2) true (.bin .eql (l 4) (v (.int .i64 0))), g (l 2) true (.mov (l 5)), g (l 6) false (.fld 0 (e 2)), g (l 6) false (.load false 1 (l 7)), g (l 6) false (.mov (e 1)), g (l 6) false (.bin .eql (l 8) (l 9)), g (l 2) true (.pick (l 6) (v (.bool true)) (l 10)), i (.pick (l 2) (l 11) (v (.bool false)))] [(3, l 12)])
  .ret))
def f_exec_fit_1_1 : AFunc := ⟨4, 2, .pure, [.env 3], b_exec_fit_1_1⟩
def b_value_Check : ACode :=
  (.seq (.reg [i (.box 4 (e 0))] [(1, l 0), (2, (v (.int .i64 0)))])
  (.seq (.seq (.reg [i (.load true 4 (e 1)), i (.call 1 [(l 0)] false), i (.build [.int .i64 0, .int .i64 0, .int .u64 0, .str []] []), i (.eqa true [0, 0, 0, 2] (l 1) (l 2))] [(3, l 3)])
  (.cond (e 3) (.seq (.reg [] [(2, (v (.int .i64 120)))])
  .ret) .skip))
  (.seq (.reg [] [(2, (v (.int .i64 0)))])
  .ret)))
def f_value_Check : AFunc := ⟨4, 1, .pure, [.env 2], b_value_Check⟩
def l_expr_Cols_0 : ACode :=
  (.seq (.reg [i (.bin .lss (e 8) (e 7))] [(9, l 0)])
  (.seq (.cond (e 9) .skip (.exit 0))
  (.seq (.blk 1 (.seq (.reg [i (.idxs 8 (e 6) (e 8)), i (.load true 8 (l 0)), i (.box 8 (v (.agg [.int .i64 0, .int .i64 0, .int .i64 0, .int .i64 0, .int .i64 0, .int .i64 0, .int .u64 0, .str []]))), i (.store 8 (l 2) (l 1))] [(4, l 2)])
  (.seq (.reg [i (.fld 0 (e 4)), i (.load false 1 (l 0)), i (.bin .eql (l 1) (v (.int .i64 2)))] [(10, l 2)])
  (.cond (e 10) (.reg [i (.fld 3 (e 4)), i (.load false 1 (l 0)), i (.mkl 1 [(l 1)]), i (.app 1 (e 3) (l 2))] [(3, l 3)]) .skip))))
  (.reg [i (.bin .add (e 8) (v (.int .i64 1)))] [(8, l 0)]))))
def b_expr_Cols : ACode :=
  (.seq (.reg [i (.box 1 (e 0)), i (.mov (v (.nil0)))] [(1, l 0), (2, l 1)])
  (.seq (.seq (.reg [i (.load true 1 (e 1)), i (.call 9 [(l 0)] false), i (.bin .neq (l 1) (v (.int .i64 0)))] [(5, l 2)])
  (.cond (e 5) (.seq (.reg [i (.mov (v (.nil0)))] [(2, l 0)])
  .ret) .skip))
  (.seq (.reg [i (.mknil 1)] [(3, l 0)])
  (.seq (.seq (.reg [i (.fld 0 (e 1)), i (.load false 1 (l 0)), i (.len (l 1))] [(6, l 1), (7, l 2), (8, (v (.int .i64 0)))])
  (.blk 0 (.loop [4, 9, 10] l_expr_Cols_0)))
  (.seq (.reg [i (.call 35 [(e 3)] false)] [])
  (.seq (.reg [i (.call 36 [(e 3)] false)] [(2, l 0)])
  .ret))))))
def f_expr_Cols : AFunc := ⟨11, 1, .pure, [.env 2], b_expr_Cols⟩
def l_expr_over_int_0 : ACode :=
  (.seq (.reg [i (.bin .lss (e 14) (e 13))] [(15, l 0)])
  (.seq (.cond (e 15) .skip (.exit 0))
  (.seq (.blk 1 (.seq (.reg [i (.idxs 8 (e 12) (e 14)), i (.load true 8 (l 0)), i (.box 8 (v (.agg [.int .i64 0, .int .i64 0, .int .i64 0, .int .i64 0, .int .i64 0, .int .i64 0, .int .u64 0, .str []]))), i (.store 8 (l 2) (l 1))] [(9, l 2)])
  (.seq (.regd [i (.load true 8 (e 9)), i (.fld 0 (e 9)), i (.load false 1 (l 1)), i (.call 4 [(l 2)] false), i (.callv (e 7) [(l 3)]), i (.callv (e 1) [(l 0), (l 4)]), i (.ext 0 (l 5)), i (.ext 1 (l 5))] [(10, l 6), (11, l 7)] [(0, 5)])
  (.seq (.seq (.reg [i (.bin .neq (e 11) (v (.int .i64 0)))] [(16, l 0)])
  (.cond (e 16) (.seq (.reg [] [(8, e 11)])
  (.exit 0)) .skip))
  (.reg [i (.load false 1 (e 5)), i (.mkl 1 [(e 10)]), i (.app 1 (l 0) (l 1)), i (.store 1 (e 5) (l 2))] [])))))
  (.reg [i (.bin .add (e 14) (v (.int .i64 1)))] [(14, l 0)]))))
def b_expr_over_int : ACode :=
  (.seq (.reg [i (.box 1 (e 0))] [(2, l 0), (3, (v (.int .i64 0))), (4, (v (.int .i64 0)))])
  (.scope (.seq (.reg [i (.box 1 (v (.nil0)))] [(5, l 0)])
  (.seq (.reg [] [(6, (v (.int .i64 0)))])
  (.seq (.reg [i (.mkfn 52 [] [(e 5)])] [(7, l 0)])
  (.seq (.reg [] [(8, (v (.int .i64 0)))])
  (.seq (.seq (.lift 5 0 1 (.reg [i (.fld 0 (e 2)), i (.load false 1 (l 0)), i (.len (l 1))] [(12, l 1), (13, l 2), (14, (v (.int .i64 0)))]))
  (.blk 0 (.loop [9, 10, 11, 15, 16] l_expr_over_int_0)))
  (.seq (.seq (.reg [i (.bin .neq (e 8) (v (.int .i64 0)))] [(17, l 0)])
  (.cond (e 17) (.seq (.reg [] [(3, e 6), (4, e 8)])
  .ret) .skip))
  (.seq (.reg [i (.load false 1 (e 5)), i (.idxs 1 (l 0) (v (.int .i64 0))), i (.load false 1 (l 1))] [(3, l 2), (4, (v (.int .i64 0)))])
  .ret)))))))))
def f_expr_over_int : AFunc := ⟨18, 2, .pure, [.env 3, .env 4], b_expr_over_int⟩
def l_expr_Kind_1_0 : ACode :=
  (.seq (.reg [i (.bin .lss (e 12) (e 11))] [(13, l 0)])
  (.seq (.cond (e 13) .skip (.exit 0))
  (.seq (.blk 1 (.seq (.reg [i (.idxs 1 (e 10) (e 12)), i (.load false 1 (l 0))] [(7, l 1)])
  (.blk 2 (.seq (.reg [i (.bin .eql (e 7) (v (.int .i64 0))), g (l 0) false (.mov (e 7)), g (l 0) false (.mov (e 6)), g (l 0) false (.bin .eql (l 1) (l 2)), i (.pick (l 0) (v (.bool true)) (l 3))] [(14, l 4)])
  (.cond (e 14) .skip (.seq (.reg [i (.bin .eql (e 6) (v (.int .i64 0)))] [(15, l 0)])
  (.cond (e 15) (.reg [] [(6, e 7)]) (.reg [] [(6, (v (.int .i64 (-1))))]))))))))
  (.reg [i (.bin .add (e 12) (v (.int .i64 1)))] [(12, l 0)]))))
def b_expr_Kind_1 : ACode :=
  (.seq (.reg [i (.box 8 (e 0))] [(3, l 0), (4, (v (.int .i64 0))), (5, (v (.int .i64 0)))])
  (.seq (.reg [] [(6, (v (.int .i64 0)))])
  (.seq (.seq (.reg [i (.len (e 1))] [(10, e 1), (11, l 0), (12, (v (.int .i64 0)))])
  (.blk 0 (.loop [7, 13, 14, 15] l_expr_Kind_1_0)))
  (.seq (.reg [] [(8, e 6)])
  (.seq (.reg [] [(9, (v (.int .i64 1)))])
  (.seq (.blk 3 (.seq (.reg [i (.fld 0 (e 3)), i (.load false 1 (l 0)), i (.bin .eql (l 1) (v (.int .i64 1)))] [(16, l 2)])
  (.cond (e 16) (.seq (.reg [i (.fld 4 (e 3)), i (.fld 0 (l 0)), i (.load false 1 (l 1))] [(4, l 2), (5, (v (.int .i64 0)))])
  .ret) (.seq (.reg [i (.fld 0 (e 3)), i (.load false 1 (l 0)), i (.bin .eql (l 1) (v (.int .i64 2)))] [(17, l 2)])
  (.cond (e 17) (.seq (.reg [i (.load false 1 (e 2)), i (.fld 3 (e 3)), i (.load false 1 (l 1)), i (.idxs 1 (l 0) (l 2)), i (.load false 1 (l 3))] [(4, l 4), (5, (v (.int .i64 0)))])
  .ret) (.seq (.reg [i (.fld 0 (e 3)), i (.load false 1 (l 0)), i (.call 279 [(l 1)] false)] [(18, l 2)])
  (.cond (e 18) (.reg [] [(8, (v (.int .i64 2))), (9, (v (.int .i64 2)))]) (.seq (.reg [i (.fld 0 (e 3)), i (.load false 1 (l 0)), i (.bin .eql (l 1) (v (.int .i64 5))), g (l 2) false (.fld 0 (e 3)), g (l 2) false (.load false 1 (l 3)), g (l 2) false (.bin .eql (l 4) (v (.int .i64 22))), i (.pick (l 2) (v (.bool true)) (l 5)), g (l 6) false (.fld 0 (e 3)), g (l 6) false (.load false 1 (l 7)), g (l 6) false (.bin .eql (l 8) (v (.int .i64 23))), i (.pick (l 6) (v (.bool true)) (l 9))] [(19, l 10)])
  (.cond (e 19) (.reg [] [(8, (v (.int .i64 1)))]) .skip)))))))))
  (.seq (.seq (.reg [i (.bin .eql (e 6) (v (.int .i64 (-1)))), g (l 0) false (.mov (e 6)), g (l 0) false (.bin .neq (l 1) (v (.int .i64 0))), g (l 0) false (.mov (l 2)), g (l 3) true (.mov (e 6)), g (l 3) true (.mov (e 8)), g (l 3) true (.bin .neq (l 4) (l 5)), g (l 0) false (.pick (l 3) (l 6) (v (.bool false))), i (.pick (l 0) (v (.bool true)) (l 7))] [(20, l 8)])
  (.cond (e 20) (.seq (.reg [] [(4, (v (.int .i64 0))), (5, (v (.int .i64 201)))])
  .ret) .skip))
  (.seq (.reg [] [(4, e 9), (5, (v (.int .i64 0)))])
  .ret))))))))
def f_expr_Kind_1 : AFunc := ⟨21, 3, .pure, [.env 4, .env 5], b_expr_Kind_1⟩
def l_slices_Index_string_string_0 : ACode :=
  (.seq (.reg [i (.bin .lss (e 5) (e 4))] [(6, l 0)])
  (.seq (.cond (e 6) .skip (.exit 0))
  (.seq (.blk 1 (.seq (.reg [] [(3, e 5)])
  (.seq (.reg [i (.idxs 1 (e 0) (e 3)), i (.load false 1 (l 0)), i (.bin .eql (e 1) (l 1))] [(7, l 2)])
  (.cond (e 7) (.seq (.reg [] [(2, e 3)])
  .ret) .skip))))
  (.reg [i (.bin .add (e 5) (v (.int .i64 1)))] [(5, l 0)]))))
def b_slices_Index_string_string : ACode :=
  (.seq (.reg [] [(2, (v (.int .i64 0)))])
  (.seq (.seq (.reg [i (.len (e 0))] [(4, l 0), (5, (v (.int .i64 0)))])
  (.blk 0 (.loop [2, 3, 6, 7] l_slices_Index_string_string_0)))
  (.seq (.reg [] [(2, (v (.int .i64 (-1))))])
  .ret)))
def f_slices_Index_string_string : AFunc := ⟨8, 2, .pure, [.env 2], b_slices_Index_string_string⟩
def b_expr_parts : ACode :=
  (.seq (.reg [] [(1, (v (.int .i64 0)))])
  (.seq (.blk 0 (.seq (.reg [i (.bin .eql (e 0) (v (.int .i64 1))), g (l 0) false (.mov (e 0)), g (l 0) false (.bin .eql (l 1) (v (.int .i64 2))), i (.pick (l 0) (v (.bool true)) (l 2))] [(2, l 3)])
  (.cond (e 2) (.seq (.reg [] [(1, (v (.int .i64 0)))])
  .ret) (.seq (.reg [i (.bin .geq (e 0) (v (.int .i64 4))), g (l 0) true (.mov (e 0)), g (l 0) true (.bin .leq (l 1) (v (.int .i64 7))), i (.pick (l 0) (l 2) (v (.bool false)))] [(3, l 3)])
  (.cond (e 3) (.seq (.reg [] [(1, (v (.int .i64 1)))])
  .ret) (.seq (.reg [i (.bin .geq (e 0) (v (.int .i64 12))), g (l 0) true (.mov (e 0)), g (l 0) true (.bin .leq (l 1) (v (.int .i64 23))), i (.pick (l 0) (l 2) (v (.bool false)))] [(4, l 3)])
  (.cond (e 4) (.seq (.reg [] [(1, (v (.int .i64 2)))])
  .ret) .skip)))))))
  (.seq (.reg [] [(1, (v (.int .i64 (-1))))])
  .ret)))
def f_expr_parts : AFunc := ⟨5, 1, .pure, [.env 1], b_expr_parts⟩
def b_expr_counts : ACode :=
  (.seq (.reg [i (.box 8 (e 0))] [(1, l 0), (2, (v (.bool false)))])
  (.seq (.seq (.reg [i (.fld 0 (e 1)), i (.load false 1 (l 0))] [(3, l 1)])
  (.blk 0 (.seq (.reg [i (.bin .eql (e 3) (v (.int .i64 1)))] [(4, l 0)])
  (.cond (e 4) (.seq (.reg [i (.fld 4 (e 1)), i (.load true 4 (l 0)), i (.call 151 [(l 1)] false), g (l 2) true (.fld 3 (e 1)), g (l 2) true (.load false 1 (l 3)), g (l 2) true (.bin .eql (l 4) (v (.int .i64 0))), i (.pick (l 2) (l 5) (v (.bool false)))] [(2, l 6)])
  .ret) (.seq (.reg [i (.bin .eql (e 3) (v (.int .i64 2)))] [(5, l 0)])
  (.cond (e 5) (.seq (.reg [i (.fld 4 (e 1)), i (.load true 4 (l 0)), i (.build [.int .i64 0, .int .i64 0, .int .u64 0, .str []] []), i (.eqa false [0, 0, 0, 2] (l 1) (l 2)), g (l 3) true (.fld 3 (e 1)), g (l 3) true (.load false 1 (l 4)), g (l 3) true (.bin .geq (l 5) (v (.int .i64 0))), i (.pick (l 3) (l 6) (v (.bool false))), g (l 7) true (.fld 3 (e 1)), g (l 7) true (.load false 1 (l 8)), g (l 7) true (.bin .lss (l 9) (v (.int .i64 16))), i (.pick (l 7) (l 10) (v (.bool false)))] [(2, l 11)])
  .ret) .skip))))))
  (.seq (.reg [i (.fld 4 (e 1)), i (.load true 4 (l 0)), i (.build [.int .i64 0, .int .i64 0, .int .u64 0, .str []] []), i (.eqa false [0, 0, 0, 2] (l 1) (l 2)), g (l 3) true (.fld 3 (e 1)), g (l 3) true (.load false 1 (l 4)), g (l 3) true (.bin .eql (l 5) (v (.int .i64 0))), i (.pick (l 3) (l 6) (v (.bool false)))] [(2, l 7)])
  .ret)))
def f_expr_counts : AFunc := ⟨6, 1, .pure, [.env 2], b_expr_counts⟩
def b_prop_laid_scan : ACode :=
  (.seq (.reg [] [(1, (v (.bool false)))])
  (.seq (.reg [i (.nilck (e 0)), i (.fld 3 (l 0)), i (.fld 4 (l 1)), i (.load false 1 (l 2)), i (.nilck (e 0)), i (.fld 17 (l 4)), i (.store 1 (l 5) (l 3))] [])
  (.seq (.reg [i (.nilck (e 0)), i (.fld 3 (l 0)), i (.fld 4 (l 1)), i (.load false 1 (l 2)), i (.call 7 [(l 3), (v (.fn 102 [] []))] false), i (.una .not (l 4))] [(2, l 5)])
  (.seq (.reg [g (e 2) true (.mov (e 0)), g (e 2) true (.nilck (l 0)), g (e 2) true (.fld 3 (l 1)), g (e 2) true (.fld 3 (l 2)), g (e 2) true (.load false 1 (l 3)), g (e 2) true (.bin .geq (l 4) (v (.int .i64 0))), i (.pick (e 2) (l 5) (v (.bool false))), g (l 6) true (.mov (e 0)), g (l 6) true (.nilck (l 7)), g (l 6) true (.fld 3 (l 8)), g (l 6) true (.fld 3 (l 9)), g (l 6) true (.load false 1 (l 10)), g (l 6) true (.bin .lss (l 11) (v (.int .i64 4))), i (.pick (l 6) (l 12) (v (.bool false))), g (l 13) true (.mov (e 0)), g (l 13) true (.nilck (l 14)), g (l 13) true (.fld 3 (l 15)), g (l 13) true (.fld 4 (l 16)), g (l 13) true (.load false 1 (l 17)), g (l 13) true (.len (l 18)), g (l 13) true (.bin .gtr (l 19) (v (.int .i64 0))), i (.pick (l 13) (l 20) (v (.bool false))), g (l 21) true (.mov (e 0)), g (l 21) true (.nilck (l 22)), g (l 21) true (.fld 3 (l 23)), g (l 21) true (.fld 4 (l 24)), g (l 21) true (.load false 1 (l 25)), g (l 21) true (.len (l 26)), g (l 21) true (.bin .leq (l 27) (v (.int .i64 4))), i (.pick (l 21) (l 28) (v (.bool false)))] [(1, l 29)])
  .ret))))
def f_prop_laid_scan : AFunc := ⟨3, 1, .keep, [.env 1], b_prop_laid_scan⟩
def b_prop_laid_input : ACode :=
  (.seq (.reg [] [(1, (v (.bool false)))])
  (.seq (.reg [i (.nilck (e 0)), i (.fld 3 (l 0)), i (.fld 4 (l 1)), i (.load false 1 (l 2)), i (.nilck (e 0)), i (.fld 17 (l 4)), i (.store 1 (l 5) (l 3))] [])
  (.seq (.reg [i (.nilck (e 0)), i (.fld 3 (l 0)), i (.fld 4 (l 1)), i (.load false 1 (l 2)), i (.call 7 [(l 3), (v (.fn 150 [] []))] false), i (.una .not (l 4))] [(2, l 5)])
  (.seq (.reg [g (e 2) true (.mov (e 0)), g (e 2) true (.nilck (l 0)), g (e 2) true (.fld 3 (l 1)), g (e 2) true (.fld 3 (l 2)), g (e 2) true (.load false 1 (l 3)), g (e 2) true (.bin .geq (l 4) (v (.int .i64 0))), i (.pick (e 2) (l 5) (v (.bool false))), g (l 6) true (.mov (e 0)), g (l 6) true (.nilck (l 7)), g (l 6) true (.fld 3 (l 8)), g (l 6) true (.fld 3 (l 9)), g (l 6) true (.load false 1 (l 10)), g (l 6) true (.bin .lss (l 11) (v (.int .i64 30))), i (.pick (l 6) (l 12) (v (.bool false))), g (l 13) true (.mov (e 0)), g (l 13) true (.nilck (l 14)), g (l 13) true (.fld 3 (l 15)), g (l 13) true (.fld 4 (l 16)), g (l 13) true (.load false 1 (l 17)), g (l 13) true (.len (l 18)), g (l 13) true (.bin .gtr (l 19) (v (.int .i64 0))), i (.pick (l 13) (l 20) (v (.bool false))), g (l 21) true (.mov (e 0)), g (l 21) true (.nilck (l 22)), g (l 21) true (.fld 3 (l 23)), g (l 21) true (.fld 4 (l 24)), g (l 21) true (.load false 1 (l 25)), g (l 21) true (.len (l 26)), g (l 21) true (.bin .leq (l 27) (v (.int .i64 16))), i (.pick (l 21) (l 28) (v (.bool false)))] [(1, l 29)])
  .ret))))
def f_prop_laid_input : AFunc := ⟨3, 1, .keep, [.env 1], b_prop_laid_input⟩
def l_prop_laid_group_0 : ACode :=
  (.seq (.reg [i (.bin .lss (e 16) (e 15))] [(17, l 0)])
  (.seq (.cond (e 17) .skip (.exit 2))
  (.seq (.blk 3 (.seq (.reg [i (.idxs 2 (e 14) (e 16)), i (.load true 2 (l 0)), i (.box 2 (v (.agg [.int .i64 0, .nil0]))), i (.store 2 (l 2) (l 1))] [(5, l 2)])
  (.seq (.reg [] [(6, (v (.int .i64 2)))])
  (.seq (.seq (.reg [i (.fld 0 (e 5)), i (.load false 1 (l 0)), i (.bin .eql (l 1) (v (.int .i64 1)))] [(18, l 2)])
  (.cond (e 18) (.reg [g (e 3) true (.fld 1 (e 5)), g (e 3) true (.fld 0 (l 0)), g (e 3) true (.load false 1 (l 1)), g (e 3) true (.len (l 2)), g (e 3) true (.bin .eql (l 3) (v (.int .i64 0))), i (.pick (e 3) (l 4) (v (.bool false)))] [(3, l 5)]) (.seq (.reg [i (.fld 1 (e 5)), i (.load true 1 (l 0)), i (.nilck (e 0)), i (.fld 15 (l 2)), i (.load false 1 (l 3)), i (.call 58 [(l 1), (l 4)] false), i (.ext 0 (l 5)), i (.ext 1 (l 5))] [(7, l 6), (8, l 7)])
  (.seq (.reg [g (e 3) true (.mov (e 8)), g (e 3) true (.bin .eql (l 0) (v (.int .i64 0))), i (.pick (e 3) (l 1) (v (.bool false))), g (l 2) true (.fld 0 (e 5)), g (l 2) true (.load false 1 (l 3)), g (l 2) true (.bin .gtr (l 4) (v (.int .i64 1))), i (.pick (l 2) (l 5) (v (.bool false))), g (l 6) true (.fld 0 (e 5)), g (l 6) true (.load false 1 (l 7)), g (l 6) true (.bin .leq (l 8) (v (.int .i64 5))), i (.pick (l 6) (l 9) (v (.bool false)))] [(3, l 10)])
  (.seq (.reg [i (.fld 0 (e 5)), i (.load false 1 (l 0))] [(19, l 1)])
  (.blk 4 (.seq (.reg [i (.bin .eql (e 19) (v (.int .i64 3)))] [(20, l 0)])
  (.cond (e 20) (.reg [g (e 3) true (.mov (e 7)), g (e 3) true (.bin .eql (l 0) (v (.int .i64 2))), g (e 3) true (.mov (l 1)), g (l 2) false (.mov (e 7)), g (l 2) false (.bin .eql (l 3) (v (.int .i64 0))), g (e 3) true (.pick (l 2) (v (.bool true)) (l 4)), i (.pick (e 3) (l 5) (v (.bool false)))] [(3, l 6)]) (.seq (.seq (.reg [i (.bin .eql (e 19) (v (.int .i64 4)))] [(21, l 0)])
  (.cond (e 21) .skip (.reg [i (.bin .eql (e 19) (v (.int .i64 5)))] [(21, l 0)])))
  (.cond (e 21) (.reg [] [(6, e 7)]) .skip))))))))))
  (.reg [i (.nilck (e 0)), i (.fld 17 (l 0)), i (.load false 1 (l 1)), i (.mkl 1 [(e 6)]), i (.app 1 (l 2) (l 3)), i (.nilck (e 0)), i (.fld 17 (l 5)), i (.store 1 (l 6) (l 4))] [])))))
  (.reg [i (.bin .add (e 16) (v (.int .i64 1)))] [(16, l 0)]))))
def l_prop_laid_group_1 : ACode :=
  (.seq (.reg [i (.bin .lss (e 11) (e 10))] [(12, l 0)])
  (.seq (.cond (e 12) .skip (.exit 0))
  (.seq (.blk 1 (.seq (.reg [i (.idxs 1 (e 9) (e 11)), i (.load false 1 (l 0))] [(4, l 1)])
  (.seq (.seq (.reg [i (.bin .lss (e 4) (v (.int .i64 0))), g (l 0) false (.mov (e 4)), g (l 0) false (.mov (e 0)), g (l 0) false (.nilck (l 2)), g (l 0) false (.fld 15 (l 3)), g (l 0) false (.load false 1 (l 4)), g (l 0) false (.len (l 5)), g (l 0) false (.bin .geq (l 1) (l 6)), i (.pick (l 0) (v (.bool true)) (l 7))] [(13, l 8)])
  (.cond (e 13) (.seq (.reg [] [(1, (v (.bool false)))])
  .ret) .skip))
  (.reg [i (.nilck (e 0)), i (.fld 17 (l 0)), i (.load false 1 (l 1)), i (.nilck (e 0)), i (.fld 15 (l 3)), i (.load false 1 (l 4)), i (.idxs 1 (l 5) (e 4)), i (.load false 1 (l 6)), i (.mkl 1 [(l 7)]), i (.app 1 (l 2) (l 8)), i (.nilck (e 0)), i (.fld 17 (l 10)), i (.store 1 (l 11) (l 9))] []))))
  (.reg [i (.bin .add (e 11) (v (.int .i64 1)))] [(11, l 0)]))))
def b_prop_laid_group : ACode :=
  (.seq (.reg [] [(1, (v (.bool false)))])
  (.seq (.reg [i (.nilck (e 0)), i (.fld 3 (l 0)), i (.load true 12 (l 1)), i (.box 12 (v (.agg [.int .i64 0, .int .i64 0, .int .i64 0, .int .i64 0, .nil0, .bool false, .nil0, .nil0, .nil0, .nil0, .nil0, .int .i64 0]))), i (.store 12 (l 3) (l 2))] [(2, l 3)])
  (.seq (.reg [i (.fld 7 (e 2)), i (.load false 1 (l 0)), i (.len (l 1)), i (.bin .leq (l 2) (v (.int .i64 3))), g (l 3) true (.fld 8 (e 2)), g (l 3) true (.load false 1 (l 4)), g (l 3) true (.len (l 5)), g (l 3) true (.bin .leq (l 6) (v (.int .i64 12))), i (.pick (l 3) (l 7) (v (.bool false))), g (l 8) true (.fld 7 (e 2)), g (l 8) true (.load false 1 (l 9)), g (l 8) true (.len (l 10)), g (l 8) true (.fld 8 (e 2)), g (l 8) true (.load false 1 (l 12)), g (l 8) true (.len (l 13)), g (l 8) true (.bin .add (l 11) (l 14)), g (l 8) true (.bin .gtr (l 15) (v (.int .i64 0))), i (.pick (l 8) (l 16) (v (.bool false)))] [(3, l 17)])
  (.seq (.reg [i (.nilck (e 0)), i (.fld 17 (l 0)), i (.store 1 (l 1) (v (.nil0)))] [])
  (.seq (.seq (.lift 0 17 1 (.reg [i (.fld 7 (e 2)), i (.load false 1 (l 0)), i (.len (l 1))] [(9, l 1), (10, l 2), (11, (v (.int .i64 0)))]))
  (.blk 0 (.loop [1, 4, 12, 13] l_prop_laid_group_1)))
  (.seq (.seq (.reg [i (.fld 8 (e 2)), i (.load false 1 (l 0)), i (.len (l 1))] [(14, l 1), (15, l 2), (16, (v (.int .i64 0)))])
  (.blk 2 (.loop [5, 6, 7, 8, 17, 18, 19, 20, 21] l_prop_laid_group_0)))
  (.seq (.reg [] [(1, e 3)])
  .ret)))))))
def f_prop_laid_group : AFunc := ⟨22, 1, .keep, [.env 1], b_prop_laid_group⟩
def l_prop_laid_partial_0 : ACode :=
  (.seq (.reg [i (.bin .lss (e 8) (e 7))] [(9, l 0)])
  (.seq (.cond (e 9) .skip (.exit 0))
  (.seq (.blk 1 (.seq (.reg [i (.idxs 2 (e 6) (e 8)), i (.load true 2 (l 0)), i (.box 2 (v (.agg [.int .i64 0, .nil0]))), i (.store 2 (l 2) (l 1))] [(4, l 2), (3, e 8)])
  (.seq (.reg [i (.fld 0 (e 4)), i (.load false 1 (l 0)), i (.bin .eql (l 1) (v (.int .i64 3)))] [(10, l 2)])
  (.cond (e 10) (.reg [i (.nilck (e 0)), i (.fld 17 (l 0)), i (.load false 1 (l 1)), i (.nilck (e 0)), i (.fld 3 (l 3)), i (.fld 7 (l 4)), i (.load false 1 (l 5)), i (.len (l 6)), i (.bin .add (l 7) (e 3)), i (.idxs 1 (l 2) (l 8)), i (.store 1 (l 9) (v (.int .i64 4)))] []) .skip))))
  (.reg [i (.bin .add (e 8) (v (.int .i64 1)))] [(8, l 0)]))))
def b_prop_laid_partial : ACode :=
  (.seq (.reg [] [(1, (v (.bool false)))])
  (.seq (.reg [i (.call 105 [(e 0)] false)] [(2, l 0)])
  (.seq (.seq (.reg [i (.una .not (e 2))] [(5, l 0)])
  (.cond (e 5) (.seq (.reg [] [(1, (v (.bool false)))])
  .ret) .skip))
  (.seq (.seq (.reg [i (.nilck (e 0)), i (.fld 3 (l 0)), i (.fld 8 (l 1)), i (.load false 1 (l 2)), i (.len (l 3))] [(6, l 3), (7, l 4), (8, (v (.int .i64 0)))])
  (.blk 0 (.loop [3, 4, 9, 10] l_prop_laid_partial_0)))
  (.seq (.reg [] [(1, (v (.bool true)))])
  .ret)))))
def f_prop_laid_partial : AFunc := ⟨11, 1, .keep, [.env 1], b_prop_laid_partial⟩
def l_prop_laid_final_0 : ACode :=
  (.seq (.reg [i (.bin .lss (e 17) (e 16))] [(18, l 0)])
  (.seq (.cond (e 18) .skip (.exit 2))
  (.seq (.blk 3 (.seq (.reg [i (.idxs 2 (e 15) (e 17)), i (.load true 2 (l 0)), i (.box 2 (v (.agg [.int .i64 0, .nil0]))), i (.store 2 (l 2) (l 1))] [(8, l 2), (7, e 17)])
  (.seq (.reg [i (.nilck (e 0)), i (.fld 15 (l 0)), i (.load false 1 (l 1)), i (.bin .add (e 3) (e 7)), i (.idxs 1 (l 2) (l 3)), i (.load false 1 (l 4))] [(9, l 5)])
  (.seq (.reg [g (e 4) true (.fld 1 (e 8)), g (e 4) true (.fld 0 (l 0)), g (e 4) true (.load false 1 (l 1)), g (e 4) true (.len (l 2)), g (e 4) true (.bin .eql (l 3) (v (.int .i64 0))), i (.pick (e 4) (l 4) (v (.bool false)))] [(4, l 5)])
  (.seq (.reg [i (.fld 0 (e 8)), i (.load false 1 (l 0))] [(19, l 1)])
  (.blk 4 (.seq (.seq (.reg [i (.bin .eql (e 19) (v (.int .i64 1)))] [(20, l 0)])
  (.cond (e 20) .skip (.reg [i (.bin .eql (e 19) (v (.int .i64 2)))] [(20, l 0)])))
  (.cond (e 20) (.reg [g (e 4) true (.mov (e 9)), g (e 4) true (.bin .eql (l 0) (v (.int .i64 2))), i (.pick (e 4) (l 1) (v (.bool false)))] [(4, l 2)]) (.seq (.reg [i (.bin .eql (e 19) (v (.int .i64 3)))] [(21, l 0)])
  (.cond (e 21) (.seq (.reg [g (e 4) true (.mov (e 9)), g (e 4) true (.bin .eql (l 0) (v (.int .i64 4))), i (.pick (e 4) (l 1) (v (.bool false)))] [(4, l 2)])
  (.reg [i (.nilck (e 0)), i (.fld 17 (l 0)), i (.load false 1 (l 1)), i (.bin .add (e 3) (e 7)), i (.idxs 1 (l 2) (l 3)), i (.store 1 (l 4) (v (.int .i64 2)))] [])) (.seq (.seq (.reg [i (.bin .eql (e 19) (v (.int .i64 4)))] [(22, l 0)])
  (.cond (e 22) .skip (.reg [i (.bin .eql (e 19) (v (.int .i64 5)))] [(22, l 0)])))
  (.cond (e 22) (.reg [g (e 4) true (.mov (e 9)), g (e 4) true (.bin .neq (l 0) (v (.int .i64 4))), i (.pick (e 4) (l 1) (v (.bool false)))] [(4, l 2)]) (.reg [] [(4, (v (.bool false)))])))))))))))))
  (.reg [i (.bin .add (e 17) (v (.int .i64 1)))] [(17, l 0)]))))
def l_prop_laid_final_1 : ACode :=
  (.seq (.reg [i (.bin .lss (e 13) (e 12))] [(14, l 0)])
  (.seq (.cond (e 14) .skip (.exit 0))
  (.seq (.blk 1 (.seq (.reg [i (.idxs 1 (e 11) (e 13)), i (.load false 1 (l 0))] [(5, e 13), (6, l 1)])
  (.reg [g (e 4) true (.mov (e 6)), g (e 4) true (.mov (e 5)), g (e 4) true (.bin .eql (l 0) (l 1)), i (.pick (e 4) (l 2) (v (.bool false))), g (l 3) true (.mov (e 0)), g (l 3) true (.nilck (l 4)), g (l 3) true (.fld 15 (l 5)), g (l 3) true (.load false 1 (l 6)), g (l 3) true (.mov (e 5)), g (l 3) true (.idxs 1 (l 7) (l 8)), g (l 3) true (.load false 1 (l 9)), g (l 3) true (.bin .neq (l 10) (v (.int .i64 4))), i (.pick (l 3) (l 11) (v (.bool false)))] [(4, l 12)])))
  (.reg [i (.bin .add (e 13) (v (.int .i64 1)))] [(13, l 0)]))))
def b_prop_laid_final : ACode :=
  (.seq (.reg [] [(1, (v (.bool false)))])
  (.seq (.reg [i (.nilck (e 0)), i (.fld 3 (l 0)), i (.load true 12 (l 1)), i (.box 12 (v (.agg [.int .i64 0, .int .i64 0, .int .i64 0, .int .i64 0, .nil0, .bool false, .nil0, .nil0, .nil0, .nil0, .nil0, .int .i64 0]))), i (.store 12 (l 3) (l 2))] [(2, l 3)])
  (.seq (.reg [i (.fld 7 (e 2)), i (.load false 1 (l 0)), i (.len (l 1))] [(3, l 2)])
  (.seq (.reg [i (.nilck (e 0)), i (.fld 0 (l 0)), i (.load false 1 (l 1)), i (.fld 1 (e 2)), i (.load false 1 (l 3)), i (.idxs 12 (l 2) (l 4)), i (.fld 0 (l 5)), i (.load false 1 (l 6)), i (.bin .eql (l 7) (v (.int .i64 9))), g (l 8) true (.mov (e 3)), g (l 8) true (.bin .leq (l 9) (v (.int .i64 3))), i (.pick (l 8) (l 10) (v (.bool false))), g (l 11) true (.fld 8 (e 2)), g (l 11) true (.load false 1 (l 12)), g (l 11) true (.len (l 13)), g (l 11) true (.bin .leq (l 14) (v (.int .i64 12))), i (.pick (l 11) (l 15) (v (.bool false))), g (l 16) true (.mov (e 3)), g (l 16) true (.fld 8 (e 2)), g (l 16) true (.load false 1 (l 18)), g (l 16) true (.len (l 19)), g (l 16) true (.bin .add (l 17) (l 20)), g (l 16) true (.mov (e 0)), g (l 16) true (.nilck (l 22)), g (l 16) true (.fld 15 (l 23)), g (l 16) true (.load false 1 (l 24)), g (l 16) true (.len (l 25)), g (l 16) true (.bin .eql (l 21) (l 26)), i (.pick (l 16) (l 27) (v (.bool false)))] [(4, l 28)])
  (.seq (.seq (.reg [i (.una .not (e 4))] [(10, l 0)])
  (.cond (e 10) (.seq (.reg [] [(1, (v (.bool false)))])
  .ret) .skip))
  (.seq (.reg [i (.nilck (e 0)), i (.fld 15 (l 0)), i (.load false 1 (l 1)), i (.call 3 [(l 2)] true), i (.nilck (e 0)), i (.fld 17 (l 4)), i (.store 1 (l 5) (l 3))] [])
  (.seq (.seq (.reg [i (.fld 7 (e 2)), i (.load false 1 (l 0)), i (.len (l 1))] [(11, l 1), (12, l 2), (13, (v (.int .i64 0)))])
  (.blk 0 (.loop [5, 6, 14] l_prop_laid_final_1)))
  (.seq (.seq (.reg [i (.fld 8 (e 2)), i (.load false 1 (l 0)), i (.len (l 1))] [(15, l 1), (16, l 2), (17, (v (.int .i64 0)))])
  (.blk 2 (.loop [7, 8, 9, 18, 19, 20, 21, 22] l_prop_laid_final_0)))
  (.seq (.reg [] [(1, e 4)])
  .ret)))))))))
def f_prop_laid_final : AFunc := ⟨23, 1, .keep, [.env 1], b_prop_laid_final⟩
def b_prop_parts : ACode :=
  (.seq (.reg [] [(1, (v (.int .i64 0)))])
  (.seq (.seq (.reg [] [(2, e 0)])
  (.blk 0 (.seq (.seq (.reg [i (.bin .eql (e 2) (v (.int .i64 1)))] [(3, l 0)])
  (.cond (e 3) .skip (.reg [i (.bin .eql (e 2) (v (.int .i64 9)))] [(3, l 0)])))
  (.cond (e 3) (.seq (.reg [] [(1, (v (.int .i64 0)))])
  .ret) (.seq (.seq (.reg [i (.bin .eql (e 2) (v (.int .i64 2)))] [(4, l 0)])
  (.cond (e 4) .skip (.reg [i (.bin .eql (e 2) (v (.int .i64 7)))] [(4, l 0)])))
  (.cond (e 4) (.seq (.reg [] [(1, (v (.int .i64 2)))])
  .ret) (.seq (.seq (.reg [i (.bin .eql (e 2) (v (.int .i64 3)))] [(5, l 0)])
  (.cond (e 5) .skip (.seq (.reg [i (.bin .eql (e 2) (v (.int .i64 4)))] [(5, l 0)])
  (.cond (e 5) .skip (.seq (.reg [i (.bin .eql (e 2) (v (.int .i64 5)))] [(5, l 0)])
  (.cond (e 5) .skip (.seq (.reg [i (.bin .eql (e 2) (v (.int .i64 6)))] [(5, l 0)])
  (.cond (e 5) .skip (.seq (.reg [i (.bin .eql (e 2) (v (.int .i64 8)))] [(5, l 0)])
  (.cond (e 5) .skip (.seq (.reg [i (.bin .eql (e 2) (v (.int .i64 10)))] [(5, l 0)])
  (.cond (e 5) .skip (.reg [i (.bin .eql (e 2) (v (.int .i64 11)))] [(5, l 0)])))))))))))))
  (.cond (e 5) (.seq (.reg [] [(1, (v (.int .i64 1)))])
  .ret) .skip))))))))
  (.seq (.reg [] [(1, (v (.int .i64 (-1))))])
  .ret)))
def f_prop_parts : AFunc := ⟨6, 1, .pure, [.env 1], b_prop_parts⟩
def b_prop_blank : ACode :=
  (.seq (.reg [i (.box 12 (e 0))] [(1, l 0), (2, (v (.bool false)))])
  (.seq (.reg [i (.fld 0 (e 1)), i (.load false 1 (l 0)), i (.bin .eql (l 1) (v (.int .i64 1))), g (l 2) false (.fld 0 (e 1)), g (l 2) false (.load false 1 (l 3)), g (l 2) false (.bin .eql (l 4) (v (.int .i64 9))), i (.pick (l 2) (v (.bool true)) (l 5)), i (.fld 0 (e 1)), i (.load false 1 (l 7)), i (.bin .eql (l 8) (v (.int .i64 4))), g (l 9) false (.fld 0 (e 1)), g (l 9) false (.load false 1 (l 10)), g (l 9) false (.bin .eql (l 11) (v (.int .i64 10))), i (.pick (l 9) (v (.bool true)) (l 12)), g (l 13) false (.fld 0 (e 1)), g (l 13) false (.load false 1 (l 14)), g (l 13) false (.bin .eql (l 15) (v (.int .i64 11))), i (.pick (l 13) (v (.bool true)) (l 16))] [(3, l 6), (4, l 17)])
  (.seq (.reg [g (e 3) false (.fld 3 (e 1)), g (e 3) false (.load false 1 (l 0)), g (e 3) false (.bin .eql (l 1) (v (.int .i64 0))), g (e 3) false (.mov (l 2)), g (l 3) true (.fld 4 (e 1)), g (l 3) true (.load false 1 (l 4)), g (l 3) true (.len (l 5)), g (l 3) true (.bin .eql (l 6) (v (.int .i64 0))), g (e 3) false (.pick (l 3) (l 7) (v (.bool false))), i (.pick (e 3) (v (.bool true)) (l 8))] [(5, l 9)])
  (.seq (.reg [g (e 5) true (.fld 0 (e 1)), g (e 5) true (.load false 1 (l 0)), g (e 5) true (.bin .eql (l 1) (v (.int .i64 2))), g (e 5) true (.mov (l 2)), g (l 3) false (.fld 5 (e 1)), g (l 3) false (.load false 1 (l 4)), g (l 3) false (.una .not (l 5)), g (e 5) true (.pick (l 3) (v (.bool true)) (l 6)), i (.pick (e 5) (l 7) (v (.bool false))), g (l 8) true (.fld 0 (e 1)), g (l 8) true (.load false 1 (l 9)), g (l 8) true (.bin .eql (l 10) (v (.int .i64 2))), g (l 8) true (.mov (l 11)), g (l 12) false (.fld 0 (e 1)), g (l 12) false (.load false 1 (l 13)), g (l 12) false (.bin .eql (l 14) (v (.int .i64 3))), g (l 8) true (.pick (l 12) (v (.bool true)) (l 15)), g (l 8) true (.mov (l 16)), g (l 17) false (.fld 6 (e 1)), g (l 17) false (.fld 0 (l 18)), g (l 17) false (.load false 1 (l 19)), g (l 17) false (.len (l 20)), g (l 17) false (.bin .eql (l 21) (v (.int .i64 0))), g (l 8) true (.pick (l 17) (v (.bool true)) (l 22)), i (.pick (l 8) (l 23) (v (.bool false)))] [(5, l 24)])
  (.seq (.reg [g (e 5) true (.mov (e 4)), g (e 5) true (.mov (l 0)), g (l 1) false (.fld 7 (e 1)), g (l 1) false (.load false 1 (l 2)), g (l 1) false (.len (l 3)), g (l 1) false (.fld 8 (e 1)), g (l 1) false (.load false 1 (l 5)), g (l 1) false (.len (l 6)), g (l 1) false (.bin .add (l 4) (l 7)), g (l 1) false (.bin .eql (l 8) (v (.int .i64 0))), g (e 5) true (.pick (l 1) (v (.bool true)) (l 9)), i (.pick (e 5) (l 10) (v (.bool false))), g (l 11) true (.fld 0 (e 1)), g (l 11) true (.load false 1 (l 12)), g (l 11) true (.bin .eql (l 13) (v (.int .i64 5))), g (l 11) true (.mov (l 14)), g (l 15) false (.fld 9 (e 1)), g (l 15) false (.load false 1 (l 16)), g (l 15) false (.len (l 17)), g (l 15) false (.bin .eql (l 18) (v (.int .i64 0))), g (l 11) true (.pick (l 15) (v (.bool true)) (l 19)), i (.pick (l 11) (l 20) (v (.bool false)))] [(5, l 21)])
  (.seq (.reg [g (e 5) true (.fld 0 (e 1)), g (e 5) true (.load false 1 (l 0)), g (e 5) true (.bin .eql (l 1) (v (.int .i64 8))), g (e 5) true (.mov (l 2)), g (l 3) false (.fld 10 (e 1)), g (l 3) false (.load false 1 (l 4)), g (l 3) false (.len (l 5)), g (l 3) false (.bin .eql (l 6) (v (.int .i64 0))), g (l 3) false (.mov (l 7)), g (l 8) true (.fld 11 (e 1)), g (l 8) true (.load false 1 (l 9)), g (l 8) true (.bin .eql (l 10) (v (.int .i64 0))), g (l 3) false (.pick (l 8) (l 11) (v (.bool false))), g (e 5) true (.pick (l 3) (v (.bool true)) (l 12)), i (.pick (e 5) (l 13) (v (.bool false)))] [(2, l 14)])
  .ret))))))
def f_prop_blank : AFunc := ⟨6, 1, .pure, [.env 2], b_prop_blank⟩
def l_slices_IndexFunc_api_LNode_api_LNode_0 : ACode :=
  (.seq (.reg [i (.bin .lss (e 5) (e 4))] [(6, l 0)])
  (.seq (.cond (e 6) .skip (.exit 0))
  (.seq (.blk 1 (.seq (.reg [] [(3, e 5)])
  (.seq (.reg [i (.idxs 12 (e 0) (e 3)), i (.load true 12 (l 0)), i (.callv (e 1) [(l 1)])] [(7, l 2)])
  (.cond (e 7) (.seq (.reg [] [(2, e 3)])
  .ret) .skip))))
  (.reg [i (.bin .add (e 5) (v (.int .i64 1)))] [(5, l 0)]))))
def b_slices_IndexFunc_api_LNode_api_LNode : ACode :=
  (.seq (.reg [] [(2, (v (.int .i64 0)))])
  (.seq (.seq (.reg [i (.len (e 0))] [(4, l 0), (5, (v (.int .i64 0)))])
  (.blk 0 (.loop [2, 3, 6, 7] l_slices_IndexFunc_api_LNode_api_LNode_0)))
  (.seq (.reg [] [(2, (v (.int .i64 (-1))))])
  .ret)))
def f_slices_IndexFunc_api_LNode_api_LNode : AFunc := ⟨8, 2, .pure, [.env 2], b_slices_IndexFunc_api_LNode_api_LNode⟩
def l_prop_inputs_1_0 : ACode :=
  (.seq (.reg [i (.bin .lss (e 13) (e 12))] [(14, l 0)])
  (.seq (.cond (e 14) .skip (.exit 2))
  (.seq (.blk 3 (.seq (.reg [i (.idxs 12 (e 11) (e 13)), i (.load true 12 (l 0)), i (.box 12 (v (.agg [.int .i64 0, .int .i64 0, .int .i64 0, .int .i64 0, .nil0, .bool false, .nil0, .nil0, .nil0, .nil0, .nil0, .int .i64 0]))), i (.store 12 (l 2) (l 1))] [(6, l 2), (5, e 13)])
  (.seq (.reg [i (.fld 0 (e 6)), i (.load false 1 (l 0)), i (.bin .eql (l 1) (v (.int .i64 9))), g (l 2) true (.fld 3 (e 6)), g (l 2) true (.load false 1 (l 3)), g (l 2) true (.load false 1 (e 2)), g (l 2) true (.bin .eql (l 4) (l 5)), i (.pick (l 2) (l 6) (v (.bool false))), g (l 7) true (.mov (e 0)), g (l 7) true (.mov (e 3)), g (l 7) true (.mov (e 5)), g (l 7) true (.callv (l 8) [(l 9), (l 10)]), g (l 7) true (.una .not (l 11)), i (.pick (l 7) (l 12) (v (.bool false)))] [(15, l 13)])
  (.cond (e 15) .ret .skip))))
  (.reg [i (.bin .add (e 13) (v (.int .i64 1)))] [(13, l 0)]))))
def l_prop_inputs_1_1 : ACode :=
  (.seq (.reg [i (.bin .lss (e 9) (e 8))] [(10, l 0)])
  (.seq (.cond (e 10) .skip (.exit 0))
  (.seq (.blk 1 (.seq (.reg [i (.idxs 4 (e 7) (e 9)), i (.load true 4 (l 0)), i (.box 4 (v (.agg [.nil0, .int .i64 0, .int .i64 0, .nil0]))), i (.store 4 (l 2) (l 1))] [(4, l 2), (3, e 9)])
  (.seq (.reg [i (.fld 0 (e 4)), i (.load false 1 (l 0)), i (.len (l 1))] [(11, l 1), (12, l 2), (13, (v (.int .i64 0)))])
  (.blk 2 (.loop [5, 6, 14, 15] l_prop_inputs_1_0)))))
  (.reg [i (.bin .add (e 9) (v (.int .i64 1)))] [(9, l 0)]))))
def b_prop_inputs_1 : ACode :=
  (.seq (.reg [i (.fld 0 (e 1)), i (.load false 1 (l 0)), i (.len (l 1))] [(7, l 1), (8, l 2), (9, (v (.int .i64 0)))])
  (.blk 0 (.loop [3, 4, 5, 6, 10, 11, 12, 13, 14, 15] l_prop_inputs_1_1)))
def f_prop_inputs_1 : AFunc := ⟨16, 3, .keep, [], b_prop_inputs_1⟩
def l_denote_fits_0 : ACode :=
  (.seq (.reg [i (.bin .lss (e 14) (e 13))] [(15, l 0)])
  (.seq (.cond (e 15) .skip (.exit 2))
  (.seq (.blk 3 (.seq (.reg [i (.idxs 4 (e 12) (e 14)), i (.load true 4 (l 0)), i (.box 4 (v (.agg [.int .i64 0, .int .i64 0, .int .u64 0, .str []]))), i (.store 4 (l 2) (l 1))] [(5, l 2), (4, e 14)])
  (.seq (.reg [i (.load true 4 (e 5)), i (.call 2 [(l 0)] false), i (.bin .neq (l 1) (v (.int .i64 0))), g (l 2) false (.fld 0 (e 5)), g (l 2) false (.load false 1 (l 3)), g (l 2) false (.bin .neq (l 4) (v (.int .i64 0))), g (l 2) false (.mov (l 5)), g (l 6) true (.fld 0 (e 5)), g (l 6) true (.load false 1 (l 7)), g (l 6) true (.mov (e 1)), g (l 6) true (.mov (e 4)), g (l 6) true (.idxs 1 (l 9) (l 10)), g (l 6) true (.load false 1 (l 11)), g (l 6) true (.bin .neq (l 8) (l 12)), g (l 2) false (.pick (l 6) (l 13) (v (.bool false))), i (.pick (l 2) (v (.bool true)) (l 14))] [(16, l 15)])
  (.cond (e 16) (.seq (.reg [] [(2, (v (.bool false)))])
  .ret) .skip))))
  (.reg [i (.bin .add (e 14) (v (.int .i64 1)))] [(14, l 0)]))))
def l_denote_fits_1 : ACode :=
  (.seq (.reg [i (.bin .lss (e 9) (e 8))] [(10, l 0)])
  (.seq (.cond (e 10) .skip (.exit 0))
  (.seq (.blk 1 (.seq (.reg [i (.idxs 1 (e 7) (e 9)), i (.load false 1 (l 0))] [(3, l 1)])
  (.seq (.seq (.reg [i (.len (e 3)), i (.len (e 1)), i (.bin .neq (l 0) (l 1))] [(11, l 2)])
  (.cond (e 11) (.seq (.reg [] [(2, (v (.bool false)))])
  .ret) .skip))
  (.seq (.reg [i (.len (e 3))] [(12, e 3), (13, l 0), (14, (v (.int .i64 0)))])
  (.blk 2 (.loop [2, 4, 5, 15, 16] l_denote_fits_0))))))
  (.reg [i (.bin .add (e 9) (v (.int .i64 1)))] [(9, l 0)]))))
def b_denote_fits : ACode :=
  (.seq (.reg [] [(2, (v (.bool false)))])
  (.seq (.seq (.reg [i (.len (e 0)), i (.bin .gtr (l 0) (v (.int .i64 12)))] [(6, l 1)])
  (.cond (e 6) (.seq (.reg [] [(2, (v (.bool false)))])
  .ret) .skip))
  (.seq (.seq (.reg [i (.len (e 0))] [(7, e 0), (8, l 0), (9, (v (.int .i64 0)))])
  (.blk 0 (.loop [2, 3, 4, 5, 10, 11, 12, 13, 14, 15, 16] l_denote_fits_1)))
  (.seq (.reg [] [(2, (v (.bool true)))])
  .ret))))
def f_denote_fits : AFunc := ⟨17, 2, .pure, [.env 2], b_denote_fits⟩
def b_plan_all : ACode :=
  (.seq (.reg [i (.box 1 (e 0)), i (.box 1 (e 1))] [(2, l 0), (3, l 1), (4, (v (.nilf)))])
  (.seq (.reg [i (.mkfn 149 [] [(e 2), (e 3)])] [(4, l 0)])
  .ret))
def f_plan_all : AFunc := ⟨5, 2, .keep, [.env 4], b_plan_all⟩
def l_row_lists_0 : ACode :=
  (.seq (.reg [i (.bin .lss (e 11) (e 10))] [(12, l 0)])
  (.seq (.cond (e 12) .skip (.exit 2))
  (.seq (.blk 3 (.seq (.reg [i (.idxs 1 (e 9) (e 11)), i (.load false 1 (l 0))] [(4, l 1)])
  (.seq (.reg [i (.call 17 [(e 4)] false), i (.una .not (l 0))] [(13, l 1)])
  (.cond (e 13) (.seq (.reg [] [(1, (v (.int .i64 150)))])
  .ret) .skip))))
  (.reg [i (.bin .add (e 11) (v (.int .i64 1)))] [(11, l 0)]))))
def l_row_lists_1 : ACode :=
  (.seq (.reg [i (.bin .lss (e 7) (e 6))] [(8, l 0)])
  (.seq (.cond (e 8) .skip (.exit 0))
  (.seq (.blk 1 (.seq (.reg [i (.idxs 1 (e 5) (e 7)), i (.load false 1 (l 0))] [(3, l 1)])
  (.seq (.seq (.reg [i (.len (e 3))] [(9, e 3), (10, l 0), (11, (v (.int .i64 0)))])
  (.blk 2 (.loop [1, 4, 12, 13] l_row_lists_0)))
  (.reg [i (.len (e 3)), i (.maxs (e 2) [(l 0)])] [(2, l 1)]))))
  (.reg [i (.bin .add (e 7) (v (.int .i64 1)))] [(7, l 0)]))))
def b_row_lists : ACode :=
  (.seq (.reg [] [(1, (v (.int .i64 0)))])
  (.seq (.reg [] [(2, (v (.int .i64 0)))])
  (.seq (.seq (.reg [i (.len (e 0))] [(5, e 0), (6, l 0), (7, (v (.int .i64 0)))])
  (.blk 0 (.loop [1, 3, 4, 8, 9, 10, 11, 12, 13] l_row_lists_1)))
  (.seq (.seq (.reg [i (.bin .gtr (e 2) (v (.int .i64 8000)))] [(14, l 0)])
  (.cond (e 14) (.seq (.reg [] [(1, (v (.int .i64 3)))])
  .ret) .skip))
  (.seq (.reg [] [(1, (v (.int .i64 0)))])
  .ret)))))
def f_row_lists : AFunc := ⟨15, 1, .pure, [.env 1], b_row_lists⟩
def b_row_Sorted : ACode :=
  (.seq (.reg [i (.mov (v (.nil0)))] [(1, l 0), (2, (v (.int .i64 0)))])
  (.seq (.seq (.reg [i (.mkl 1 [(e 0)]), i (.call 31 [(l 0)] false)] [(3, l 1)])
  (.seq (.reg [i (.bin .neq (e 3) (v (.int .i64 0)))] [(4, l 0)])
  (.cond (e 4) (.seq (.reg [i (.mov (v (.nil0)))] [(1, l 0), (2, e 3)])
  .ret) .skip)))
  (.seq (.reg [i (.call 65 [(e 0)] true)] [(1, l 0), (2, (v (.int .i64 0)))])
  .ret)))
def f_row_Sorted : AFunc := ⟨5, 1, .pure, [.env 1, .env 2], b_row_Sorted⟩
def l_slices_Concat_api_Row_api_Row_0 : ACode :=
  (.seq (.reg [i (.bin .lss (e 13) (e 12))] [(14, l 0)])
  (.seq (.cond (e 14) .skip (.exit 2))
  (.seq (.blk 3 (.seq (.reg [i (.idxs 1 (e 11) (e 13)), i (.load false 1 (l 0))] [(5, l 1)])
  (.reg [i (.app 1 (e 4) (e 5))] [(4, l 0)])))
  (.reg [i (.bin .add (e 13) (v (.int .i64 1)))] [(13, l 0)]))))
def l_slices_Concat_api_Row_api_Row_1 : ACode :=
  (.seq (.reg [i (.bin .lss (e 8) (e 7))] [(9, l 0)])
  (.seq (.cond (e 9) .skip (.exit 0))
  (.seq (.blk 1 (.seq (.reg [i (.idxs 1 (e 6) (e 8)), i (.load false 1 (l 0))] [(3, l 1)])
  (.seq (.reg [i (.len (e 3)), i (.bin .add (e 2) (l 0))] [(2, l 1)])
  (.seq (.reg [i (.bin .lss (e 2) (v (.int .i64 0)))] [(10, l 0)])
  (.cond (e 10) (.reg [i (.bad), i (.bad)] []) .skip)))))
  (.reg [i (.bin .add (e 8) (v (.int .i64 1)))] [(8, l 0)]))))
def b_slices_Concat_api_Row_api_Row : ACode :=
  (.seq (.reg [i (.mov (v (.nil0)))] [(1, l 0)])
  (.seq (.reg [] [(2, (v (.int .i64 0)))])
  (.seq (.seq (.reg [i (.len (e 0))] [(6, e 0), (7, l 0), (8, (v (.int .i64 0)))])
  (.blk 0 (.loop [3, 9, 10] l_slices_Concat_api_Row_api_Row_1)))
  (.seq (.reg [i (.call 178 [(v (.nil0)), (e 2)] false)] [(4, l 0)])
  (.seq (.seq (.reg [i (.len (e 0))] [(11, e 0), (12, l 0), (13, (v (.int .i64 0)))])
  (.blk 2 (.loop [5, 14] l_slices_Concat_api_Row_api_Row_0)))
  (.seq (.reg [] [(1, e 4)])
  .ret))))))
def f_slices_Concat_api_Row_api_Row : AFunc := ⟨15, 1, .pure, [.env 1], b_slices_Concat_api_Row_api_Row⟩
def b_exec_sorted : ACode :=
  (.seq (.reg [i (.mov (v (.nil0)))] [(1, l 0), (2, (v (.int .i64 0)))])
  (.seq (.seq (.reg [i (.len (e 0)), i (.bin .gtr (l 0) (v (.int .i64 8000)))] [(5, l 1)])
  (.cond (e 5) (.seq (.reg [] [(1, e 0), (2, (v (.int .i64 0)))])
  .ret) .skip))
  (.seq (.reg [i (.call 66 [(e 0)] false), i (.ext 0 (l 0)), i (.ext 1 (l 0))] [(3, l 1), (4, l 2)])
  (.seq (.seq (.reg [i (.bin .neq (e 4) (v (.int .i64 0)))] [(6, l 0)])
  (.cond (e 6) (.seq (.reg [i (.mov (v (.nil0)))] [(1, l 0), (2, (v (.int .i64 140)))])
  .ret) .skip))
  (.seq (.reg [] [(1, e 3), (2, (v (.int .i64 0)))])
  .ret)))))
def f_exec_sorted : AFunc := ⟨7, 1, .pure, [.env 1, .env 2], b_exec_sorted⟩
def l_expr_Eval_0 : ACode :=
  (.seq (.reg [i (.bin .lss (e 12) (e 11))] [(13, l 0)])
  (.seq (.cond (e 13) .skip (.exit 0))
  (.seq (.blk 1 (.seq (.reg [i (.idxs 1 (e 10) (e 12)), i (.load false 1 (l 0))] [(7, l 1)])
  (.seq (.reg [i (.load false 1 (e 3)), i (.len (l 0)), i (.bin .geq (e 7) (l 1)), g (l 2) false (.load false 1 (e 3)), g (l 2) false (.mov (e 7)), g (l 2) false (.idxs 4 (l 3) (l 4)), g (l 2) false (.load true 4 (l 5)), g (l 2) false (.call 151 [(l 6)] false), g (l 2) false (.una .not (l 7)), i (.pick (l 2) (v (.bool true)) (l 8))] [(14, l 9)])
  (.cond (e 14) (.seq (.reg [i (.build [.int .i64 0, .int .i64 0, .int .u64 0, .str []] []), i (.store 4 (e 4) (l 0))] [(5, (v (.int .i64 2)))])
  .ret) .skip))))
  (.reg [i (.bin .add (e 12) (v (.int .i64 1)))] [(12, l 0)]))))
def b_expr_Eval : ACode :=
  (.seq (.reg [i (.box 1 (e 0)), i (.box 1 (e 1)), i (.box 4 (v (.agg [.int .i64 0, .int .i64 0, .int .u64 0, .str []])))] [(2, l 0), (3, l 1), (4, l 2), (5, (v (.int .i64 0)))])
  (.seq (.seq (.reg [i (.load true 1 (e 2)), i (.call 9 [(l 0)] false)] [(6, l 1)])
  (.seq (.reg [i (.bin .neq (e 6) (v (.int .i64 0)))] [(9, l 0)])
  (.cond (e 9) (.seq (.reg [i (.build [.int .i64 0, .int .i64 0, .int .u64 0, .str []] []), i (.store 4 (e 4) (l 0))] [(5, e 6)])
  .ret) .skip)))
  (.seq (.seq (.reg [i (.load true 1 (e 2)), i (.call 37 [(l 0)] false), i (.len (l 1))] [(10, l 1), (11, l 2), (12, (v (.int .i64 0)))])
  (.blk 0 (.loop [5, 7, 13, 14] l_expr_Eval_0)))
  (.seq (.reg [i (.call 146 [] false), i (.box 1 (v (.nilm))), i (.store 1 (l 1) (l 0))] [(8, l 1)])
  (.seq (.reg [i (.load true 1 (e 2)), i (.mkfn 148 [] [(e 3), (e 8)]), i (.call 147 [(l 0), (l 1)] false), i (.ext 0 (l 2)), i (.ext 1 (l 2)), i (.store 4 (e 4) (l 3))] [(5, l 4)])
  .ret)))))
def f_expr_Eval : AFunc := ⟨15, 2, .pure, [.cell true 4 4, .env 5], b_expr_Eval⟩
def l_exec_grouped_0 : ACode :=
  (.seq (.reg [i (.bin .lss (e 19) (e 18))] [(20, l 0)])
  (.seq (.cond (e 20) .skip (.exit 2))
  (.seq (.blk 3 (.seq (.reg [i (.idxs 2 (e 17) (e 19)), i (.load true 2 (l 0)), i (.box 2 (v (.agg [.int .i64 0, .nil0]))), i (.store 2 (l 2) (l 1))] [(12, l 2), (11, e 19)])
  (.seq (.reg [i (.load false 1 (e 5)), i (.load true 2 (e 12)), i (.fld 1 (e 9)), i (.load false 1 (l 2)), i (.callv (l 0) [(e 11), (l 1), (l 3)]), i (.ext 0 (l 4)), i (.ext 1 (l 4)), i (.box 4 (v (.agg [.int .i64 0, .int .i64 0, .int .u64 0, .str []]))), i (.store 4 (l 7) (l 5))] [(13, l 7), (14, l 6)])
  (.seq (.seq (.reg [i (.bin .neq (e 14) (v (.int .i64 0)))] [(21, l 0)])
  (.cond (e 21) (.seq (.reg [i (.store 1 (e 6) (v (.nil0))), i (.store 1 (e 7) (v (.int .i64 140)))] [])
  .ret) .skip))
  (.reg [i (.load true 4 (e 13)), i (.mkl 4 [(l 0)]), i (.app 4 (e 10) (l 1))] [(10, l 2)])))))
  (.reg [i (.bin .add (e 19) (v (.int .i64 1)))] [(19, l 0)]))))
def q_exec_grouped_0 : ACode :=
  (.blk 1 (.seq (.reg [i (.fld 0 (e 9)), i (.load false 1 (l 0)), i (.call 16 [(l 1)] true)] [(10, l 2)])
  (.seq (.seq (.reg [i (.fld 8 (e 4)), i (.load false 1 (l 0)), i (.len (l 1))] [(17, l 1), (18, l 2), (19, (v (.int .i64 0)))])
  (.blk 2 (.loop [20] l_exec_grouped_0)))
  (.reg [i (.load false 1 (e 8)), i (.mkl 1 [(e 10)]), i (.app 1 (l 0) (l 1)), i (.store 1 (e 8) (l 2))] []))))
def q_exec_grouped_0p : ACode :=
  (.reg [i (.box 2 (v (.agg [.nil0, .nil0]))), i (.store 2 (l 0) (e 16))] [(9, l 0)])
def b_exec_grouped : ACode :=
  (.seq (.reg [i (.box 12 (e 1)), i (.box 1 (e 3)), i (.box 1 (v (.nil0))), i (.box 1 (v (.int .i64 0)))] [(4, l 0), (5, l 1), (6, l 2), (7, l 3)])
  (.seq (.reg [i (.box 1 (v (.nil0)))] [(8, l 0)])
  (.seq (.seq (.lift 8 0 1 (.reg [i (.fld 7 (e 4)), i (.load false 1 (l 0)), i (.call 144 [(e 0), (l 1), (e 2)] false)] [(15, l 2)]))
  (.blk 0 (.rng 22 (e 15) 145)))
  (.seq (.reg [i (.load false 1 (e 8)), i (.call 78 [(l 0)] false), i (.ext 0 (l 1)), i (.ext 1 (l 1)), i (.store 1 (e 6) (l 2)), i (.store 1 (e 7) (l 3))] [])
  .ret))))
def f_exec_grouped : AFunc := ⟨22, 4, .pure, [.cell false 1 6, .cell false 1 7], b_exec_grouped⟩
def r_exec_grouped_0 : ARound := ⟨22, [16], q_exec_grouped_0p, q_exec_grouped_0⟩
def b_exec_partial : ACode :=
  (.seq (.reg [i (.box 12 (e 0)), i (.mov (v (.nil0)))] [(2, l 0), (3, l 1), (4, (v (.int .i64 0)))])
  (.seq (.reg [i (.load true 12 (e 2)), i (.call 153 [(e 1), (l 0), (v (.bool false)), (v (.fn 176 [] []))] false), i (.ext 0 (l 1)), i (.ext 1 (l 1))] [(3, l 2), (4, l 3)])
  .ret))
def f_exec_partial : AFunc := ⟨5, 2, .pure, [.env 3, .env 4], b_exec_partial⟩
def b_exec_final : ACode :=
  (.seq (.reg [i (.box 12 (e 0)), i (.mov (v (.nil0)))] [(2, l 0), (3, l 1), (4, (v (.int .i64 0)))])
  (.seq (.reg [i (.load true 12 (e 2)), i (.mkfn 216 [] [(e 2)]), i (.call 153 [(e 1), (l 0), (v (.bool true)), (l 1)] false), i (.ext 0 (l 2)), i (.ext 1 (l 2))] [(3, l 3), (4, l 4)])
  .ret))
def f_exec_final : AFunc := ⟨5, 2, .pure, [.env 3, .env 4], b_exec_final⟩
def l_slices_IndexFunc_api_Row_api_Row_0 : ACode :=
  (.seq (.reg [i (.bin .lss (e 5) (e 4))] [(6, l 0)])
  (.seq (.cond (e 6) .skip (.exit 0))
  (.seq (.blk 1 (.seq (.reg [] [(3, e 5)])
  (.seq (.reg [i (.idxs 1 (e 0) (e 3)), i (.load false 1 (l 0)), i (.callv (e 1) [(l 1)])] [(7, l 2)])
  (.cond (e 7) (.seq (.reg [] [(2, e 3)])
  .ret) .skip))))
  (.reg [i (.bin .add (e 5) (v (.int .i64 1)))] [(5, l 0)]))))
def b_slices_IndexFunc_api_Row_api_Row : ACode :=
  (.seq (.reg [] [(2, (v (.int .i64 0)))])
  (.seq (.seq (.reg [i (.len (e 0))] [(4, l 0), (5, (v (.int .i64 0)))])
  (.blk 0 (.loop [2, 3, 6, 7] l_slices_IndexFunc_api_Row_api_Row_0)))
  (.seq (.reg [] [(2, (v (.int .i64 (-1))))])
  .ret)))
def f_slices_IndexFunc_api_Row_api_Row : AFunc := ⟨8, 2, .pure, [.env 2], b_slices_IndexFunc_api_Row_api_Row⟩
def b_value_blank : ACode :=
  (.seq (.reg [i (.box 4 (e 0)), i (.box 4 (v (.agg [.int .i64 0, .int .i64 0, .int .u64 0, .str []])))] [(1, l 0), (2, l 1)])
  (.seq (.seq (.reg [i (.fld 0 (e 1)), i (.load false 1 (l 0))] [(3, l 1)])
  (.blk 0 (.seq (.blk 5 (.seq (.blk 4 (.seq (.blk 3 (.seq (.blk 2 (.seq (.blk 1 (.seq (.seq (.seq (.reg [i (.bin .eql (e 3) (v (.int .i64 1)))] [(4, l 0)])
  (.cond (e 4) (.exit 1) .skip))
  (.seq (.seq (.reg [i (.bin .eql (e 3) (v (.int .i64 2)))] [(5, l 0)])
  (.cond (e 5) (.exit 2) .skip))
  (.seq (.seq (.reg [i (.bin .eql (e 3) (v (.int .i64 0)))] [(6, l 0)])
  (.cond (e 6) (.exit 3) .skip))
  (.seq (.seq (.reg [i (.bin .eql (e 3) (v (.int .i64 3)))] [(7, l 0)])
  (.cond (e 7) (.exit 4) .skip))
  (.seq (.reg [i (.bin .eql (e 3) (v (.int .i64 4)))] [(8, l 0)])
  (.cond (e 8) (.exit 5) .skip))))))
  (.exit 0)))
  (.seq (.reg [i (.fld 1 (e 1)), i (.load false 1 (l 0)), i (.bin .neq (l 1) (v (.int .i64 0))), g (l 2) true (.fld 1 (e 1)), g (l 2) true (.load false 1 (l 3)), g (l 2) true (.bin .neq (l 4) (v (.int .i64 1))), i (.pick (l 2) (l 5) (v (.bool false)))] [(9, l 6)])
  (.cond (e 9) (.exit 0) .skip))))
  (.reg [i (.fld 1 (e 1)), i (.store 1 (l 0) (v (.int .i64 0)))] [])))
  (.seq (.reg [i (.fld 0 (e 1)), i (.store 1 (l 0) (v (.int .i64 0)))] [])
  (.exit 0))))
  (.seq (.seq (.reg [i (.fld 3 (e 1)), i (.load false 1 (l 0)), i (.lent (l 1)), i (.bin .leq (l 2) (v (.int .i64 40)))] [(10, l 3)])
  (.cond (e 10) (.reg [i (.fld 0 (e 1)), i (.store 1 (l 0) (v (.int .i64 0))), i (.fld 3 (e 1)), i (.store 1 (l 2) (v (.str [])))] []) .skip))
  (.exit 0))))
  (.seq (.reg [i (.fld 0 (e 1)), i (.store 1 (l 0) (v (.int .i64 0))), i (.fld 1 (e 1)), i (.store 1 (l 2) (v (.int .i64 0))), i (.fld 2 (e 1)), i (.store 1 (l 4) (v (.int .u64 0)))] [])
  (.exit 0)))))
  (.seq (.reg [i (.load true 4 (e 1)), i (.store 4 (e 2) (l 0))] [])
  .ret)))
def f_value_blank : AFunc := ⟨11, 1, .pure, [.cell true 4 2], b_value_blank⟩
def l_row_asked_0 : ACode :=
  (.seq (.reg [i (.bin .lss (e 10) (e 9))] [(11, l 0)])
  (.seq (.cond (e 11) .skip (.exit 0))
  (.seq (.blk 1 (.seq (.reg [i (.idxs 1 (e 8) (e 10)), i (.load false 1 (l 0))] [(5, l 1)])
  (.seq (.reg [i (.call 101 [(e 5), (e 1)] false), i (.una .not (l 0))] [(12, l 1)])
  (.cond (e 12) (.seq (.reg [] [(2, (v (.int .i64 2)))])
  .ret) .skip))))
  (.reg [i (.bin .add (e 10) (v (.int .i64 1)))] [(10, l 0)]))))
def b_row_asked : ACode :=
  (.seq (.reg [] [(2, (v (.int .i64 0)))])
  (.seq (.seq (.reg [i (.mkl 1 [(e 0)]), i (.call 31 [(l 0)] false)] [(3, l 1)])
  (.seq (.reg [i (.bin .neq (e 3) (v (.int .i64 0)))] [(6, l 0)])
  (.cond (e 6) (.seq (.reg [] [(2, e 3)])
  .ret) .skip)))
  (.seq (.reg [i (.mov (v (.fn 308 [] [])))] [(4, l 0)])
  (.seq (.seq (.reg [i (.len (e 1)), i (.bin .gtr (l 0) (v (.int .i64 16))), g (l 1) false (.mov (e 1)), g (l 1) false (.mov (e 4)), g (l 1) false (.call 7 [(l 2), (l 3)] false), i (.pick (l 1) (v (.bool true)) (l 4))] [(7, l 5)])
  (.cond (e 7) (.seq (.reg [] [(2, (v (.int .i64 2)))])
  .ret) .skip))
  (.seq (.seq (.reg [i (.len (e 0))] [(8, e 0), (9, l 0), (10, (v (.int .i64 0)))])
  (.blk 0 (.loop [2, 5, 11, 12] l_row_asked_0)))
  (.seq (.reg [] [(2, (v (.int .i64 0)))])
  .ret))))))
def f_row_asked : AFunc := ⟨13, 2, .pure, [.env 2], b_row_asked⟩
def l_row_take_0 : ACode :=
  (.seq (.reg [i (.bin .lss (e 7) (e 6))] [(8, l 0)])
  (.seq (.cond (e 8) .skip (.exit 0))
  (.seq (.blk 1 (.seq (.reg [i (.idxs 1 (e 5) (e 7)), i (.load false 1 (l 0))] [(4, l 1)])
  (.reg [i (.idxs 4 (e 0) (e 4)), i (.load true 4 (l 0)), i (.mkl 4 [(l 1)]), i (.app 4 (e 3) (l 2))] [(3, l 3)])))
  (.reg [i (.bin .add (e 7) (v (.int .i64 1)))] [(7, l 0)]))))
def b_row_take : ACode :=
  (.seq (.reg [i (.mov (v (.nil0)))] [(2, l 0)])
  (.seq (.reg [i (.mknil 4)] [(3, l 0)])
  (.seq (.seq (.reg [i (.len (e 1))] [(5, e 1), (6, l 0), (7, (v (.int .i64 0)))])
  (.blk 0 (.loop [4, 8] l_row_take_0)))
  (.seq (.reg [] [(2, e 3)])
  .ret))))
def f_row_take : AFunc := ⟨9, 2, .pure, [.env 2], b_row_take⟩
def b_slices_Sort_int_int : ACode :=
  (.seq (.reg [i (.len (e 0))] [(1, l 0)])
  (.reg [i (.conv .u64 (e 1)), i (.call 12 [(l 0)] false), i (.call 34 [(e 0), (v (.int .i64 0)), (e 1), (l 1)] false)] []))
def f_slices_Sort_int_int : AFunc := ⟨2, 1, .keep, [], b_slices_Sort_int_int⟩
def l_slices_Compact_int_int_0 : ACode :=
  (.seq (.seq (.reg [i (.len (e 3)), i (.bin .lss (e 4) (l 0))] [(8, l 1)])
  (.cond (e 8) .skip (.exit 2)))
  (.seq (.blk 3 (.seq (.reg [i (.idxs 1 (e 3) (e 4)), i (.load false 1 (l 0)), i (.bin .sub (e 4) (v (.int .i64 1))), i (.idxs 1 (e 3) (l 2)), i (.load false 1 (l 3)), i (.bin .neq (l 1) (l 4))] [(9, l 5)])
  (.cond (e 9) (.seq (.reg [i (.idxs 1 (e 3) (e 4)), i (.load false 1 (l 0)), i (.idxs 1 (e 0) (e 2)), i (.store 1 (l 2) (l 1))] [])
  (.reg [i (.bin .add (e 2) (v (.int .i64 1)))] [(2, l 0)])) .skip)))
  (.reg [i (.bin .add (e 4) (v (.int .i64 1)))] [(4, l 0)])))
def l_slices_Compact_int_int_1 : ACode :=
  (.seq (.seq (.reg [i (.len (e 0)), i (.bin .lss (e 2) (l 0))] [(6, l 1)])
  (.cond (e 6) .skip (.exit 0)))
  (.seq (.blk 1 (.seq (.reg [i (.idxs 1 (e 0) (e 2)), i (.load false 1 (l 0)), i (.bin .sub (e 2) (v (.int .i64 1))), i (.idxs 1 (e 0) (l 2)), i (.load false 1 (l 3)), i (.bin .eql (l 1) (l 4))] [(7, l 5)])
  (.cond (e 7) (.seq (.reg [i (.slice 1 (e 0) (some (e 2)) none)] [(3, l 0)])
  (.seq (.seq (.reg [] [(4, (v (.int .i64 1)))])
  (.blk 2 (.loop [8, 9] l_slices_Compact_int_int_0)))
  (.seq (.reg [i (.slice 1 (e 0) (some (e 2)) none), i (.clr (.int .i64 0) (l 0))] [])
  (.seq (.reg [i (.slice 1 (e 0) none (some (e 2)))] [(1, l 0)])
  .ret)))) .skip)))
  (.reg [i (.bin .add (e 2) (v (.int .i64 1)))] [(2, l 0)])))
def b_slices_Compact_int_int : ACode :=
  (.seq (.reg [i (.mov (v (.nil0)))] [(1, l 0)])
  (.seq (.seq (.reg [i (.len (e 0)), i (.bin .lss (l 0) (v (.int .i64 2)))] [(5, l 1)])
  (.cond (e 5) (.seq (.reg [] [(1, e 0)])
  .ret) .skip))
  (.seq (.seq (.reg [] [(2, (v (.int .i64 1)))])
  (.blk 0 (.loop [1, 3, 4, 6, 7, 8, 9] l_slices_Compact_int_int_1)))
  (.seq (.reg [] [(1, e 0)])
  .ret))))
def f_slices_Compact_int_int : AFunc := ⟨10, 1, .keep, [.env 1], b_slices_Compact_int_int⟩
def b_expr_over_int_1 : ACode :=
  (.seq (.reg [i (.mov (v (.nil0)))] [(2, l 0)])
  (.seq (.reg [i (.load false 1 (e 1)), i (.load false 1 (e 1)), i (.len (l 1)), i (.bin .sub (l 2) (e 0)), i (.slice 1 (l 0) (some (l 3)) none), i (.call 3 [(l 4)] true)] [(3, l 5)])
  (.seq (.reg [i (.load false 1 (e 1)), i (.load false 1 (e 1)), i (.len (l 1)), i (.bin .sub (l 2) (e 0)), i (.slice 1 (l 0) none (some (l 3))), i (.store 1 (e 1) (l 4))] [])
  (.seq (.reg [] [(2, e 3)])
  .ret))))
def f_expr_over_int_1 : AFunc := ⟨4, 2, .keep, [.env 2], b_expr_over_int_1⟩
def b_value_Plain : ACode :=
  (.seq (.reg [i (.box 4 (e 0))] [(1, l 0), (2, (v (.bool false)))])
  (.seq (.reg [i (.load true 4 (e 1)), i (.call 2 [(l 0)] false), i (.bin .eql (l 1) (v (.int .i64 0))), g (l 2) true (.fld 0 (e 1)), g (l 2) true (.load false 1 (l 3)), g (l 2) true (.bin .neq (l 4) (v (.int .i64 4))), i (.pick (l 2) (l 5) (v (.bool false)))] [(2, l 6)])
  .ret))
def f_value_Plain : AFunc := ⟨3, 1, .pure, [.env 2], b_value_Plain⟩
def b_prop_laid_scan_1 : ACode :=
  (.seq (.reg [] [(1, (v (.bool false)))])
  (.seq (.reg [i (.bin .lss (e 0) (v (.int .i64 1))), g (l 0) false (.mov (e 0)), g (l 0) false (.bin .gtr (l 1) (v (.int .i64 3))), i (.pick (l 0) (v (.bool true)) (l 2))] [(1, l 3)])
  .ret))
def f_prop_laid_scan_1 : AFunc := ⟨2, 1, .pure, [.env 1], b_prop_laid_scan_1⟩
def b_prop_laid_input_1 : ACode :=
  (.seq (.reg [] [(1, (v (.bool false)))])
  (.seq (.reg [i (.bin .lss (e 0) (v (.int .i64 0))), g (l 0) false (.mov (e 0)), g (l 0) false (.bin .gtr (l 1) (v (.int .i64 4))), i (.pick (l 0) (v (.bool true)) (l 2))] [(1, l 3)])
  .ret))
def f_prop_laid_input_1 : AFunc := ⟨2, 1, .pure, [.env 1], b_prop_laid_input_1⟩
def l_plan_all_1_0 : ACode :=
  (.seq (.reg [i (.bin .lss (e 19) (e 18))] [(20, l 0)])
  (.seq (.cond (e 20) .skip (.exit 4))
  (.seq (.blk 5 (.seq (.reg [i (.idxs 1 (e 17) (e 19)), i (.load false 1 (l 0))] [(7, l 1)])
  (.seq (.reg [i (.build [.int .i64 0, .int .i64 0, .int .i64 0] [(0, 1, (e 3)), (1, 1, (e 6)), (2, 1, (e 7))]), i (.callv (e 0) [(l 0), (e 5)]), i (.una .not (l 1))] [(21, l 2)])
  (.cond (e 21) .ret .skip))))
  (.reg [i (.bin .add (e 19) (v (.int .i64 1)))] [(19, l 0)]))))
def l_plan_all_1_1 : ACode :=
  (.seq (.reg [i (.bin .lss (e 15) (e 14))] [(16, l 0)])
  (.seq (.cond (e 16) .skip (.exit 2))
  (.seq (.blk 3 (.seq (.reg [i (.idxs 1 (e 13) (e 15)), i (.load false 1 (l 0))] [(6, l 1)])
  (.seq (.reg [i (.fld 0 (e 1)), i (.load false 1 (l 0)), i (.idxs 4 (l 1) (e 5)), i (.load true 4 (l 2)), i (.load false 1 (e 2)), i (.call 38 [(l 3), (l 4)] false), i (.len (l 5))] [(17, l 5), (18, l 6), (19, (v (.int .i64 0)))])
  (.blk 4 (.loop [7, 20, 21] l_plan_all_1_0)))))
  (.reg [i (.bin .add (e 15) (v (.int .i64 1)))] [(15, l 0)]))))
def l_plan_all_1_2 : ACode :=
  (.seq (.reg [i (.bin .lss (e 10) (e 9))] [(11, l 0)])
  (.seq (.cond (e 11) .skip (.exit 0))
  (.seq (.blk 1 (.seq (.reg [i (.idxs 4 (e 8) (e 10)), i (.load true 4 (l 0)), i (.box 4 (v (.agg [.nil0, .int .i64 0, .int .i64 0, .nil0]))), i (.store 4 (l 2) (l 1))] [(4, l 2), (3, e 10)])
  (.seq (.reg [i (.load true 1 (e 1)), i (.call 77 [(l 0), (e 3)] false)] [(5, l 1)])
  (.seq (.seq (.reg [i (.bin .lss (e 5) (v (.int .i64 0)))] [(12, l 0)])
  (.cond (e 12) (.exit 1) .skip))
  (.seq (.reg [i (.load true 4 (e 4)), i (.load false 1 (e 2)), i (.call 38 [(l 0), (l 1)] false), i (.len (l 2))] [(13, l 2), (14, l 3), (15, (v (.int .i64 0)))])
  (.blk 2 (.loop [6, 7, 16, 17, 18, 19, 20, 21] l_plan_all_1_1)))))))
  (.reg [i (.bin .add (e 10) (v (.int .i64 1)))] [(10, l 0)]))))
def b_plan_all_1 : ACode :=
  (.seq (.reg [i (.fld 0 (e 1)), i (.load false 1 (l 0)), i (.len (l 1))] [(8, l 1), (9, l 2), (10, (v (.int .i64 0)))])
  (.blk 0 (.loop [3, 4, 5, 6, 7, 11, 12, 13, 14, 15, 16, 17, 18, 19, 20, 21] l_plan_all_1_2)))
def f_plan_all_1 : AFunc := ⟨22, 3, .keep, [], b_plan_all_1⟩
def b_plan_reader : ACode :=
  (.seq (.reg [i (.box 1 (e 0))] [(2, l 0), (3, (v (.int .i64 0)))])
  (.seq (.seq (.reg [i (.load true 1 (e 2)), i (.call 76 [(l 0), (e 1)] false), i (.ext 0 (l 1)), i (.ext 1 (l 1)), i (.ext 2 (l 1))] [(4, l 2), (5, l 4)])
  (.seq (.reg [] [(6, e 5)])
  (.cond (e 6) (.seq (.reg [] [(3, e 4)])
  .ret) .skip)))
  (.seq (.reg [] [(3, (v (.int .i64 (-1))))])
  .ret)))
def f_plan_reader : AFunc := ⟨7, 2, .pure, [.env 3], b_plan_reader⟩
def b_row_right : ACode :=
  (.seq (.reg [] [(1, (v (.bool false)))])
  (.seq (.reg [i (.mov (v (.fn 14 [] [])))] [(2, l 0)])
  (.seq (.reg [i (.len (e 0)), i (.bin .leq (l 0) (v (.int .i64 16))), g (l 1) true (.mov (e 0)), g (l 1) true (.mov (e 2)), g (l 1) true (.call 15 [(l 2), (l 3)] false), g (l 1) true (.una .not (l 4)), i (.pick (l 1) (l 5) (v (.bool false)))] [(1, l 6)])
  .ret)))
def f_row_right : AFunc := ⟨3, 1, .pure, [.env 1], b_row_right⟩
def b_row_sorted : ACode :=
  (.seq (.reg [i (.mov (v (.nil0)))] [(1, l 0)])
  (.seq (.reg [i (.call 41 [(e 0)] true)] [(2, l 0)])
  (.seq (.reg [i (.call 42 [(e 2), (v (.fn 72 [] []))] false)] [])
  (.seq (.reg [] [(1, e 2)])
  .ret))))
def f_row_sorted : AFunc := ⟨3, 1, .fresh 1, [.env 1], b_row_sorted⟩
def b_slices_Grow_api_Row_api_Row : ACode :=
  (.seq (.reg [i (.mov (v (.nil0)))] [(2, l 0)])
  (.seq (.seq (.reg [i (.bin .lss (e 1) (v (.int .i64 0)))] [(3, l 0)])
  (.cond (e 3) (.reg [i (.bad), i (.bad)] []) .skip))
  (.seq (.seq (.reg [i (.cap (e 0)), i (.len (e 0)), i (.bin .sub (l 0) (l 1)), i (.bin .sub (e 1) (l 2))] [(1, l 3)])
  (.seq (.reg [i (.bin .gtr (e 1) (v (.int .i64 0)))] [(4, l 0)])
  (.cond (e 4) (.reg [i (.cap (e 0)), i (.slice 1 (e 0) none (some (l 0))), i (.appz 1 (.nil0) (l 1) (e 1)), i (.len (e 0)), i (.slice 1 (l 2) none (some (l 3)))] [(0, l 4)]) .skip)))
  (.seq (.reg [] [(2, e 0)])
  .ret))))
def f_slices_Grow_api_Row_api_Row : AFunc := ⟨5, 2, .keep, [.env 2], b_slices_Grow_api_Row_api_Row⟩
def b_expr_does : ACode :=
  (.seq (.reg [] [(0, (v (.nilm)))])
  (.seq (.reg [i (.call 143 [(v (.fn 319 [] []))] false)] [(1, l 0)])
  (.seq (.reg [i (.mkmap), i (.call 75 [(v (.fn 312 [] []))] false), i (.mput (l 0) (v (.int .i64 4)) (l 1)), i (.call 75 [(v (.fn 313 [] []))] false), i (.mput (l 0) (v (.int .i64 5)) (l 3)), i (.call 74 [(v (.bool true))] false), i (.mput (l 0) (v (.int .i64 6)) (l 5)), i (.call 74 [(v (.bool false))] false), i (.mput (l 0) (v (.int .i64 7)) (l 7)), i (.mput (l 0) (v (.int .i64 12)) (v (.fn 314 [] []))), i (.mput (l 0) (v (.int .i64 13)) (v (.fn 315 [] []))), i (.mput (l 0) (v (.int .i64 14)) (v (.fn 316 [] []))), i (.mput (l 0) (v (.int .i64 15)) (v (.fn 317 [] []))), i (.mput (l 0) (v (.int .i64 16)) (v (.fn 318 [] []))), i (.call 51 [(v (.fn 318 [] []))] false), i (.mput (l 0) (v (.int .i64 17)) (l 14)), i (.mput (l 0) (v (.int .i64 18)) (v (.fn 319 [] []))), i (.mput (l 0) (v (.int .i64 20)) (e 1)), i (.call 51 [(e 1)] false), i (.mput (l 0) (v (.int .i64 19)) (l 18)), i (.call 51 [(v (.fn 319 [] []))] false), i (.mput (l 0) (v (.int .i64 21)) (l 20)), i (.mput (l 0) (v (.int .i64 22)) (v (.fn 320 [] []))), i (.mput (l 0) (v (.int .i64 23)) (v (.fn 321 [] [])))] [(0, l 0)])
  .ret)))
def f_expr_does : AFunc := ⟨2, 0, .pure, [.env 0], b_expr_does⟩
def l_expr_over_api_Value_0 : ACode :=
  (.seq (.reg [i (.bin .lss (e 14) (e 13))] [(15, l 0)])
  (.seq (.cond (e 15) .skip (.exit 0))
  (.seq (.blk 1 (.seq (.reg [i (.idxs 8 (e 12) (e 14)), i (.load true 8 (l 0)), i (.box 8 (v (.agg [.int .i64 0, .int .i64 0, .int .i64 0, .int .i64 0, .int .i64 0, .int .i64 0, .int .u64 0, .str []]))), i (.store 8 (l 2) (l 1))] [(9, l 2)])
  (.seq (.regd [i (.load true 8 (e 9)), i (.fld 0 (e 9)), i (.load false 1 (l 1)), i (.call 4 [(l 2)] false), i (.callv (e 7) [(l 3)]), i (.callv (e 1) [(l 0), (l 4)]), i (.ext 0 (l 5)), i (.ext 1 (l 5)), i (.box 4 (v (.agg [.int .i64 0, .int .i64 0, .int .u64 0, .str []]))), i (.store 4 (l 8) (l 6))] [(10, l 8), (11, l 7)] [(0, 5), (0, 9), (1, 9), (2, 9), (3, 9)])
  (.seq (.seq (.reg [i (.bin .neq (e 11) (v (.int .i64 0)))] [(16, l 0)])
  (.cond (e 16) (.seq (.reg [] [(8, e 11)])
  (.exit 0)) .skip))
  (.reg [i (.load false 1 (e 5)), i (.load true 4 (e 10)), i (.mkl 4 [(l 1)]), i (.app 4 (l 0) (l 2)), i (.store 1 (e 5) (l 3))] [])))))
  (.reg [i (.bin .add (e 14) (v (.int .i64 1)))] [(14, l 0)]))))
def b_expr_over_api_Value : ACode :=
  (.seq (.reg [i (.box 1 (e 0)), i (.box 4 (v (.agg [.int .i64 0, .int .i64 0, .int .u64 0, .str []])))] [(2, l 0), (3, l 1), (4, (v (.int .i64 0)))])
  (.scope (.seq (.reg [i (.box 1 (v (.nil0)))] [(5, l 0)])
  (.seq (.reg [i (.box 4 (v (.agg [.int .i64 0, .int .i64 0, .int .u64 0, .str []])))] [(6, l 0)])
  (.seq (.reg [i (.mkfn 142 [] [(e 5)])] [(7, l 0)])
  (.seq (.reg [] [(8, (v (.int .i64 0)))])
  (.seq (.seq (.lift 5 0 4 (.reg [i (.fld 0 (e 2)), i (.load false 1 (l 0)), i (.len (l 1))] [(12, l 1), (13, l 2), (14, (v (.int .i64 0)))]))
  (.blk 0 (.loop [9, 10, 11, 15, 16] l_expr_over_api_Value_0)))
  (.seq (.seq (.reg [i (.bin .neq (e 8) (v (.int .i64 0)))] [(17, l 0)])
  (.cond (e 17) (.seq (.reg [i (.load true 4 (e 6)), i (.store 4 (e 3) (l 0))] [(4, e 8)])
  .ret) .skip))
  (.seq (.reg [i (.load false 1 (e 5)), i (.idxs 4 (l 0) (v (.int .i64 0))), i (.load true 4 (l 1)), i (.store 4 (e 3) (l 2))] [(4, (v (.int .i64 0)))])
  .ret)))))))))
def f_expr_over_api_Value : AFunc := ⟨18, 2, .pure, [.cell true 4 3, .env 4], b_expr_over_api_Value⟩
def b_expr_Eval_1 : ACode :=
  (.seq (.reg [i (.box 8 (e 0)), i (.box 4 (v (.agg [.int .i64 0, .int .i64 0, .int .u64 0, .str []])))] [(4, l 0), (5, l 1), (6, (v (.int .i64 0)))])
  (.seq (.seq (.reg [i (.fld 0 (e 4)), i (.load false 1 (l 0))] [(9, l 1)])
  (.blk 0 (.seq (.reg [i (.bin .eql (e 9) (v (.int .i64 1)))] [(10, l 0)])
  (.cond (e 10) (.seq (.reg [i (.fld 4 (e 4)), i (.load true 4 (l 0)), i (.store 4 (e 5) (l 1))] [(6, (v (.int .i64 0)))])
  .ret) (.seq (.reg [i (.bin .eql (e 9) (v (.int .i64 2)))] [(11, l 0)])
  (.cond (e 11) (.seq (.reg [i (.load false 1 (e 2)), i (.fld 3 (e 4)), i (.load false 1 (l 1)), i (.idxs 4 (l 0) (l 2)), i (.load true 4 (l 3)), i (.store 4 (e 5) (l 4))] [(6, (v (.int .i64 0)))])
  .ret) .skip))))))
  (.seq (.regd [i (.load false 1 (e 3)), i (.fld 0 (e 4)), i (.load false 1 (l 1)), i (.look (.nilf) false (l 0) (l 2)), i (.idxs 4 (e 1) (v (.int .i64 0))), i (.load true 4 (l 4)), i (.len (e 1)), i (.bin .sub (l 6) (v (.int .i64 1))), i (.idxs 4 (e 1) (l 7)), i (.load true 4 (l 8)), i (.callv (l 3) [(l 5), (l 9)]), i (.ext 0 (l 10)), i (.ext 1 (l 10)), i (.box 4 (v (.agg [.int .i64 0, .int .i64 0, .int .u64 0, .str []]))), i (.store 4 (l 13) (l 11))] [(7, l 13), (8, l 12)] [(0, 14), (1, 14), (2, 14), (3, 14), (4, 14), (5, 14), (6, 14), (8, 14), (9, 14)])
  (.seq (.seq (.reg [i (.bin .neq (e 8) (v (.int .i64 0))), g (l 0) true (.mov (e 8)), g (l 0) true (.bin .neq (l 1) (v (.int .i64 140))), i (.pick (l 0) (l 2) (v (.bool false)))] [(12, l 3)])
  (.cond (e 12) (.reg [] [(8, (v (.int .i64 201)))]) .skip))
  (.seq (.reg [i (.load true 4 (e 7)), i (.store 4 (e 5) (l 0))] [(6, e 8)])
  .ret)))))
def f_expr_Eval_1 : AFunc := ⟨13, 4, .pure, [.cell true 4 5, .env 6], b_expr_Eval_1⟩
def b_exec_groups : ACode :=
  (.seq (.reg [i (.box 1 (e 0)), i (.box 1 (e 1)), i (.box 1 (e 2))] [(3, l 0), (4, l 1), (5, l 2), (6, (v (.nilf)))])
  (.seq (.reg [i (.mkfn 141 [] [(e 3), (e 4), (e 5)])] [(6, l 0)])
  .ret))
def f_exec_groups : AFunc := ⟨7, 3, .keep, [.env 6], b_exec_groups⟩
def b_slices_Clone_api_Row_api_Value : ACode :=
  (.seq (.reg [i (.mov (v (.nil0)))] [(1, l 0)])
  (.seq (.seq (.reg [i (.nils false (e 0))] [(2, l 0)])
  (.cond (e 2) (.seq (.reg [i (.mov (v (.nil0)))] [(1, l 0)])
  .ret) .skip))
  (.seq (.reg [i (.mov (v .nil0)), i (.app 4 (l 0) (e 0))] [(1, l 1)])
  .ret)))
def f_slices_Clone_api_Row_api_Value : AFunc := ⟨3, 1, .fresh 4, [.env 1], b_slices_Clone_api_Row_api_Value⟩
def l_exec_partial_1_0 : ACode :=
  (.seq (.reg [i (.bin .lss (e 13) (e 12))] [(14, l 0)])
  (.seq (.cond (e 14) .skip (.exit 0))
  (.seq (.blk 1 (.seq (.reg [i (.idxs 1 (e 11) (e 13)), i (.load false 1 (l 0))] [(7, l 1)])
  (.seq (.reg [i (.fld 1 (e 3)), i (.load true 1 (l 0)), i (.call 154 [(l 1), (e 7)] false), i (.ext 0 (l 2)), i (.ext 1 (l 2)), i (.box 4 (v (.agg [.int .i64 0, .int .i64 0, .int .u64 0, .str []]))), i (.store 4 (l 5) (l 3))] [(8, l 5), (9, l 4)])
  (.seq (.seq (.reg [i (.bin .eql (e 9) (v (.int .i64 0)))] [(15, l 0)])
  (.cond (e 15) (.reg [i (.load true 4 (e 6)), i (.load true 4 (e 8)), i (.call 140 [(l 0), (l 1)] false), i (.ext 0 (l 2)), i (.ext 1 (l 2)), i (.store 4 (e 6) (l 3))] [(9, l 4)]) .skip))
  (.seq (.reg [i (.bin .neq (e 9) (v (.int .i64 0)))] [(16, l 0)])
  (.cond (e 16) (.seq (.reg [i (.load true 4 (e 6)), i (.store 4 (e 4) (l 0))] [(5, e 9)])
  .ret) .skip))))))
  (.reg [i (.bin .add (e 13) (v (.int .i64 1)))] [(13, l 0)]))))
def b_exec_partial_1 : ACode :=
  (.seq (.reg [i (.box 2 (e 1)), i (.box 4 (v (.agg [.int .i64 0, .int .i64 0, .int .u64 0, .str []])))] [(3, l 0), (4, l 1), (5, (v (.int .i64 0)))])
  (.seq (.seq (.reg [i (.fld 0 (e 3)), i (.load false 1 (l 0)), i (.bin .neq (l 1) (v (.int .i64 3)))] [(10, l 2)])
  (.cond (e 10) (.seq (.reg [i (.load true 2 (e 3)), i (.call 302 [(l 0), (e 2)] false), i (.ext 0 (l 1)), i (.ext 1 (l 1)), i (.store 4 (e 4) (l 2))] [(5, l 3)])
  .ret) .skip))
  (.seq (.reg [i (.call 139 [] false), i (.box 4 (v (.agg [.int .i64 0, .int .i64 0, .int .u64 0, .str []]))), i (.store 4 (l 1) (l 0))] [(6, l 1)])
  (.seq (.seq (.reg [i (.len (e 2))] [(11, e 2), (12, l 0), (13, (v (.int .i64 0)))])
  (.blk 0 (.loop [5, 7, 8, 9, 14, 15, 16] l_exec_partial_1_0)))
  (.seq (.reg [i (.load true 4 (e 6)), i (.store 4 (e 4) (l 0))] [(5, (v (.int .i64 0)))])
  .ret)))))
def f_exec_partial_1 : AFunc := ⟨17, 3, .pure, [.cell true 4 4, .env 5], b_exec_partial_1⟩
def b_value_Null : ACode :=
  (.seq (.reg [i (.box 4 (v (.agg [.int .i64 0, .int .i64 0, .int .u64 0, .str []])))] [(0, l 0)])
  (.seq (.reg [i (.build [.int .i64 0, .int .i64 0, .int .u64 0, .str []] []), i (.store 4 (e 0) (l 0))] [])
  .ret))
def f_value_Null : AFunc := ⟨1, 0, .pure, [.cell true 4 0], b_value_Null⟩
def b_arith_Sum : ACode :=
  (.seq (.reg [i (.box 4 (e 0)), i (.box 4 (e 1)), i (.box 4 (v (.agg [.int .i64 0, .int .i64 0, .int .u64 0, .str []])))] [(2, l 0), (3, l 1), (4, l 2), (5, (v (.int .i64 0)))])
  (.seq (.seq (.reg [i (.load true 4 (e 2)), i (.mkl 4 [(l 0)]), i (.call 50 [(v (.int .i64 4)), (l 1)] false), i (.load true 4 (e 3)), i (.mkl 4 [(l 3)]), i (.call 50 [(v (.int .i64 2)), (l 4)] false)] [(6, l 2), (7, l 5)])
  (.blk 0 (.seq (.reg [i (.bin .eql (e 6) (v (.int .i64 120))), g (l 0) false (.mov (e 7)), g (l 0) false (.bin .eql (l 1) (v (.int .i64 120))), i (.pick (l 0) (v (.bool true)) (l 2))] [(8, l 3)])
  (.cond (e 8) (.seq (.reg [i (.build [.int .i64 0, .int .i64 0, .int .u64 0, .str []] []), i (.store 4 (e 4) (l 0))] [(5, (v (.int .i64 120)))])
  .ret) (.seq (.reg [i (.bin .neq (e 6) (v (.int .i64 0))), g (l 0) false (.mov (e 7)), g (l 0) false (.bin .neq (l 1) (v (.int .i64 0))), i (.pick (l 0) (v (.bool true)) (l 2))] [(9, l 3)])
  (.cond (e 9) (.seq (.reg [i (.build [.int .i64 0, .int .i64 0, .int .u64 0, .str []] []), i (.store 4 (e 4) (l 0))] [(5, (v (.int .i64 2)))])
  .ret) (.seq (.reg [i (.fld 0 (e 3)), i (.load false 1 (l 0)), i (.bin .eql (l 1) (v (.int .i64 0)))] [(10, l 2)])
  (.cond (e 10) (.seq (.reg [i (.load true 4 (e 2)), i (.store 4 (e 4) (l 0))] [(5, (v (.int .i64 0)))])
  .ret) (.seq (.reg [i (.fld 0 (e 2)), i (.load false 1 (l 0)), i (.bin .eql (l 1) (v (.int .i64 0)))] [(11, l 2)])
  (.cond (e 11) (.seq (.reg [i (.load true 4 (e 3)), i (.call 115 [(l 0)] false), i (.store 4 (e 4) (l 1))] [(5, (v (.int .i64 0)))])
  .ret) .skip))))))))))
  (.seq (.reg [i (.load true 4 (e 2)), i (.load true 4 (e 3)), i (.call 115 [(l 1)] false), i (.call 175 [(l 0), (l 2)] false), i (.ext 0 (l 3)), i (.ext 1 (l 3)), i (.store 4 (e 4) (l 4))] [(5, l 5)])
  .ret)))
def f_arith_Sum : AFunc := ⟨12, 2, .pure, [.cell true 4 4, .env 5], b_arith_Sum⟩
def l_exec_final_1_0 : ACode :=
  (.seq (.reg [i (.bin .lss (e 13) (e 12))] [(14, l 0)])
  (.seq (.cond (e 14) .skip (.exit 0))
  (.seq (.blk 1 (.seq (.reg [i (.idxs 1 (e 11) (e 13)), i (.load false 1 (l 0))] [(8, l 1)])
  (.seq (.reg [i (.fld 7 (e 3)), i (.load false 1 (l 0)), i (.len (l 1)), i (.bin .add (l 2) (e 0)), i (.idxs 4 (e 8) (l 3)), i (.load true 4 (l 4)), i (.box 4 (v (.agg [.int .i64 0, .int .i64 0, .int .u64 0, .str []]))), i (.store 4 (l 6) (l 5))] [(9, l 6)])
  (.seq (.reg [i (.fld 0 (e 9)), i (.load false 1 (l 0)), i (.bin .neq (l 1) (v (.int .i64 0)))] [(15, l 2)])
  (.cond (e 15) (.reg [i (.load true 4 (e 9)), i (.mkl 4 [(l 0)]), i (.app 4 (e 7) (l 1))] [(7, l 2)]) .skip)))))
  (.reg [i (.bin .add (e 13) (v (.int .i64 1)))] [(13, l 0)]))))
def b_exec_final_1 : ACode :=
  (.seq (.reg [i (.box 2 (e 1)), i (.box 4 (v (.agg [.int .i64 0, .int .i64 0, .int .u64 0, .str []])))] [(4, l 0), (5, l 1), (6, (v (.int .i64 0)))])
  (.seq (.reg [i (.mknil 4)] [(7, l 0)])
  (.seq (.seq (.reg [i (.len (e 2))] [(11, e 2), (12, l 0), (13, (v (.int .i64 0)))])
  (.blk 0 (.loop [8, 9, 14, 15] l_exec_final_1_0)))
  (.seq (.reg [i (.mov (v (.fn 330 [] [])))] [(10, l 0)])
  (.seq (.blk 2 (.seq (.reg [i (.fld 0 (e 4)), i (.load false 1 (l 0)), i (.bin .eql (l 1) (v (.int .i64 3)))] [(16, l 2)])
  (.cond (e 16) (.seq (.reg [i (.call 214 [(e 7), (v (.fn 174 [] []))] false), i (.ext 0 (l 0)), i (.ext 1 (l 0)), i (.store 4 (e 5) (l 1))] [(6, l 2)])
  .ret) (.seq (.reg [i (.fld 0 (e 4)), i (.load false 1 (l 0)), i (.bin .eql (l 1) (v (.int .i64 1))), g (l 2) false (.fld 0 (e 4)), g (l 2) false (.load false 1 (l 3)), g (l 2) false (.bin .eql (l 4) (v (.int .i64 2))), i (.pick (l 2) (v (.bool true)) (l 5))] [(17, l 6)])
  (.cond (e 17) (.seq (.reg [i (.call 215 [(v (.int .i64 0))] false), i (.mkl 4 [(l 0)]), i (.app 4 (e 7) (l 1)), i (.call 214 [(l 2), (v (.fn 140 [] []))] false), i (.ext 0 (l 3)), i (.ext 1 (l 3)), i (.store 4 (e 5) (l 4))] [(6, l 5)])
  .ret) (.seq (.reg [i (.len (e 7)), i (.bin .eql (l 0) (v (.int .i64 0)))] [(18, l 1)])
  (.cond (e 18) (.seq (.reg [i (.call 139 [] false), i (.store 4 (e 5) (l 0))] [(6, (v (.int .i64 0)))])
  .ret) (.seq (.reg [i (.fld 0 (e 4)), i (.load false 1 (l 0)), i (.bin .eql (l 1) (v (.int .i64 4)))] [(19, l 2)])
  (.cond (e 19) (.seq (.reg [i (.call 326 [(e 7), (e 10)] false), i (.store 4 (e 5) (l 0))] [(6, (v (.int .i64 0)))])
  .ret) .skip)))))))))
  (.seq (.reg [i (.call 323 [(e 7), (e 10)] false), i (.store 4 (e 5) (l 0))] [(6, (v (.int .i64 0)))])
  .ret))))))
def f_exec_final_1 : AFunc := ⟨20, 4, .pure, [.cell true 4 5, .env 6], b_exec_final_1⟩
def l_exec_summed_0 : ACode :=
  (.seq (.reg [i (.bin .lss (e 10) (e 9))] [(11, l 0)])
  (.seq (.cond (e 11) .skip (.exit 0))
  (.seq (.blk 1 (.seq (.reg [i (.idxs 4 (e 8) (e 10)), i (.load true 4 (l 0)), i (.box 4 (v (.agg [.int .i64 0, .int .i64 0, .int .u64 0, .str []]))), i (.store 4 (l 2) (l 1))] [(5, l 2)])
  (.seq (.reg [i (.load true 4 (e 4)), i (.load true 4 (e 5)), i (.callv (e 1) [(l 0), (l 1)]), i (.ext 0 (l 2)), i (.ext 1 (l 2)), i (.box 4 (v (.agg [.int .i64 0, .int .i64 0, .int .u64 0, .str []]))), i (.store 4 (l 5) (l 3))] [(6, l 5), (7, l 4)])
  (.seq (.seq (.reg [i (.bin .neq (e 7) (v (.int .i64 0)))] [(12, l 0)])
  (.cond (e 12) (.seq (.reg [i (.load true 4 (e 6)), i (.store 4 (e 2) (l 0))] [(3, e 7)])
  .ret) .skip))
  (.reg [i (.load true 4 (e 6)), i (.store 4 (e 4) (l 0))] [])))))
  (.reg [i (.bin .add (e 10) (v (.int .i64 1)))] [(10, l 0)]))))
def b_exec_summed : ACode :=
  (.seq (.reg [i (.box 4 (v (.agg [.int .i64 0, .int .i64 0, .int .u64 0, .str []])))] [(2, l 0), (3, (v (.int .i64 0)))])
  (.seq (.reg [i (.call 139 [] false), i (.box 4 (v (.agg [.int .i64 0, .int .i64 0, .int .u64 0, .str []]))), i (.store 4 (l 1) (l 0))] [(4, l 1)])
  (.seq (.seq (.reg [i (.len (e 0))] [(8, e 0), (9, l 0), (10, (v (.int .i64 0)))])
  (.blk 0 (.loop [3, 5, 6, 7, 11, 12] l_exec_summed_0)))
  (.seq (.reg [i (.load true 4 (e 4)), i (.call 213 [(l 0)] false), i (.ext 0 (l 1)), i (.ext 1 (l 1)), i (.store 4 (e 2) (l 2))] [(3, l 3)])
  .ret))))
def f_exec_summed : AFunc := ⟨13, 2, .pure, [.cell true 4 2, .env 3], b_exec_summed⟩
def b_arith_Join : ACode :=
  (.seq (.reg [i (.box 4 (e 0)), i (.box 4 (e 1)), i (.box 4 (v (.agg [.int .i64 0, .int .i64 0, .int .u64 0, .str []])))] [(2, l 0), (3, l 1), (4, l 2), (5, (v (.int .i64 0)))])
  (.seq (.seq (.reg [i (.load true 4 (e 2)), i (.load true 4 (e 3)), i (.mkl 4 [(l 0), (l 1)]), i (.call 50 [(v (.int .i64 4)), (l 2)] false)] [(6, l 3)])
  (.blk 0 (.seq (.reg [i (.bin .neq (e 6) (v (.int .i64 0)))] [(7, l 0)])
  (.cond (e 7) (.seq (.reg [i (.build [.int .i64 0, .int .i64 0, .int .u64 0, .str []] []), i (.store 4 (e 4) (l 0))] [(5, e 6)])
  .ret) (.seq (.reg [i (.fld 0 (e 2)), i (.load false 1 (l 0)), i (.bin .eql (l 1) (v (.int .i64 0)))] [(8, l 2)])
  (.cond (e 8) (.seq (.reg [i (.load true 4 (e 3)), i (.store 4 (e 4) (l 0))] [(5, (v (.int .i64 0)))])
  .ret) (.seq (.reg [i (.fld 0 (e 3)), i (.load false 1 (l 0)), i (.bin .eql (l 1) (v (.int .i64 0)))] [(9, l 2)])
  (.cond (e 9) (.seq (.reg [i (.load true 4 (e 2)), i (.store 4 (e 4) (l 0))] [(5, (v (.int .i64 0)))])
  .ret) .skip))))))))
  (.seq (.reg [i (.load true 4 (e 2)), i (.load true 4 (e 3)), i (.call 175 [(l 0), (l 1)] false), i (.ext 0 (l 2)), i (.ext 1 (l 2)), i (.store 4 (e 4) (l 3))] [(5, l 4)])
  .ret)))
def f_arith_Join : AFunc := ⟨10, 2, .pure, [.cell true 4 4, .env 5], b_arith_Join⟩
def b_value_Int : ACode :=
  (.seq (.reg [i (.box 4 (v (.agg [.int .i64 0, .int .i64 0, .int .u64 0, .str []])))] [(1, l 0)])
  (.seq (.reg [i (.build [.int .i64 0, .int .i64 0, .int .u64 0, .str []] [(0, 1, (v (.int .i64 2))), (1, 1, (e 0))]), i (.store 4 (e 1) (l 0))] [])
  .ret))
def f_value_Int : AFunc := ⟨2, 1, .pure, [.cell true 4 1], b_value_Int⟩
def b_row_has : ACode :=
  (.seq (.reg [i (.box 1 (e 0))] [(2, l 0), (3, (v (.bool false)))])
  (.seq (.reg [i (.mkfn 335 [] [(e 2)])] [(4, l 0)])
  (.seq (.reg [i (.len (e 1)), i (.bin .leq (l 0) (v (.int .i64 16))), g (l 1) true (.mov (e 1)), g (l 1) true (.mov (e 4)), g (l 1) true (.call 7 [(l 2), (l 3)] false), g (l 1) true (.una .not (l 4)), i (.pick (l 1) (l 5) (v (.bool false)))] [(3, l 6)])
  .ret)))
def f_row_has : AFunc := ⟨5, 2, .pure, [.env 3], b_row_has⟩
def l_slices_pdqsortOrdered_int_0 : ACode :=
  (.blk 1 (.seq (.reg [i (.bin .sub (e 2) (e 1))] [(6, l 0)])
  (.seq (.seq (.reg [i (.bin .leq (e 6) (v (.int .i64 12)))] [(15, l 0)])
  (.cond (e 15) (.seq (.reg [i (.call 33 [(e 0), (e 1), (e 2)] false)] [])
  .ret) .skip))
  (.seq (.seq (.reg [i (.bin .eql (e 3) (v (.int .i64 0)))] [(16, l 0)])
  (.cond (e 16) (.seq (.reg [i (.call 343 [(e 0), (e 1), (e 2)] false)] [])
  .ret) .skip))
  (.seq (.seq (.reg [i (.una .not (e 4))] [(17, l 0)])
  (.cond (e 17) (.seq (.reg [i (.call 342 [(e 0), (e 1), (e 2)] false)] [])
  (.reg [i (.bin .sub (e 3) (v (.int .i64 1)))] [(3, l 0)])) .skip))
  (.seq (.reg [i (.call 341 [(e 0), (e 1), (e 2)] false), i (.ext 0 (l 0)), i (.ext 1 (l 0))] [(7, l 1), (8, l 2)])
  (.seq (.seq (.reg [i (.bin .eql (e 8) (v (.int .i64 2)))] [(18, l 0)])
  (.cond (e 18) (.seq (.reg [i (.call 340 [(e 0), (e 1), (e 2)] false)] [])
  (.seq (.reg [i (.bin .sub (e 2) (v (.int .i64 1))), i (.bin .sub (e 7) (e 1)), i (.bin .sub (l 0) (l 1))] [(7, l 2)])
  (.reg [] [(8, (v (.int .i64 1)))]))) .skip))
  (.seq (.seq (.reg [g (e 4) true (.mov (e 5)), i (.pick (e 4) (l 0) (v (.bool false))), g (l 1) true (.mov (e 8)), g (l 1) true (.bin .eql (l 2) (v (.int .i64 1))), i (.pick (l 1) (l 3) (v (.bool false)))] [(19, l 4)])
  (.cond (e 19) (.seq (.reg [i (.call 339 [(e 0), (e 1), (e 2)] false)] [(20, l 0)])
  (.cond (e 20) .ret .skip)) .skip))
  (.seq (.seq (.reg [i (.bin .gtr (e 1) (v (.int .i64 0))), g (l 0) true (.mov (e 0)), g (l 0) true (.mov (e 1)), g (l 0) true (.bin .sub (l 2) (v (.int .i64 1))), g (l 0) true (.idxs 1 (l 1) (l 3)), g (l 0) true (.load false 1 (l 4)), g (l 0) true (.mov (e 0)), g (l 0) true (.mov (e 7)), g (l 0) true (.idxs 1 (l 6) (l 7)), g (l 0) true (.load false 1 (l 8)), g (l 0) true (.call 338 [(l 5), (l 9)] false), g (l 0) true (.una .not (l 10)), i (.pick (l 0) (l 11) (v (.bool false)))] [(21, l 12)])
  (.cond (e 21) (.seq (.reg [i (.call 337 [(e 0), (e 1), (e 2), (e 7)] false)] [(9, l 0)])
  (.seq (.reg [] [(1, e 9)])
  (.exit 1))) .skip))
  (.seq (.reg [i (.call 336 [(e 0), (e 1), (e 2), (e 7)] false), i (.ext 0 (l 0)), i (.ext 1 (l 0))] [(10, l 1), (11, l 2)])
  (.seq (.reg [] [(5, e 11)])
  (.seq (.reg [i (.bin .sub (e 10) (e 1)), i (.bin .sub (e 2) (e 10))] [(12, l 0), (13, l 1)])
  (.seq (.reg [i (.bin .quo (e 6) (v (.int .i64 8)))] [(14, l 0)])
  (.seq (.reg [i (.bin .lss (e 12) (e 13))] [(22, l 0)])
  (.cond (e 22) (.seq (.reg [i (.bin .geq (e 12) (e 14))] [(4, l 0)])
  (.seq (.reg [i (.call 34 [(e 0), (e 1), (e 10), (e 3)] false)] [])
  (.reg [i (.bin .add (e 10) (v (.int .i64 1)))] [(1, l 0)]))) (.seq (.reg [i (.bin .geq (e 13) (e 14))] [(4, l 0)])
  (.seq (.reg [i (.bin .add (e 10) (v (.int .i64 1))), i (.call 34 [(e 0), (l 0), (e 2), (e 3)] false)] [])
  (.reg [] [(2, e 10)]))))))))))))))))))
def b_slices_pdqsortOrdered_int : ACode :=
  (.seq (.reg [] [(4, (v (.bool true)))])
  (.seq (.reg [] [(5, (v (.bool true)))])
  (.blk 0 (.loop [6, 7, 8, 9, 10, 11, 12, 13, 14, 15, 16, 17, 18, 19, 20, 21, 22] l_slices_pdqsortOrdered_int_0))))
def f_slices_pdqsortOrdered_int : AFunc := ⟨23, 4, .keep, [], b_slices_pdqsortOrdered_int⟩
def b_math_bits_Len : ACode :=
  (.seq (.reg [] [(1, (v (.int .i64 0)))])
  (.seq (.cond (v (.bool false)) (.seq (.reg [i (.conv .u32 (e 0)), i (.call 344 [(l 0)] false)] [(1, l 1)])
  .ret) .skip)
  (.seq (.reg [i (.call 11 [(e 0)] false)] [(1, l 0)])
  .ret)))
def f_math_bits_Len : AFunc := ⟨2, 1, .pure, [.env 1], b_math_bits_Len⟩
def q_prop_Reader_0 : ACode :=
  (.blk 1 (.seq (.reg [i (.store 1 (e 3) (e 6)), i (.store 1 (e 4) (e 7)), i (.store 1 (e 5) (v (.bool true)))] [])
  .ret))
def q_prop_Reader_0p : ACode :=
  (.seq (.reg [] [(6, e 9)])
  (.reg [] [(7, e 10)]))
def b_prop_Reader : ACode :=
  (.seq (.reg [i (.box 1 (e 0)), i (.box 1 (v (.int .i64 0))), i (.box 1 (v (.int .i64 0))), i (.box 1 (v (.bool false)))] [(2, l 0), (3, l 1), (4, l 2), (5, l 3)])
  (.seq (.seq (.reg [i (.load true 1 (e 2)), i (.call 68 [(l 0), (e 1)] false)] [(8, l 1)])
  (.blk 0 (.rng 11 (e 8) 137)))
  (.seq (.reg [i (.store 1 (e 3) (v (.int .i64 0))), i (.store 1 (e 4) (v (.int .i64 0))), i (.store 1 (e 5) (v (.bool false)))] [])
  .ret)))
def f_prop_Reader : AFunc := ⟨11, 2, .pure, [.cell false 1 3, .cell false 1 4, .cell false 1 5], b_prop_Reader⟩
def r_prop_Reader_0 : ARound := ⟨11, [9, 10], q_prop_Reader_0p, q_prop_Reader_0⟩
def b_row_right_1 : ACode :=
  (.seq (.reg [i (.box 4 (e 0))] [(1, l 0), (2, (v (.bool false)))])
  (.seq (.reg [i (.load true 4 (e 1)), i (.call 2 [(l 0)] false), i (.bin .neq (l 1) (v (.int .i64 0)))] [(2, l 2)])
  .ret))
def f_row_right_1 : AFunc := ⟨3, 1, .pure, [.env 2], b_row_right_1⟩
def b_slices_ContainsFunc_api_Row_api_Value : ACode :=
  (.seq (.reg [] [(2, (v (.bool false)))])
  (.seq (.reg [i (.call 13 [(e 0), (e 1)] false), i (.bin .geq (l 0) (v (.int .i64 0)))] [(2, l 1)])
  .ret))
def f_slices_ContainsFunc_api_Row_api_Value : AFunc := ⟨3, 2, .pure, [.env 2], b_slices_ContainsFunc_api_Row_api_Value⟩
def l_row_copies_0 : ACode :=
  (.seq (.reg [i (.bin .lss (e 6) (e 5))] [(7, l 0)])
  (.seq (.cond (e 7) .skip (.exit 0))
  (.seq (.blk 1 (.seq (.reg [i (.idxs 1 (e 4) (e 6)), i (.load false 1 (l 0))] [(3, l 1)])
  (.reg [i (.call 16 [(e 3)] true), i (.mkl 1 [(l 0)]), i (.app 1 (e 2) (l 1))] [(2, l 2)])))
  (.reg [i (.bin .add (e 6) (v (.int .i64 1)))] [(6, l 0)]))))
def b_row_copies : ACode :=
  (.seq (.reg [i (.mov (v (.nil0)))] [(1, l 0)])
  (.seq (.reg [i (.mknil 1)] [(2, l 0)])
  (.seq (.seq (.reg [i (.len (e 0))] [(4, e 0), (5, l 0), (6, (v (.int .i64 0)))])
  (.blk 0 (.loop [3, 7] l_row_copies_0)))
  (.seq (.reg [] [(1, e 2)])
  .ret))))
def f_row_copies : AFunc := ⟨8, 1, .fresh 1, [.env 1], b_row_copies⟩
def b_slices_SortFunc_api_Row_api_Row : ACode :=
  (.seq (.reg [i (.len (e 0))] [(2, l 0)])
  (.reg [i (.conv .u64 (e 2)), i (.call 12 [(l 0)] false), i (.call 40 [(e 0), (v (.int .i64 0)), (e 2), (l 1), (e 1)] false)] []))
def f_slices_SortFunc_api_Row_api_Row : AFunc := ⟨3, 2, .keep, [], b_slices_SortFunc_api_Row_api_Row⟩
def b_row_order : ACode :=
  (.seq (.reg [] [(2, (v (.int .i64 0)))])
  (.seq (.reg [i (.call 71 [(e 0), (e 1), (v (.fn 96 [] []))] false)] [(2, l 0)])
  .ret))
def f_row_order : AFunc := ⟨3, 2, .pure, [.env 2], b_row_order⟩
def b_expr_turned : ACode :=
  (.seq (.reg [i (.box 1 (e 0))] [(1, l 0), (2, (v (.nilf)))])
  (.seq (.reg [i (.mkfn 345 [] [(e 1)])] [(2, l 0)])
  .ret))
def f_expr_turned : AFunc := ⟨3, 1, .pure, [.env 2], b_expr_turned⟩
def b_expr_first : ACode :=
  (.seq (.reg [i (.box 1 (e 0))] [(1, l 0), (2, (v (.nilf)))])
  (.seq (.reg [i (.mkfn 348 [] [(e 1)])] [(2, l 0)])
  .ret))
def f_expr_first : AFunc := ⟨3, 1, .pure, [.env 2], b_expr_first⟩
def b_expr_null : ACode :=
  (.seq (.reg [i (.box 1 (e 0))] [(1, l 0), (2, (v (.nilf)))])
  (.seq (.reg [i (.mkfn 351 [] [(e 1)])] [(2, l 0)])
  .ret))
def f_expr_null : AFunc := ⟨3, 1, .pure, [.env 2], b_expr_null⟩
def b_expr_not : ACode :=
  (.seq (.reg [i (.box 1 (e 0))] [(1, l 0), (2, (v (.nilf)))])
  (.seq (.reg [i (.mkfn 358 [] [(e 1)])] [(2, l 0)])
  .ret))
def f_expr_not : AFunc := ⟨3, 1, .pure, [.env 2], b_expr_not⟩
def b_expr_over_api_Value_1 : ACode :=
  (.seq (.reg [i (.mov (v (.nil0)))] [(2, l 0)])
  (.seq (.reg [i (.load false 1 (e 1)), i (.load false 1 (e 1)), i (.len (l 1)), i (.bin .sub (l 2) (e 0)), i (.slice 4 (l 0) (some (l 3)) none), i (.call 136 [(l 4)] true)] [(3, l 5)])
  (.seq (.reg [i (.load false 1 (e 1)), i (.load false 1 (e 1)), i (.len (l 1)), i (.bin .sub (l 2) (e 0)), i (.slice 4 (l 0) none (some (l 3))), i (.store 1 (e 1) (l 4))] [])
  (.seq (.reg [] [(2, e 3)])
  .ret))))
def f_expr_over_api_Value_1 : AFunc := ⟨4, 2, .keep, [.env 2], b_expr_over_api_Value_1⟩
def b_slices_Clone_api_Value_api_Value : ACode :=
  (.seq (.reg [i (.mov (v (.nil0)))] [(1, l 0)])
  (.seq (.seq (.reg [i (.nils false (e 0))] [(2, l 0)])
  (.cond (e 2) (.seq (.reg [i (.mov (v (.nil0)))] [(1, l 0)])
  .ret) .skip))
  (.seq (.reg [i (.mov (v .nil0)), i (.app 4 (l 0) (e 0))] [(1, l 1)])
  .ret)))
def f_slices_Clone_api_Value_api_Value : AFunc := ⟨3, 1, .fresh 4, [.env 1], b_slices_Clone_api_Value_api_Value⟩
def l_exec_groups_1_0 : ACode :=
  (.seq (.reg [i (.bin .lss (e 9) (e 8))] [(10, l 0)])
  (.seq (.cond (e 10) .skip (.exit 0))
  (.seq (.blk 1 (.seq (.reg [i (.idxs 2 (e 7) (e 9)), i (.load true 2 (l 0)), i (.box 2 (v (.agg [.nil0, .nil0]))), i (.store 2 (l 2) (l 1))] [(5, l 2)])
  (.seq (.reg [i (.load true 2 (e 5)), i (.callv (e 0) [(l 0)]), i (.una .not (l 1))] [(11, l 2)])
  (.cond (e 11) .ret .skip))))
  (.reg [i (.bin .add (e 9) (v (.int .i64 1)))] [(9, l 0)]))))
def b_exec_groups_1 : ACode :=
  (.seq (.reg [i (.load false 1 (e 1)), i (.load false 1 (e 2)), i (.call 135 [(l 0), (l 1)] false), i (.ext 0 (l 2)), i (.ext 1 (l 2))] [(4, l 3)])
  (.seq (.seq (.reg [i (.len (e 4)), i (.bin .eql (l 0) (v (.int .i64 0))), g (l 1) true (.load false 1 (e 2)), g (l 1) true (.len (l 2)), g (l 1) true (.bin .eql (l 3) (v (.int .i64 0))), i (.pick (l 1) (l 4) (v (.bool false))), g (l 5) true (.load false 1 (e 3)), i (.pick (l 5) (l 6) (v (.bool false)))] [(6, l 7)])
  (.cond (e 6) (.reg [i (.build [.nil0, .nil0] []), i (.mkl 2 [(l 0)])] [(4, l 1)]) .skip))
  (.seq (.reg [i (.len (e 4))] [(7, e 4), (8, l 0), (9, (v (.int .i64 0)))])
  (.blk 0 (.loop [5, 10, 11] l_exec_groups_1_0)))))
def f_exec_groups_1 : AFunc := ⟨12, 4, .keep, [], b_exec_groups_1⟩
def q_row_Groups_0 : ACode :=
  (.blk 1 (.regd [i (.load false 1 (e 8)), i (.idxs 1 (e 9) (v (.int .i64 0))), i (.load false 1 (l 1)), i (.load false 1 (e 2)), i (.call 43 [(l 2), (l 3)] false), i (.call 134 [(e 9)] true), i (.build [.nil0, .nil0] [(0, 1, (l 4)), (1, 1, (l 5))]), i (.mkl 2 [(l 6)]), i (.app 2 (l 0) (l 7)), i (.store 1 (e 8) (l 8))] [] [(0, 6)]))
def q_row_Groups_0p : ACode :=
  (.reg [] [(9, e 12)])
def b_row_Groups : ACode :=
  (.seq (.reg [i (.box 1 (e 1)), i (.mov (v (.nil0)))] [(2, l 0), (3, l 1), (4, (v (.int .i64 0)))])
  (.seq (.seq (.reg [i (.load false 1 (e 2)), i (.call 152 [(e 0), (l 0)] false)] [(5, l 1)])
  (.seq (.reg [i (.bin .neq (e 5) (v (.int .i64 0)))] [(10, l 0)])
  (.cond (e 10) (.seq (.reg [i (.mov (v (.nil0)))] [(3, l 0), (4, e 5)])
  .ret) .skip)))
  (.seq (.reg [i (.call 41 [(e 0)] true)] [(6, l 0)])
  (.seq (.reg [i (.mkfn 171 [] [(e 2)]), i (.call 42 [(e 6), (l 0)] false)] [])
  (.seq (.reg [i (.mkfn 172 [] [(e 2)])] [(7, l 0)])
  (.seq (.reg [i (.box 1 (v (.nil0)))] [(8, l 0)])
  (.seq (.seq (.lift 8 0 2 (.reg [i (.call 132 [(e 6), (e 7)] false)] [(11, l 0)]))
  (.blk 0 (.rng 13 (e 11) 133)))
  (.seq (.reg [i (.load false 1 (e 8))] [(3, l 0), (4, (v (.int .i64 0)))])
  .ret))))))))
def f_row_Groups : AFunc := ⟨13, 2, .pure, [.env 3, .env 4], b_row_Groups⟩
def r_row_Groups_0 : ARound := ⟨13, [12], q_row_Groups_0p, q_row_Groups_0⟩
def l_arith_are_0 : ACode :=
  (.seq (.reg [i (.bin .lss (e 7) (e 6))] [(8, l 0)])
  (.seq (.cond (e 8) .skip (.exit 0))
  (.seq (.blk 1 (.seq (.reg [i (.idxs 4 (e 5) (e 7)), i (.load true 4 (l 0)), i (.box 4 (v (.agg [.int .i64 0, .int .i64 0, .int .u64 0, .str []]))), i (.store 4 (l 2) (l 1))] [(4, l 2)])
  (.seq (.seq (.reg [i (.load true 4 (e 4)), i (.call 2 [(l 0)] false), i (.bin .neq (l 1) (v (.int .i64 0)))] [(9, l 2)])
  (.cond (e 9) (.seq (.reg [] [(2, (v (.int .i64 120)))])
  .ret) .skip))
  (.seq (.reg [i (.fld 0 (e 4)), i (.load false 1 (l 0)), i (.bin .neq (l 1) (v (.int .i64 0))), g (l 2) true (.fld 0 (e 4)), g (l 2) true (.load false 1 (l 3)), g (l 2) true (.mov (e 0)), g (l 2) true (.bin .neq (l 4) (l 5)), i (.pick (l 2) (l 6) (v (.bool false)))] [(10, l 7)])
  (.cond (e 10) (.reg [] [(3, (v (.int .i64 2)))]) .skip)))))
  (.reg [i (.bin .add (e 7) (v (.int .i64 1)))] [(7, l 0)]))))
def b_arith_are : ACode :=
  (.seq (.reg [] [(2, (v (.int .i64 0)))])
  (.seq (.reg [] [(3, (v (.int .i64 0)))])
  (.seq (.seq (.reg [i (.len (e 1))] [(5, e 1), (6, l 0), (7, (v (.int .i64 0)))])
  (.blk 0 (.loop [2, 4, 8, 9, 10] l_arith_are_0)))
  (.seq (.reg [] [(2, e 3)])
  .ret))))
def f_arith_are : AFunc := ⟨11, 2, .pure, [.env 2], b_arith_are⟩
def b_arith_wide : ACode :=
  (.seq (.reg [i (.box 4 (e 0)), i (.box 4 (v (.agg [.int .i64 0, .int .i64 0, .int .u64 0, .str []])))] [(1, l 0), (2, l 1)])
  (.seq (.reg [i (.fld 1 (e 1)), i (.load false 1 (l 0)), i (.bin .shr (l 1) (v (.int .u64 63))), i (.fld 1 (e 1)), i (.load false 1 (l 3)), i (.conv .u64 (l 4)), i (.build [.int .i64 0, .int .i64 0, .int .u64 0, .str []] [(0, 1, (v (.int .i64 4))), (1, 1, (l 2)), (2, 1, (l 5))]), i (.store 4 (e 2) (l 6))] [])
  .ret))
def f_arith_wide : AFunc := ⟨3, 1, .pure, [.cell true 4 2], b_arith_wide⟩
def b_arith_plus : ACode :=
  (.seq (.reg [i (.box 4 (e 0)), i (.box 4 (e 1)), i (.box 4 (v (.agg [.int .i64 0, .int .i64 0, .int .u64 0, .str []])))] [(2, l 0), (3, l 1), (4, l 2), (5, (v (.int .i64 0)))])
  (.seq (.reg [i (.fld 2 (e 2)), i (.load false 1 (l 0)), i (.fld 2 (e 3)), i (.load false 1 (l 2)), i (.call 114 [(l 1), (l 3), (v (.int .u64 0))] false), i (.ext 0 (l 4)), i (.ext 1 (l 4))] [(6, l 5), (7, l 6)])
  (.seq (.reg [i (.fld 1 (e 2)), i (.load false 1 (l 0)), i (.conv .u64 (l 1)), i (.fld 1 (e 3)), i (.load false 1 (l 3)), i (.conv .u64 (l 4)), i (.call 114 [(l 2), (l 5), (e 7)] false), i (.ext 0 (l 6)), i (.ext 1 (l 6))] [(8, l 7)])
  (.seq (.reg [i (.conv .i64 (e 8))] [(9, l 0)])
  (.seq (.seq (.reg [i (.fld 1 (e 2)), i (.load false 1 (l 0)), i (.bin .xor (l 1) (e 9)), i (.fld 1 (e 3)), i (.load false 1 (l 3)), i (.bin .xor (l 4) (e 9)), i (.bin .and (l 2) (l 5)), i (.bin .lss (l 6) (v (.int .i64 0)))] [(10, l 7)])
  (.cond (e 10) (.seq (.reg [i (.build [.int .i64 0, .int .i64 0, .int .u64 0, .str []] []), i (.store 4 (e 4) (l 0))] [(5, (v (.int .i64 140)))])
  .ret) .skip))
  (.seq (.reg [i (.build [.int .i64 0, .int .i64 0, .int .u64 0, .str []] [(0, 1, (v (.int .i64 4))), (1, 1, (e 9)), (2, 1, (e 6))]), i (.store 4 (e 4) (l 0))] [(5, (v (.int .i64 0)))])
  .ret))))))
def f_arith_plus : AFunc := ⟨11, 2, .pure, [.cell true 4 4, .env 5], b_arith_plus⟩
def b_arith_End : ACode :=
  (.seq (.reg [i (.box 4 (e 0)), i (.box 4 (v (.agg [.int .i64 0, .int .i64 0, .int .u64 0, .str []])))] [(1, l 0), (2, l 1), (3, (v (.int .i64 0)))])
  (.seq (.seq (.reg [i (.load true 4 (e 1)), i (.mkl 4 [(l 0)]), i (.call 50 [(v (.int .i64 4)), (l 1)] false)] [(4, l 2)])
  (.blk 0 (.seq (.reg [i (.bin .neq (e 4) (v (.int .i64 0)))] [(6, l 0)])
  (.cond (e 6) (.seq (.reg [i (.build [.int .i64 0, .int .i64 0, .int .u64 0, .str []] []), i (.store 4 (e 2) (l 0))] [(3, e 4)])
  .ret) (.seq (.reg [i (.fld 0 (e 1)), i (.load false 1 (l 0)), i (.bin .eql (l 1) (v (.int .i64 0)))] [(7, l 2)])
  (.cond (e 7) (.seq (.reg [i (.load true 4 (e 1)), i (.store 4 (e 2) (l 0))] [(3, (v (.int .i64 0)))])
  .ret) .skip))))))
  (.seq (.seq (.reg [i (.fld 2 (e 1)), i (.load false 1 (l 0)), i (.conv .i64 (l 1)), i (.call 215 [(l 2)] false), i (.box 4 (v (.agg [.int .i64 0, .int .i64 0, .int .u64 0, .str []]))), i (.store 4 (l 4) (l 3))] [(5, l 4)])
  (.seq (.reg [i (.load true 4 (e 5)), i (.call 115 [(l 0)] false), i (.load true 4 (e 1)), i (.eqa false [0, 0, 0, 2] (l 1) (l 2))] [(8, l 3)])
  (.cond (e 8) (.seq (.reg [i (.load true 4 (e 5)), i (.store 4 (e 2) (l 0))] [(3, (v (.int .i64 0)))])
  .ret) .skip)))
  (.seq (.reg [i (.build [.int .i64 0, .int .i64 0, .int .u64 0, .str []] []), i (.store 4 (e 2) (l 0))] [(3, (v (.int .i64 140)))])
  .ret))))
def f_arith_End : AFunc := ⟨9, 1, .pure, [.cell true 4 2, .env 3], b_arith_End⟩
def l_slices_insertionSortOrdered_int_0 : ACode :=
  (.seq (.seq (.reg [i (.bin .gtr (e 4) (e 1)), g (l 0) true (.mov (e 0)), g (l 0) true (.mov (e 4)), g (l 0) true (.idxs 1 (l 1) (l 2)), g (l 0) true (.load false 1 (l 3)), g (l 0) true (.mov (e 0)), g (l 0) true (.mov (e 4)), g (l 0) true (.bin .sub (l 6) (v (.int .i64 1))), g (l 0) true (.idxs 1 (l 5) (l 7)), g (l 0) true (.load false 1 (l 8)), g (l 0) true (.call 338 [(l 4), (l 9)] false), i (.pick (l 0) (l 10) (v (.bool false)))] [(6, l 11)])
  (.cond (e 6) .skip (.exit 2)))
  (.seq (.blk 3 (.reg [i (.bin .sub (e 4) (v (.int .i64 1))), i (.bin .sub (e 4) (v (.int .i64 1))), i (.idxs 1 (e 0) (l 1)), i (.load false 1 (l 2)), i (.idxs 1 (e 0) (e 4)), i (.load false 1 (l 4)), i (.idxs 1 (e 0) (e 4)), i (.store 1 (l 6) (l 3)), i (.idxs 1 (e 0) (l 0)), i (.store 1 (l 8) (l 5))] []))
  (.reg [i (.bin .sub (e 4) (v (.int .i64 1)))] [(4, l 0)])))
def l_slices_insertionSortOrdered_int_1 : ACode :=
  (.seq (.seq (.reg [i (.bin .lss (e 3) (e 2))] [(5, l 0)])
  (.cond (e 5) .skip (.exit 0)))
  (.seq (.blk 1 (.seq (.reg [] [(4, e 3)])
  (.blk 2 (.loop [6] l_slices_insertionSortOrdered_int_0))))
  (.reg [i (.bin .add (e 3) (v (.int .i64 1)))] [(3, l 0)])))
def b_slices_insertionSortOrdered_int : ACode :=
  (.seq (.reg [i (.bin .add (e 1) (v (.int .i64 1)))] [(3, l 0)])
  (.blk 0 (.loop [4, 5, 6] l_slices_insertionSortOrdered_int_1)))
def f_slices_insertionSortOrdered_int : AFunc := ⟨7, 3, .keep, [], b_slices_insertionSortOrdered_int⟩
def b_math_bits_Len64 : ACode :=
  (.seq (.reg [] [(1, (v (.int .i64 0)))])
  (.seq (.seq (.reg [i (.bin .geq (e 0) (v (.int .u64 4294967296)))] [(2, l 0)])
  (.cond (e 2) (.seq (.reg [i (.bin .shr (e 0) (v (.int .u64 32)))] [(0, l 0)])
  (.reg [] [(1, (v (.int .i64 32)))])) .skip))
  (.seq (.seq (.reg [i (.bin .geq (e 0) (v (.int .u64 65536)))] [(3, l 0)])
  (.cond (e 3) (.seq (.reg [i (.bin .shr (e 0) (v (.int .u64 16)))] [(0, l 0)])
  (.reg [i (.bin .add (e 1) (v (.int .i64 16)))] [(1, l 0)])) .skip))
  (.seq (.seq (.reg [i (.bin .geq (e 0) (v (.int .u64 256)))] [(4, l 0)])
  (.cond (e 4) (.seq (.reg [i (.bin .shr (e 0) (v (.int .u64 8)))] [(0, l 0)])
  (.reg [i (.bin .add (e 1) (v (.int .i64 8)))] [(1, l 0)])) .skip))
  (.seq (.reg [i (.conv .u8 (e 0)), i (.idxt (v (.str [0, 1, 2, 2, 3, 3, 3, 3, 4, 4, 4, 4, 4, 4, 4, 4, 5, 5, 5, 5, 5, 5, 5, 5, 5, 5, 5, 5, 5, 5, 5, 5, 6, 6, 6, 6, 6, 6, 6, 6, 6, 6, 6, 6, 6, 6, 6, 6, 6, 6, 6, 6, 6, 6, 6, 6, 6, 6, 6, 6, 6, 6, 6, 6, 7, 7, 7, 7, 7, 7, 7, 7, 7, 7, 7, 7, 7, 7, 7, 7, 7, 7, 7, 7, 7, 7, 7, 7, 7, 7, 7, 7, 7, 7, 7, 7, 7, 7, 7, 7, 7, 7, 7, 7, 7, 7, 7, 7, 7, 7, 7, 7, 7, 7, 7, 7, 7, 7, 7, 7, 7, 7, 7, 7, 7, 7, 7, 7, 8, 8, 8, 8, 8, 8, 8, 8, 8, 8, 8, 8, 8, 8, 8, 8, 8, 8, 8, 8, 8, 8, 8, 8, 8, 8, 8, 8, 8, 8, 8, 8, 8, 8, 8, 8, 8, 8, 8, 8, 8, 8, 8, 8, 8, 8, 8, 8, 8, 8, 8, 8, 8, 8, 8, 8, 8, 8, 8, 8, 8, 8, 8, 8, 8, 8, 8, 8, 8, 8, 8, 8, 8, 8, 8, 8, 8, 8, 8, 8, 8, 8, 8, 8, 8, 8, 8, 8, 8, 8, 8, 8, 8, 8, 8, 8, 8, 8, 8, 8, 8, 8, 8, 8, 8, 8, 8, 8, 8, 8, 8, 8, 8, 8, 8, 8, 8, 8, 8, 8, 8, 8, 8, 8, 8, 8, 8, 8])) (l 0)), i (.conv .i64 (l 1)), i (.bin .add (e 1) (l 2))] [(1, l 3)])
  .ret)))))
def f_math_bits_Len64 : AFunc := ⟨5, 1, .pure, [.env 1], b_math_bits_Len64⟩
def l_slices_IndexFunc_api_Row_api_Value_0 : ACode :=
  (.seq (.reg [i (.bin .lss (e 5) (e 4))] [(6, l 0)])
  (.seq (.cond (e 6) .skip (.exit 0))
  (.seq (.blk 1 (.seq (.reg [] [(3, e 5)])
  (.seq (.reg [i (.idxs 4 (e 0) (e 3)), i (.load true 4 (l 0)), i (.callv (e 1) [(l 1)])] [(7, l 2)])
  (.cond (e 7) (.seq (.reg [] [(2, e 3)])
  .ret) .skip))))
  (.reg [i (.bin .add (e 5) (v (.int .i64 1)))] [(5, l 0)]))))
def b_slices_IndexFunc_api_Row_api_Value : ACode :=
  (.seq (.reg [] [(2, (v (.int .i64 0)))])
  (.seq (.seq (.reg [i (.len (e 0))] [(4, l 0), (5, (v (.int .i64 0)))])
  (.blk 0 (.loop [2, 3, 6, 7] l_slices_IndexFunc_api_Row_api_Value_0)))
  (.seq (.reg [] [(2, (v (.int .i64 (-1))))])
  .ret)))
def f_slices_IndexFunc_api_Row_api_Value : AFunc := ⟨8, 2, .pure, [.env 2], b_slices_IndexFunc_api_Row_api_Value⟩
def l_slices_pdqsortCmpFunc_api_Row_0 : ACode :=
  (.blk 1 (.seq (.reg [i (.bin .sub (e 2) (e 1))] [(7, l 0)])
  (.seq (.seq (.reg [i (.bin .leq (e 7) (v (.int .i64 12)))] [(16, l 0)])
  (.cond (e 16) (.seq (.reg [i (.call 39 [(e 0), (e 1), (e 2), (e 4)] false)] [])
  .ret) .skip))
  (.seq (.seq (.reg [i (.bin .eql (e 3) (v (.int .i64 0)))] [(17, l 0)])
  (.cond (e 17) (.seq (.reg [i (.call 375 [(e 0), (e 1), (e 2), (e 4)] false)] [])
  .ret) .skip))
  (.seq (.seq (.reg [i (.una .not (e 5))] [(18, l 0)])
  (.cond (e 18) (.seq (.reg [i (.call 374 [(e 0), (e 1), (e 2), (e 4)] false)] [])
  (.reg [i (.bin .sub (e 3) (v (.int .i64 1)))] [(3, l 0)])) .skip))
  (.seq (.reg [i (.call 373 [(e 0), (e 1), (e 2), (e 4)] false), i (.ext 0 (l 0)), i (.ext 1 (l 0))] [(8, l 1), (9, l 2)])
  (.seq (.seq (.reg [i (.bin .eql (e 9) (v (.int .i64 2)))] [(19, l 0)])
  (.cond (e 19) (.seq (.reg [i (.call 372 [(e 0), (e 1), (e 2), (e 4)] false)] [])
  (.seq (.reg [i (.bin .sub (e 2) (v (.int .i64 1))), i (.bin .sub (e 8) (e 1)), i (.bin .sub (l 0) (l 1))] [(8, l 2)])
  (.reg [] [(9, (v (.int .i64 1)))]))) .skip))
  (.seq (.seq (.reg [g (e 5) true (.mov (e 6)), i (.pick (e 5) (l 0) (v (.bool false))), g (l 1) true (.mov (e 9)), g (l 1) true (.bin .eql (l 2) (v (.int .i64 1))), i (.pick (l 1) (l 3) (v (.bool false)))] [(20, l 4)])
  (.cond (e 20) (.seq (.reg [i (.call 371 [(e 0), (e 1), (e 2), (e 4)] false)] [(21, l 0)])
  (.cond (e 21) .ret .skip)) .skip))
  (.seq (.seq (.reg [i (.bin .gtr (e 1) (v (.int .i64 0))), g (l 0) true (.mov (e 4)), g (l 0) true (.mov (e 0)), g (l 0) true (.mov (e 1)), g (l 0) true (.bin .sub (l 3) (v (.int .i64 1))), g (l 0) true (.idxs 1 (l 2) (l 4)), g (l 0) true (.load false 1 (l 5)), g (l 0) true (.mov (e 0)), g (l 0) true (.mov (e 8)), g (l 0) true (.idxs 1 (l 7) (l 8)), g (l 0) true (.load false 1 (l 9)), g (l 0) true (.callv (l 1) [(l 6), (l 10)]), g (l 0) true (.bin .lss (l 11) (v (.int .i64 0))), g (l 0) true (.una .not (l 12)), i (.pick (l 0) (l 13) (v (.bool false)))] [(22, l 14)])
  (.cond (e 22) (.seq (.reg [i (.call 370 [(e 0), (e 1), (e 2), (e 8), (e 4)] false)] [(10, l 0)])
  (.seq (.reg [] [(1, e 10)])
  (.exit 1))) .skip))
  (.seq (.reg [i (.call 369 [(e 0), (e 1), (e 2), (e 8), (e 4)] false), i (.ext 0 (l 0)), i (.ext 1 (l 0))] [(11, l 1), (12, l 2)])
  (.seq (.reg [] [(6, e 12)])
  (.seq (.reg [i (.bin .sub (e 11) (e 1)), i (.bin .sub (e 2) (e 11))] [(13, l 0), (14, l 1)])
  (.seq (.reg [i (.bin .quo (e 7) (v (.int .i64 8)))] [(15, l 0)])
  (.seq (.reg [i (.bin .lss (e 13) (e 14))] [(23, l 0)])
  (.cond (e 23) (.seq (.reg [i (.bin .geq (e 13) (e 15))] [(5, l 0)])
  (.seq (.reg [i (.call 40 [(e 0), (e 1), (e 11), (e 3), (e 4)] false)] [])
  (.reg [i (.bin .add (e 11) (v (.int .i64 1)))] [(1, l 0)]))) (.seq (.reg [i (.bin .geq (e 14) (e 15))] [(5, l 0)])
  (.seq (.reg [i (.bin .add (e 11) (v (.int .i64 1))), i (.call 40 [(e 0), (l 0), (e 2), (e 3), (e 4)] false)] [])
  (.reg [] [(2, e 11)]))))))))))))))))))
def b_slices_pdqsortCmpFunc_api_Row : ACode :=
  (.seq (.reg [] [(5, (v (.bool true)))])
  (.seq (.reg [] [(6, (v (.bool true)))])
  (.blk 0 (.loop [7, 8, 9, 10, 11, 12, 13, 14, 15, 16, 17, 18, 19, 20, 21, 22, 23] l_slices_pdqsortCmpFunc_api_Row_0))))
def f_slices_pdqsortCmpFunc_api_Row : AFunc := ⟨24, 5, .keep, [], b_slices_pdqsortCmpFunc_api_Row⟩
def l_slices_CompareFunc_api_Row_api_Row_api_Value_api_Value_0 : ACode :=
  (.seq (.reg [i (.bin .lss (e 10) (e 9))] [(11, l 0)])
  (.seq (.cond (e 11) .skip (.exit 0))
  (.seq (.blk 1 (.seq (.reg [i (.idxs 4 (e 8) (e 10)), i (.load true 4 (l 0)), i (.box 4 (v (.agg [.int .i64 0, .int .i64 0, .int .u64 0, .str []]))), i (.store 4 (l 2) (l 1))] [(5, l 2), (4, e 10)])
  (.seq (.seq (.reg [i (.len (e 1)), i (.bin .geq (e 4) (l 0))] [(12, l 1)])
  (.cond (e 12) (.seq (.reg [] [(3, (v (.int .i64 1)))])
  .ret) .skip))
  (.seq (.reg [i (.idxs 4 (e 1) (e 4)), i (.load true 4 (l 0)), i (.box 4 (v (.agg [.int .i64 0, .int .i64 0, .int .u64 0, .str []]))), i (.store 4 (l 2) (l 1))] [(6, l 2)])
  (.seq (.reg [i (.load true 4 (e 5)), i (.load true 4 (e 6)), i (.callv (e 2) [(l 0), (l 1)])] [(7, l 2)])
  (.seq (.reg [i (.bin .neq (e 7) (v (.int .i64 0)))] [(13, l 0)])
  (.cond (e 13) (.seq (.reg [] [(3, e 7)])
  .ret) .skip)))))))
  (.reg [i (.bin .add (e 10) (v (.int .i64 1)))] [(10, l 0)]))))
def b_slices_CompareFunc_api_Row_api_Row_api_Value_api_Value : ACode :=
  (.seq (.reg [] [(3, (v (.int .i64 0)))])
  (.seq (.seq (.reg [i (.len (e 0))] [(8, e 0), (9, l 0), (10, (v (.int .i64 0)))])
  (.blk 0 (.loop [3, 4, 5, 6, 7, 11, 12, 13] l_slices_CompareFunc_api_Row_api_Row_api_Value_api_Value_0)))
  (.seq (.seq (.reg [i (.len (e 0)), i (.len (e 1)), i (.bin .lss (l 0) (l 1))] [(14, l 2)])
  (.cond (e 14) (.seq (.reg [] [(3, (v (.int .i64 (-1))))])
  .ret) .skip))
  (.seq (.reg [] [(3, (v (.int .i64 0)))])
  .ret))))
def f_slices_CompareFunc_api_Row_api_Row_api_Value_api_Value : AFunc := ⟨15, 3, .pure, [.env 3], b_slices_CompareFunc_api_Row_api_Row_api_Value_api_Value⟩
def b_row_values : ACode :=
  (.seq (.reg [i (.box 4 (e 0)), i (.box 4 (e 1))] [(2, l 0), (3, l 1), (4, (v (.int .i64 0)))])
  (.seq (.reg [i (.fld 0 (e 2)), i (.load false 1 (l 0)), i (.fld 0 (e 3)), i (.load false 1 (l 2)), i (.call 95 [(l 1), (l 3)] false), i (.fld 1 (e 2)), i (.load false 1 (l 5)), i (.fld 1 (e 3)), i (.load false 1 (l 7)), i (.call 94 [(l 6), (l 8)] false), i (.fld 2 (e 2)), i (.load false 1 (l 10)), i (.fld 2 (e 3)), i (.load false 1 (l 12)), i (.call 93 [(l 11), (l 13)] false), i (.fld 3 (e 2)), i (.load false 1 (l 15)), i (.fld 3 (e 3)), i (.load false 1 (l 17)), i (.call 92 [(l 16), (l 18)] false), i (.mkl 1 [(l 4), (l 9), (l 14), (l 19)]), i (.call 70 [(l 20)] false)] [(4, l 21)])
  .ret))
def f_row_values : AFunc := ⟨5, 2, .pure, [.env 4], b_row_values⟩
def b_row_Groups_1 : ACode :=
  (.seq (.reg [] [(3, (v (.int .i64 0)))])
  (.seq (.reg [i (.load false 1 (e 2)), i (.call 43 [(e 0), (l 0)] false), i (.load false 1 (e 2)), i (.call 43 [(e 1), (l 2)] false), i (.call 72 [(l 1), (l 3)] false), i (.call 72 [(e 0), (e 1)] false), i (.mkl 1 [(l 4), (l 5)]), i (.call 70 [(l 6)] false)] [(3, l 7)])
  .ret))
def f_row_Groups_1 : AFunc := ⟨4, 3, .pure, [.env 3], b_row_Groups_1⟩
def l_cmp_Or_int_0 : ACode :=
  (.seq (.reg [i (.bin .lss (e 6) (e 5))] [(7, l 0)])
  (.seq (.cond (e 7) .skip (.exit 0))
  (.seq (.blk 1 (.seq (.reg [i (.idxs 1 (e 4) (e 6)), i (.load false 1 (l 0))] [(3, l 1)])
  (.seq (.reg [i (.bin .neq (e 3) (e 2))] [(8, l 0)])
  (.cond (e 8) (.seq (.reg [] [(1, e 3)])
  .ret) .skip))))
  (.reg [i (.bin .add (e 6) (v (.int .i64 1)))] [(6, l 0)]))))
def b_cmp_Or_int : ACode :=
  (.seq (.reg [] [(1, (v (.int .i64 0)))])
  (.seq (.reg [] [(2, (v (.int .i64 0)))])
  (.seq (.seq (.reg [i (.len (e 0))] [(4, e 0), (5, l 0), (6, (v (.int .i64 0)))])
  (.blk 0 (.loop [1, 3, 7, 8] l_cmp_Or_int_0)))
  (.seq (.reg [] [(1, e 2)])
  .ret))))
def f_cmp_Or_int : AFunc := ⟨9, 1, .pure, [.env 1], b_cmp_Or_int⟩
def b_row_Groups_2 : ACode :=
  (.seq (.reg [] [(3, (v (.bool false)))])
  (.seq (.reg [i (.load false 1 (e 2)), i (.call 43 [(e 0), (l 0)] false), i (.load false 1 (e 2)), i (.call 43 [(e 1), (l 2)] false), i (.call 177 [(l 1), (l 3)] false)] [(3, l 4)])
  .ret))
def f_row_Groups_2 : AFunc := ⟨4, 3, .pure, [.env 3], b_row_Groups_2⟩
def b_row_runs : ACode :=
  (.seq (.reg [i (.box 1 (e 0)), i (.box 1 (e 1))] [(2, l 0), (3, l 1), (4, (v (.nilf)))])
  (.seq (.reg [i (.mkfn 131 [] [(e 2), (e 3)])] [(4, l 0)])
  .ret))
def f_row_runs : AFunc := ⟨5, 2, .keep, [.env 4], b_row_runs⟩
def b_slices_Clone_api_Row_api_Row : ACode :=
  (.seq (.reg [i (.mov (v (.nil0)))] [(1, l 0)])
  (.seq (.seq (.reg [i (.nils false (e 0))] [(2, l 0)])
  (.cond (e 2) (.seq (.reg [i (.mov (v (.nil0)))] [(1, l 0)])
  .ret) .skip))
  (.seq (.reg [i (.mov (v .nil0)), i (.app 1 (l 0) (e 0))] [(1, l 1)])
  .ret)))
def f_slices_Clone_api_Row_api_Row : AFunc := ⟨3, 1, .fresh 1, [.env 1], b_slices_Clone_api_Row_api_Row⟩
def b_cmp_isNaN_int : ACode :=
  (.seq (.reg [] [(1, (v (.bool false)))])
  (.seq (.reg [i (.bin .neq (e 0) (e 0))] [(1, l 0)])
  .ret))
def f_cmp_isNaN_int : AFunc := ⟨2, 1, .pure, [.env 1], b_cmp_isNaN_int⟩
def l_slices_insertionSortCmpFunc_api_Row_0 : ACode :=
  (.seq (.seq (.reg [i (.bin .gtr (e 5) (e 1)), g (l 0) true (.mov (e 3)), g (l 0) true (.mov (e 0)), g (l 0) true (.mov (e 5)), g (l 0) true (.idxs 1 (l 2) (l 3)), g (l 0) true (.load false 1 (l 4)), g (l 0) true (.mov (e 0)), g (l 0) true (.mov (e 5)), g (l 0) true (.bin .sub (l 7) (v (.int .i64 1))), g (l 0) true (.idxs 1 (l 6) (l 8)), g (l 0) true (.load false 1 (l 9)), g (l 0) true (.callv (l 1) [(l 5), (l 10)]), g (l 0) true (.bin .lss (l 11) (v (.int .i64 0))), i (.pick (l 0) (l 12) (v (.bool false)))] [(7, l 13)])
  (.cond (e 7) .skip (.exit 2)))
  (.seq (.blk 3 (.reg [i (.bin .sub (e 5) (v (.int .i64 1))), i (.bin .sub (e 5) (v (.int .i64 1))), i (.idxs 1 (e 0) (l 1)), i (.load false 1 (l 2)), i (.idxs 1 (e 0) (e 5)), i (.load false 1 (l 4)), i (.idxs 1 (e 0) (e 5)), i (.store 1 (l 6) (l 3)), i (.idxs 1 (e 0) (l 0)), i (.store 1 (l 8) (l 5))] []))
  (.reg [i (.bin .sub (e 5) (v (.int .i64 1)))] [(5, l 0)])))
def l_slices_insertionSortCmpFunc_api_Row_1 : ACode :=
  (.seq (.seq (.reg [i (.bin .lss (e 4) (e 2))] [(6, l 0)])
  (.cond (e 6) .skip (.exit 0)))
  (.seq (.blk 1 (.seq (.reg [] [(5, e 4)])
  (.blk 2 (.loop [7] l_slices_insertionSortCmpFunc_api_Row_0))))
  (.reg [i (.bin .add (e 4) (v (.int .i64 1)))] [(4, l 0)])))
def b_slices_insertionSortCmpFunc_api_Row : ACode :=
  (.seq (.reg [i (.bin .add (e 1) (v (.int .i64 1)))] [(4, l 0)])
  (.blk 0 (.loop [5, 6, 7] l_slices_insertionSortCmpFunc_api_Row_1)))
def f_slices_insertionSortCmpFunc_api_Row : AFunc := ⟨8, 4, .keep, [], b_slices_insertionSortCmpFunc_api_Row⟩
def b_cmp_Compare_int : ACode :=
  (.seq (.reg [] [(2, (v (.int .i64 0)))])
  (.seq (.reg [i (.call 48 [(e 0)] false)] [(3, l 0)])
  (.seq (.reg [i (.call 48 [(e 1)] false)] [(4, l 0)])
  (.seq (.seq (.reg [] [(5, e 3)])
  (.cond (e 5) (.seq (.seq (.reg [] [(6, e 4)])
  (.cond (e 6) (.seq (.reg [] [(2, (v (.int .i64 0)))])
  .ret) .skip))
  (.seq (.reg [] [(2, (v (.int .i64 (-1))))])
  .ret)) .skip))
  (.seq (.seq (.reg [] [(7, e 4)])
  (.cond (e 7) (.seq (.reg [] [(2, (v (.int .i64 1)))])
  .ret) .skip))
  (.seq (.seq (.reg [i (.bin .lss (e 0) (e 1))] [(8, l 0)])
  (.cond (e 8) (.seq (.reg [] [(2, (v (.int .i64 (-1))))])
  .ret) .skip))
  (.seq (.seq (.reg [i (.bin .gtr (e 0) (e 1))] [(9, l 0)])
  (.cond (e 9) (.seq (.reg [] [(2, (v (.int .i64 1)))])
  .ret) .skip))
  (.seq (.reg [] [(2, (v (.int .i64 0)))])
  .ret))))))))
def f_cmp_Compare_int : AFunc := ⟨10, 2, .pure, [.env 2], b_cmp_Compare_int⟩
def b_cmp_Compare_int64 : ACode :=
  (.seq (.reg [] [(2, (v (.int .i64 0)))])
  (.seq (.reg [i (.call 47 [(e 0)] false)] [(3, l 0)])
  (.seq (.reg [i (.call 47 [(e 1)] false)] [(4, l 0)])
  (.seq (.seq (.reg [] [(5, e 3)])
  (.cond (e 5) (.seq (.seq (.reg [] [(6, e 4)])
  (.cond (e 6) (.seq (.reg [] [(2, (v (.int .i64 0)))])
  .ret) .skip))
  (.seq (.reg [] [(2, (v (.int .i64 (-1))))])
  .ret)) .skip))
  (.seq (.seq (.reg [] [(7, e 4)])
  (.cond (e 7) (.seq (.reg [] [(2, (v (.int .i64 1)))])
  .ret) .skip))
  (.seq (.seq (.reg [i (.bin .lss (e 0) (e 1))] [(8, l 0)])
  (.cond (e 8) (.seq (.reg [] [(2, (v (.int .i64 (-1))))])
  .ret) .skip))
  (.seq (.seq (.reg [i (.bin .gtr (e 0) (e 1))] [(9, l 0)])
  (.cond (e 9) (.seq (.reg [] [(2, (v (.int .i64 1)))])
  .ret) .skip))
  (.seq (.reg [] [(2, (v (.int .i64 0)))])
  .ret))))))))
def f_cmp_Compare_int64 : AFunc := ⟨10, 2, .pure, [.env 2], b_cmp_Compare_int64⟩
def b_cmp_Compare_uint64 : ACode :=
  (.seq (.reg [] [(2, (v (.int .i64 0)))])
  (.seq (.reg [i (.call 46 [(e 0)] false)] [(3, l 0)])
  (.seq (.reg [i (.call 46 [(e 1)] false)] [(4, l 0)])
  (.seq (.seq (.reg [] [(5, e 3)])
  (.cond (e 5) (.seq (.seq (.reg [] [(6, e 4)])
  (.cond (e 6) (.seq (.reg [] [(2, (v (.int .i64 0)))])
  .ret) .skip))
  (.seq (.reg [] [(2, (v (.int .i64 (-1))))])
  .ret)) .skip))
  (.seq (.seq (.reg [] [(7, e 4)])
  (.cond (e 7) (.seq (.reg [] [(2, (v (.int .i64 1)))])
  .ret) .skip))
  (.seq (.seq (.reg [i (.bin .lss (e 0) (e 1))] [(8, l 0)])
  (.cond (e 8) (.seq (.reg [] [(2, (v (.int .i64 (-1))))])
  .ret) .skip))
  (.seq (.seq (.reg [i (.bin .gtr (e 0) (e 1))] [(9, l 0)])
  (.cond (e 9) (.seq (.reg [] [(2, (v (.int .i64 1)))])
  .ret) .skip))
  (.seq (.reg [] [(2, (v (.int .i64 0)))])
  .ret))))))))
def f_cmp_Compare_uint64 : AFunc := ⟨10, 2, .pure, [.env 2], b_cmp_Compare_uint64⟩
def b_cmp_Compare_string : ACode :=
  (.seq (.reg [] [(2, (v (.int .i64 0)))])
  (.seq (.reg [i (.call 45 [(e 0)] false)] [(3, l 0)])
  (.seq (.reg [i (.call 45 [(e 1)] false)] [(4, l 0)])
  (.seq (.seq (.reg [] [(5, e 3)])
  (.cond (e 5) (.seq (.seq (.reg [] [(6, e 4)])
  (.cond (e 6) (.seq (.reg [] [(2, (v (.int .i64 0)))])
  .ret) .skip))
  (.seq (.reg [] [(2, (v (.int .i64 (-1))))])
  .ret)) .skip))
  (.seq (.seq (.reg [] [(7, e 4)])
  (.cond (e 7) (.seq (.reg [] [(2, (v (.int .i64 1)))])
  .ret) .skip))
  (.seq (.seq (.reg [i (.bin .lss (e 0) (e 1))] [(8, l 0)])
  (.cond (e 8) (.seq (.reg [] [(2, (v (.int .i64 (-1))))])
  .ret) .skip))
  (.seq (.seq (.reg [i (.bin .gtr (e 0) (e 1))] [(9, l 0)])
  (.cond (e 9) (.seq (.reg [] [(2, (v (.int .i64 1)))])
  .ret) .skip))
  (.seq (.reg [] [(2, (v (.int .i64 0)))])
  .ret))))))))
def f_cmp_Compare_string : AFunc := ⟨10, 2, .pure, [.env 2], b_cmp_Compare_string⟩
def l_row_runs_1_0 : ACode :=
  (.seq (.seq (.reg [i (.load false 1 (e 1)), i (.len (l 0)), i (.bin .lss (e 3) (l 1)), g (l 2) true (.load false 1 (e 2)), g (l 2) true (.load false 1 (e 1)), g (l 2) true (.idxs 1 (l 4) (v (.int .i64 0))), g (l 2) true (.load false 1 (l 5)), g (l 2) true (.load false 1 (e 1)), g (l 2) true (.mov (e 3)), g (l 2) true (.idxs 1 (l 7) (l 8)), g (l 2) true (.load false 1 (l 9)), g (l 2) true (.callv (l 3) [(l 6), (l 10)]), i (.pick (l 2) (l 11) (v (.bool false)))] [(5, l 12)])
  (.cond (e 5) .skip (.exit 2)))
  (.blk 3 (.reg [i (.bin .add (e 3) (v (.int .i64 1)))] [(3, l 0)])))
def l_row_runs_1_1 : ACode :=
  (.seq (.seq (.reg [i (.load false 1 (e 1)), i (.len (l 0)), i (.bin .gtr (l 1) (v (.int .i64 0)))] [(4, l 2)])
  (.cond (e 4) .skip (.exit 0)))
  (.blk 1 (.seq (.reg [] [(3, (v (.int .i64 1)))])
  (.seq (.blk 2 (.loop [5] l_row_runs_1_0))
  (.seq (.seq (.reg [i (.load false 1 (e 1)), i (.slice 1 (l 0) none (some (e 3))), i (.callv (e 0) [(l 1)]), i (.una .not (l 2))] [(6, l 3)])
  (.cond (e 6) .ret .skip))
  (.reg [i (.load false 1 (e 1)), i (.slice 1 (l 0) (some (e 3)) none), i (.store 1 (e 1) (l 1))] []))))))
def b_row_runs_1 : ACode :=
  (.blk 0 (.loop [3, 4, 5, 6] l_row_runs_1_1))
def f_row_runs_1 : AFunc := ⟨7, 3, .keep, [], b_row_runs_1⟩
def b_cmp_isNaN_int64 : ACode :=
  (.seq (.reg [] [(1, (v (.bool false)))])
  (.seq (.reg [i (.bin .neq (e 0) (e 0))] [(1, l 0)])
  .ret))
def f_cmp_isNaN_int64 : AFunc := ⟨2, 1, .pure, [.env 1], b_cmp_isNaN_int64⟩
def b_cmp_isNaN_uint64 : ACode :=
  (.seq (.reg [] [(1, (v (.bool false)))])
  (.seq (.reg [i (.bin .neq (e 0) (e 0))] [(1, l 0)])
  .ret))
def f_cmp_isNaN_uint64 : AFunc := ⟨2, 1, .pure, [.env 1], b_cmp_isNaN_uint64⟩
def b_cmp_isNaN_string : ACode :=
  (.seq (.reg [] [(1, (v (.bool false)))])
  (.seq (.reg [i (.bin .neq (e 0) (e 0))] [(1, l 0)])
  .ret))
def f_cmp_isNaN_string : AFunc := ⟨2, 1, .pure, [.env 1], b_cmp_isNaN_string⟩
def tbl : List AEntry := [
.none,
.fn f_value_blank,
.fn f_value_Check,
.nilfn f_slices_Clone_int_int,
.fn f_expr_parts,
.fn f_lex_small,
.fn f_slices_IndexFunc_int_int,
.fn f_slices_ContainsFunc_int_int,
.fn f_expr_counts,
.fn f_expr_Check,
.fn f_expr_firsts,
.fn f_math_bits_Len64,
.fn f_math_bits_Len,
.fn f_slices_IndexFunc_api_Row_api_Value,
.fn f_row_right_1,
.fn f_slices_ContainsFunc_api_Row_api_Value,
.nilfn f_slices_Clone_api_Row_api_Value,
.fn f_row_right,
.fn f_prop_parts,
.fn f_prop_blank,
.fn f_prop_laid_takes,
.fn f_lex_IsWord,
.prim 4,
.fn f_lex_digit,
.fn f_catalog_columnName,
.fn f_lex_IsName,
.fn f_catalog_tableName,
.fn f_slices_Index_string_string,
.fn f_slices_Contains_string_string,
.fn f_exec_fit_1_1,
.fn f_slices_EqualFunc_api_Row_int_api_Value_int,
.fn f_row_lists,
.fn f_exec_fit_1,
.fn f_slices_insertionSortOrdered_int,
.fn f_slices_pdqsortOrdered_int,
.fn f_slices_Sort_int_int,
.fn f_slices_Compact_int_int,
.fn f_expr_Cols,
.fn f_plan_sites,
.fn f_slices_insertionSortCmpFunc_api_Row,
.fn f_slices_pdqsortCmpFunc_api_Row,
.fn f_row_copies,
.fn f_slices_SortFunc_api_Row_api_Row,
.fn f_row_take,
.fn f_slices_IndexFunc_api_Table_api_Table,
.fn f_cmp_isNaN_string,
.fn f_cmp_isNaN_uint64,
.fn f_cmp_isNaN_int64,
.fn f_cmp_isNaN_int,
.round r_logic_look_0,
.fn f_arith_are,
.fn f_expr_not,
.fn f_expr_over_int_1,
.fn f_slices_IndexFunc_api_Row_api_Row,
.fn f_expr_over_int,
.fn f_expr_Kind_1,
.fn f_slices_ContainsFunc_api_Row_api_Row,
.fn f_logic_parts,
.fn f_expr_Kind,
.fn f_logic_zero,
.fn f_logic_bare,
.fn f_logic_checker_below,
.fn f_exec_fit,
.fn f_prop_Kinds,
.fn f_mean_run_nodes,
.fn f_row_sorted,
.fn f_row_Sorted,
.fn f_prop_inputs_1,
.fn f_prop_inputs,
.fn f_prop_asks,
.fn f_cmp_Or_int,
.fn f_slices_CompareFunc_api_Row_api_Row_api_Value_api_Value,
.fn f_row_order,
.fn f_slices_Index_int_int,
.fn f_expr_null,
.fn f_expr_first,
.fn f_prop_Reader,
.fn f_plan_reader,
.fn f_exec_sorted,
.round r_plan_some_0,
.fn f_plan_Into_1,
.fn f_slices_Contains_int_int,
.fn f_exec_run_handed,
.fn f_catalog_find_api_Table_1,
.fn f_catalog_find_api_Column,
.fn f_logic_checker_all_1,
.fn f_plan_upTo,
.fn f_catalog_find_api_Table,
.fn f_catalog_once_api_Column,
.fn f_catalog_word,
.fn f_catalog_CheckTable,
.fn f_logic_checker_all,
.fn f_cmp_Compare_string,
.fn f_cmp_Compare_uint64,
.fn f_cmp_Compare_int64,
.fn f_cmp_Compare_int,
.fn f_row_values,
.fn f_catalog_Check_1,
.fn f_catalog_once_api_Table,
.fn f_slices_ContainsFunc_api_Table_api_Table,
.fn f_logic_look,
.fn f_row_has,
.fn f_prop_laid_scan_1,
.fn f_catalog_Check,
.fn f_prop_laid_partial,
.fn f_prop_laid_group,
.fn f_prop_laid_scan,
.fn f_logic_plain,
.fn f_slices_IndexFunc_api_Column_api_Column,
.fn f_catalog_find_api_Column_1,
.fn f_logic_checker_scan_1,
.fn f_logic_checker_scan,
.fn f_plan_asked,
.nilfn f_slices_Clone_api_ENode_api_ENode,
.prim 0,
.fn f_arith_wide,
.fn f_prop_checker_frag_2,
.fn f_logic_places,
.fn f_logic_agg,
.fn f_logic_checker_group,
.round r_place_obeys_0,
.fn f_place_home,
.fn f_mean_run_inputs,
.fn f_exec_Run,
.fn f_mean_run_tables,
.fn f_exec_Goes,
.nilfn f_slices_Clone_api_Ord_api_Ord,
.nilfn f_slices_Clone_api_Expr_api_Expr,
.nilfn f_slices_Clone_api_Agg_api_Agg,
.round r_mean_through_0,
.fn f_mean_run_does,
.fn f_row_runs_1,
.fn f_row_runs,
.round r_row_Groups_0,
.nilfn f_slices_Clone_api_Row_api_Row,
.fn f_row_Groups,
.nilfn f_slices_Clone_api_Value_api_Value,
.round r_prop_Reader_0,
.fn f_logic_copied,
.fn f_value_Null,
.fn f_arith_Sum,
.fn f_exec_groups_1,
.fn f_expr_over_api_Value_1,
.fn f_expr_turned,
.fn f_exec_groups,
.round r_exec_grouped_0,
.fn f_expr_does,
.fn f_expr_over_api_Value,
.fn f_expr_Eval_1,
.fn f_plan_all_1,
.fn f_prop_laid_input_1,
.fn f_value_Plain,
.fn f_row_asked,
.fn f_exec_grouped,
.fn f_expr_Eval,
.fn f_plan_all,
.fn f_prop_laid_final,
.fn f_prop_laid_input,
.fn f_exec_run_given,
.fn f_plan_some,
.round r_place_right_0,
.fn f_blaw21_n,
.fn f_exec_does,
.fn f_plan_Into,
.fn f_plan_Places,
.fn f_place_all,
.fn f_prop_checker_frag,
.fn f_prop_checker_reads,
.fn f_slices_Clone_api_LNode_api_LNode,
.fn f_plan_over,
.fn f_slices_Equal_api_Row_api_Value,
.fn f_row_Groups_1,
.fn f_row_Groups_2,
.fn f_slices_Equal_int_int,
.fn f_arith_Join,
.fn f_arith_plus,
.fn f_exec_partial_1,
.fn f_row_equal,
.fn f_slices_Grow_api_Row_api_Row,
.fn f_exec_partial,
.fn f_slices_Concat_api_Row_api_Row,
.fn f_denote_fits,
.fn f_slices_IndexFunc_api_LNode_api_LNode,
.fn f_logic_Part,
.fn f_logic_Kinds,
.fn f_plan_planner_side,
.fn f_exec_run_partial,
.fn f_row_Merge,
.fn f_plan_Plan_1,
.fn f_place_all_1,
.fn f_denote_CheckBase,
.fn f_prop_checker_root,
.fn f_slices_ContainsFunc_api_LNode_api_LNode,
.fn f_mean_merged,
.fn f_mean_run_on,
.fn f_place_right,
.fn f_plan_Plan,
.fn f_mean_Mean,
.fn f_mean_run_all_1,
.fn f_place_asked,
.fn f_place_obeys,
.fn f_prop_begin,
.fn f_plan_partial,
.fn f_plan_places,
.fn f_plan_side_with,
.fn f_blaw21_wakes,
.fn f_prop_Check,
.fn f_place_Check,
.fn f_mean_run_all,
.fn f_slices_IndexFunc_api_Frag_api_Frag,
.fn f_plan_planner_group,
.fn f_plan_planner_scan,
.fn f_plan_planner_send,
.fn f_arith_End,
.fn f_exec_summed,
.fn f_value_Int,
.fn f_exec_final_1,
.fn f_mean_through,
.fn f_logic_Check,
.fn f_exec_final,
.fn f_plan_scans,
.fn f_prop_checker_frag_2_1,
.fn f_slices_EqualFunc_int_api_Column_int_api_Column,
.fn f_plan_planner_one,
.fn f_exec_run_final,
.round r_prop_checker_reads_0,
.fn f_slices_ContainsFunc_api_Frag_api_Frag,
.fn f_blaw21_col,
.fn f_blaw21_one,
.fn f_mean_May,
.fn f_bref21_May,
.fn f_mean_Same,
.fn f_bref21_Same,
.fn f_blaw21_overRows,
.fn f_blaw21_MeanMay,
.fn f_row_Same,
.fn f_slices_EqualFunc_api_Row_api_Row_api_Row_api_Row,
.prim 3]
end Go.AM.P
namespace Go.AM
def code : Code := ⟨fun n => P.tbl.getD n .none, prims⟩
end Go.AM
namespace Go.AM.I
abbrev slices_Clone_api_Row_api_Value : Nat := 16
abbrev row_right : Nat := 17
abbrev slices_Equal_api_Row_api_Value : Nat := 170
abbrev row_equal : Nat := 177
abbrev plan_Plan : Nat := 196
abbrev blaw21_wakes : Nat := 205
abbrev prop_Check : Nat := 206
abbrev place_Check : Nat := 207
abbrev mean_through : Nat := 217
abbrev blaw21_one : Nat := 228
abbrev mean_May : Nat := 229
abbrev bref21_May : Nat := 230
abbrev mean_Same : Nat := 231
abbrev bref21_Same : Nat := 232
abbrev blaw21_overRows : Nat := 233
abbrev blaw21_MeanMay : Nat := 234
abbrev row_Same : Nat := 235
abbrev slices_EqualFunc_api_Row_api_Row_api_Row_api_Row : Nat := 236
end Go.AM.I
