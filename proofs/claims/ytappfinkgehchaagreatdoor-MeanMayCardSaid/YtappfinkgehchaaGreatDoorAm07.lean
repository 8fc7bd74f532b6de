/- PRINTED BY gen.py: the functions' code for the abstract machine. -/
import Derived.Test.YtappfinkgehchaaGreatDoorAm06
set_option linter.unusedVariables false
set_option linter.unusedSimpArgs false
set_option linter.unusedSectionVars false
namespace Go.AM.P
abbrev gl0 : AVal := .agg [.str [98, 111, 111, 108], .int .i64 1, .str [105, 110, 116], .int .i64 2, .str [116, 101, 120, 116], .int .i64 3]
abbrev gl1 : AVal := .agg [.str [83, 69, 76, 69, 67, 84], .str [68, 73, 83, 84, 73, 78, 67, 84], .str [70, 82, 79, 77], .str [76, 69, 70, 84], .str [74, 79, 73, 78], .str [79, 78], .str [87, 72, 69, 82, 69], .str [71, 82, 79, 85, 80], .str [66, 89], .str [72, 65, 86, 73, 78, 71], .str [85, 78, 73, 79, 78], .str [65, 76, 76], .str [79, 82, 68, 69, 82], .str [76, 73, 77, 73, 84], .str [65, 83, 67], .str [68, 69, 83, 67], .str [65, 83], .str [65, 78, 68], .str [79, 82], .str [78, 79, 84], .str [73, 83], .str [78, 85, 76, 76], .str [84, 82, 85, 69], .str [70, 65, 76, 83, 69], .str [67, 79, 85, 78, 84], .str [83, 85, 77], .str [77, 73, 78], .str [77, 65, 88]]
abbrev gl5 : AVal := .agg [.int .u8 128, .int .u8 191, .int .u8 160, .int .u8 191, .int .u8 128, .int .u8 159, .int .u8 144, .int .u8 191, .int .u8 128, .int .u8 143, .int .u8 0, .int .u8 0, .int .u8 0, .int .u8 0, .int .u8 0, .int .u8 0, .int .u8 0, .int .u8 0, .int .u8 0, .int .u8 0, .int .u8 0, .int .u8 0, .int .u8 0, .int .u8 0, .int .u8 0, .int .u8 0, .int .u8 0, .int .u8 0, .int .u8 0, .int .u8 0, .int .u8 0, .int .u8 0]
abbrev gl6 : AVal := .agg [.int .i64 1, .int .i64 0, .int .u64 0, .str [], .int .i64 0, .int .i64 0, .int .u64 0, .str [], .int .i64 1, .int .i64 1, .int .u64 0, .str []]
def b_blaw21_MeanMay : ACode :=
  (.seq (.reg [i (.box 3 (e 0)), i (.box 3 (e 1))] [(3, l 0), (4, l 1), (5, (v (.bool false)))])
  (.seq (.seq (.reg [i (.call 205 [] false), i (.una .not (l 0))] [(7, l 1)])
  (.cond (e 7) (.seq (.reg [] [(5, (v (.bool false)))])
  .ret) .skip))
  (.seq (.seq (.reg [i (.fld 0 (e 3)), i (.load false 1 (l 0)), i (.call 233 [(l 1)] false), g (l 2) false (.fld 0 (e 4)), g (l 2) false (.load false 1 (l 3)), g (l 2) false (.call 233 [(l 4)] false), i (.pick (l 2) (v (.bool true)) (l 5))] [(8, l 6)])
  (.cond (e 8) (.seq (.reg [] [(5, (v (.bool true)))])
  .ret) .skip))
  (.seq (.reg [i (.fld 1 (e 3)), i (.load false 1 (l 0)), i (.fld 1 (e 4)), i (.load false 1 (l 2)), i (.eqb false (l 1) (l 3)), g (l 4) true (.fld 2 (e 3)), g (l 4) true (.load false 1 (l 5)), g (l 4) true (.fld 2 (e 4)), g (l 4) true (.load false 1 (l 7)), g (l 4) true (.eqb false (l 6) (l 8)), i (.pick (l 4) (l 9) (v (.bool false))), g (l 10) true (.fld 0 (e 3)), g (l 10) true (.load false 1 (l 11)), g (l 10) true (.fld 0 (e 4)), g (l 10) true (.load false 1 (l 13)), g (l 10) true (.call 232 [(l 12), (l 14)] false), i (.pick (l 10) (l 15) (v (.bool false)))] [(6, l 16)])
  (.seq (.reg [i (.load true 3 (e 3)), i (.fld 0 (e 4)), i (.load false 1 (l 1)), i (.call 229 [(l 0), (l 2), (e 2)] false), i (.load true 3 (e 3)), i (.fld 0 (e 4)), i (.load false 1 (l 5)), i (.call 230 [(l 4), (l 6), (e 2)] false), i (.eqb false (l 3) (l 7)), g (l 8) true (.load true 3 (e 3)), g (l 8) true (.mov (e 2)), g (l 8) true (.call 229 [(l 9), (v (.nil0)), (l 10)] false), g (l 8) true (.load true 3 (e 3)), g (l 8) true (.mov (e 2)), g (l 8) true (.call 230 [(l 12), (v (.nil0)), (l 13)] false), g (l 8) true (.eqb false (l 11) (l 14)), i (.pick (l 8) (l 15) (v (.bool false))), g (l 16) true (.load true 3 (e 3)), g (l 16) true (.load true 3 (e 4)), g (l 16) true (.call 231 [(l 17), (l 18)] false), g (l 16) true (.mov (e 6)), g (l 16) true (.eqb false (l 19) (l 20)), i (.pick (l 16) (l 21) (v (.bool false))), g (l 22) true (.load true 3 (e 3)), g (l 22) true (.load true 3 (e 3)), g (l 22) true (.call 231 [(l 23), (l 24)] false), i (.pick (l 22) (l 25) (v (.bool false)))] [(5, l 26)])
  .ret)))))
def f_blaw21_MeanMay : AFunc := ⟨9, 3, .pure, [.env 5], b_blaw21_MeanMay⟩
def b_blaw21_wakes : ACode :=
  (.seq (.reg [] [(0, (v (.bool false)))])
  (.seq (.reg [i (.call 228 [] false), i (.ext 0 (l 0)), i (.ext 1 (l 0)), i (.ext 2 (l 0)), i (.box 1 (v (.agg [.nil0]))), i (.box 1 (v (.agg [.nil0]))), i (.box 1 (v (.agg [.nil0]))), i (.store 1 (l 4) (l 1)), i (.store 1 (l 5) (l 2)), i (.store 1 (l 6) (l 3))] [(1, l 4), (2, l 5), (3, l 6)])
  (.seq (.reg [i (.load true 1 (e 3)), i (.load true 1 (e 1)), i (.call 196 [(l 0), (l 1)] false), i (.ext 0 (l 2)), i (.ext 1 (l 2)), i (.box 1 (v (.agg [.nil0]))), i (.store 1 (l 5) (l 3))] [(4, l 5), (5, l 4)])
  (.seq (.reg [i (.load true 1 (e 4)), i (.load true 1 (e 1)), i (.load true 1 (e 2)), i (.call 197 [(l 0), (l 1), (l 2)] false), i (.ext 0 (l 3)), i (.ext 1 (l 3)), i (.box 3 (v (.agg [.nil0, .bool false, .bool false]))), i (.store 3 (l 6) (l 4))] [(6, l 6), (7, l 5)])
  (.seq (.reg [i (.bin .eql (e 5) (v (.int .i64 0))), g (l 0) true (.mov (e 7)), g (l 0) true (.bin .eql (l 1) (v (.int .i64 0))), i (.pick (l 0) (l 2) (v (.bool false))), g (l 3) true (.fld 1 (e 6)), g (l 3) true (.load false 1 (l 4)), g (l 3) true (.una .not (l 5)), i (.pick (l 3) (l 6) (v (.bool false))), g (l 7) true (.fld 2 (e 6)), g (l 7) true (.load false 1 (l 8)), g (l 7) true (.una .not (l 9)), i (.pick (l 7) (l 10) (v (.bool false))), g (l 11) true (.fld 0 (e 6)), g (l 11) true (.load false 1 (l 12)), g (l 11) true (.len (l 13)), g (l 11) true (.bin .eql (l 14) (v (.int .i64 1))), i (.pick (l 11) (l 15) (v (.bool false))), g (l 16) true (.fld 0 (e 6)), g (l 16) true (.load false 1 (l 17)), g (l 16) true (.idxs 1 (l 18) (v (.int .i64 0))), g (l 16) true (.load false 1 (l 19)), g (l 16) true (.len (l 20)), g (l 16) true (.bin .eql (l 21) (v (.int .i64 1))), i (.pick (l 16) (l 22) (v (.bool false))), g (l 23) true (.fld 0 (e 6)), g (l 23) true (.load false 1 (l 24)), g (l 23) true (.idxs 1 (l 25) (v (.int .i64 0))), g (l 23) true (.load false 1 (l 26)), g (l 23) true (.idxs 4 (l 27) (v (.int .i64 0))), g (l 23) true (.fld 1 (l 28)), g (l 23) true (.load false 1 (l 29)), g (l 23) true (.bin .eql (l 30) (v (.int .i64 6))), i (.pick (l 23) (l 31) (v (.bool false)))] [(0, l 32)])
  .ret)))))
def f_blaw21_wakes : AFunc := ⟨8, 0, .pure, [.env 0], b_blaw21_wakes⟩
def l_blaw21_overRows_0 : ACode :=
  (.seq (.reg [i (.bin .lss (e 12) (e 11))] [(13, l 0)])
  (.seq (.cond (e 13) .skip (.exit 2))
  (.seq (.blk 3 (.seq (.reg [i (.idxs 4 (e 10) (e 12)), i (.load true 4 (l 0)), i (.box 4 (v (.agg [.int .i64 0, .int .i64 0, .int .u64 0, .str []]))), i (.store 4 (l 2) (l 1))] [(3, l 2)])
  (.seq (.reg [i (.fld 3 (e 3)), i (.load false 1 (l 0)), i (.lent (l 1)), i (.bin .gtr (l 2) (v (.int .i64 100)))] [(14, l 3)])
  (.cond (e 14) (.seq (.reg [] [(1, (v (.bool true)))])
  .ret) .skip))))
  (.reg [i (.bin .add (e 12) (v (.int .i64 1)))] [(12, l 0)]))))
def l_blaw21_overRows_1 : ACode :=
  (.seq (.reg [i (.bin .lss (e 7) (e 6))] [(8, l 0)])
  (.seq (.cond (e 8) .skip (.exit 0))
  (.seq (.blk 1 (.seq (.reg [i (.idxs 1 (e 5) (e 7)), i (.load false 1 (l 0))] [(2, l 1)])
  (.seq (.seq (.reg [i (.len (e 2)), i (.bin .gtr (l 0) (v (.int .i64 20)))] [(9, l 1)])
  (.cond (e 9) (.seq (.reg [] [(1, (v (.bool true)))])
  .ret) .skip))
  (.seq (.reg [i (.len (e 2))] [(10, e 2), (11, l 0), (12, (v (.int .i64 0)))])
  (.blk 2 (.loop [1, 3, 13, 14] l_blaw21_overRows_0))))))
  (.reg [i (.bin .add (e 7) (v (.int .i64 1)))] [(7, l 0)]))))
def b_blaw21_overRows : ACode :=
  (.seq (.reg [] [(1, (v (.bool false)))])
  (.seq (.seq (.reg [i (.len (e 0)), i (.bin .gtr (l 0) (v (.int .i64 30)))] [(4, l 1)])
  (.cond (e 4) (.seq (.reg [] [(1, (v (.bool true)))])
  .ret) .skip))
  (.seq (.seq (.reg [i (.len (e 0))] [(5, e 0), (6, l 0), (7, (v (.int .i64 0)))])
  (.blk 0 (.loop [1, 2, 3, 8, 9, 10, 11, 12, 13, 14] l_blaw21_overRows_1)))
  (.seq (.reg [] [(1, (v (.bool false)))])
  .ret))))
def f_blaw21_overRows : AFunc := ⟨15, 1, .pure, [.env 1], b_blaw21_overRows⟩
def l_bref21_Same_0 : ACode :=
  (.seq (.seq (.reg [i (.idxs 1 (e 0) (e 3)), i (.load false 1 (l 0)), i (.len (l 1)), i (.bin .lss (e 4) (l 2))] [(8, l 3)])
  (.cond (e 8) .skip (.exit 2)))
  (.seq (.blk 3 (.seq (.reg [i (.idxs 1 (e 0) (e 3)), i (.load false 1 (l 0)), i (.idxs 4 (l 1) (e 4)), i (.load true 4 (l 2)), i (.idxs 1 (e 1) (e 3)), i (.load false 1 (l 4)), i (.idxs 4 (l 5) (e 4)), i (.load true 4 (l 6)), i (.eqa true [0, 0, 0, 2] (l 3) (l 7))] [(9, l 8)])
  (.cond (e 9) (.seq (.reg [] [(2, (v (.bool false)))])
  .ret) .skip)))
  (.reg [i (.bin .add (e 4) (v (.int .i64 1)))] [(4, l 0)])))
def l_bref21_Same_1 : ACode :=
  (.seq (.seq (.reg [i (.len (e 0)), i (.bin .lss (e 3) (l 0))] [(6, l 1)])
  (.cond (e 6) .skip (.exit 0)))
  (.seq (.blk 1 (.seq (.seq (.reg [i (.idxs 1 (e 0) (e 3)), i (.load false 1 (l 0)), i (.len (l 1)), i (.idxs 1 (e 1) (e 3)), i (.load false 1 (l 3)), i (.len (l 4)), i (.bin .neq (l 2) (l 5))] [(7, l 6)])
  (.cond (e 7) (.seq (.reg [] [(2, (v (.bool false)))])
  .ret) .skip))
  (.seq (.reg [] [(4, (v (.int .i64 0)))])
  (.blk 2 (.loop [2, 8, 9] l_bref21_Same_0)))))
  (.reg [i (.bin .add (e 3) (v (.int .i64 1)))] [(3, l 0)])))
def b_bref21_Same : ACode :=
  (.seq (.reg [] [(2, (v (.bool false)))])
  (.seq (.seq (.reg [i (.len (e 0)), i (.len (e 1)), i (.bin .neq (l 0) (l 1))] [(5, l 2)])
  (.cond (e 5) (.seq (.reg [] [(2, (v (.bool false)))])
  .ret) .skip))
  (.seq (.seq (.reg [] [(3, (v (.int .i64 0)))])
  (.blk 0 (.loop [2, 4, 6, 7, 8, 9] l_bref21_Same_1)))
  (.seq (.reg [] [(2, (v (.bool true)))])
  .ret))))
def f_bref21_Same : AFunc := ⟨10, 2, .pure, [.env 2], b_bref21_Same⟩
def b_mean_May : ACode :=
  (.seq (.reg [i (.box 3 (e 0))] [(3, l 0), (4, (v (.bool false)))])
  (.seq (.seq (.reg [] [(5, e 2)])
  (.blk 0 (.seq (.reg [i (.bin .eql (e 5) (v (.int .i64 0)))] [(6, l 0)])
  (.cond (e 6) (.seq (.reg [i (.fld 1 (e 3)), i (.load false 1 (l 0)), i (.una .not (l 1)), g (l 2) true (.fld 2 (e 3)), g (l 2) true (.load false 1 (l 3)), g (l 2) true (.una .not (l 4)), i (.pick (l 2) (l 5) (v (.bool false))), g (l 6) true (.mov (e 1)), g (l 6) true (.fld 0 (e 3)), g (l 6) true (.load false 1 (l 8)), g (l 6) true (.call 235 [(l 7), (l 9)] false), i (.pick (l 6) (l 10) (v (.bool false)))] [(4, l 11)])
  .ret) (.seq (.reg [i (.bin .eql (e 5) (v (.int .i64 140)))] [(7, l 0)])
  (.cond (e 7) (.seq (.reg [i (.fld 1 (e 3)), i (.load false 1 (l 0)), g (l 1) true (.mov (e 1)), g (l 1) true (.len (l 2)), g (l 1) true (.bin .eql (l 3) (v (.int .i64 0))), i (.pick (l 1) (l 4) (v (.bool false)))] [(4, l 5)])
  .ret) (.seq (.reg [i (.bin .eql (e 5) (v (.int .i64 300)))] [(8, l 0)])
  (.cond (e 8) (.seq (.reg [i (.fld 2 (e 3)), i (.load false 1 (l 0)), g (l 1) true (.mov (e 1)), g (l 1) true (.len (l 2)), g (l 1) true (.bin .eql (l 3) (v (.int .i64 0))), i (.pick (l 1) (l 4) (v (.bool false)))] [(4, l 5)])
  .ret) .skip))))))))
  (.seq (.reg [] [(4, (v (.bool false)))])
  .ret)))
def f_mean_May : AFunc := ⟨9, 3, .pure, [.env 4], b_mean_May⟩
def b_bref21_May : ACode :=
  (.seq (.reg [i (.box 3 (e 0))] [(3, l 0), (4, (v (.bool false)))])
  (.seq (.seq (.reg [i (.bin .eql (e 2) (v (.int .i64 140)))] [(5, l 0)])
  (.cond (e 5) (.seq (.reg [i (.fld 1 (e 3)), i (.load false 1 (l 0)), g (l 1) true (.mov (e 1)), g (l 1) true (.len (l 2)), g (l 1) true (.bin .eql (l 3) (v (.int .i64 0))), i (.pick (l 1) (l 4) (v (.bool false)))] [(4, l 5)])
  .ret) .skip))
  (.seq (.seq (.reg [i (.bin .eql (e 2) (v (.int .i64 300)))] [(6, l 0)])
  (.cond (e 6) (.seq (.reg [i (.fld 2 (e 3)), i (.load false 1 (l 0)), g (l 1) true (.mov (e 1)), g (l 1) true (.len (l 2)), g (l 1) true (.bin .eql (l 3) (v (.int .i64 0))), i (.pick (l 1) (l 4) (v (.bool false)))] [(4, l 5)])
  .ret) .skip))
  (.seq (.reg [i (.bin .eql (e 2) (v (.int .i64 0))), g (l 0) true (.fld 1 (e 3)), g (l 0) true (.load false 1 (l 1)), g (l 0) true (.una .not (l 2)), i (.pick (l 0) (l 3) (v (.bool false))), g (l 4) true (.fld 2 (e 3)), g (l 4) true (.load false 1 (l 5)), g (l 4) true (.una .not (l 6)), i (.pick (l 4) (l 7) (v (.bool false))), g (l 8) true (.mov (e 1)), g (l 8) true (.fld 0 (e 3)), g (l 8) true (.load false 1 (l 10)), g (l 8) true (.call 232 [(l 9), (l 11)] false), i (.pick (l 8) (l 12) (v (.bool false)))] [(4, l 13)])
  .ret))))
def f_bref21_May : AFunc := ⟨7, 3, .pure, [.env 4], b_bref21_May⟩
def b_mean_Same : ACode :=
  (.seq (.reg [i (.box 3 (e 0)), i (.box 3 (e 1))] [(2, l 0), (3, l 1), (4, (v (.bool false)))])
  (.seq (.reg [i (.fld 1 (e 2)), i (.load false 1 (l 0)), i (.fld 1 (e 3)), i (.load false 1 (l 2)), i (.eqb false (l 1) (l 3)), g (l 4) true (.fld 2 (e 2)), g (l 4) true (.load false 1 (l 5)), g (l 4) true (.fld 2 (e 3)), g (l 4) true (.load false 1 (l 7)), g (l 4) true (.eqb false (l 6) (l 8)), i (.pick (l 4) (l 9) (v (.bool false))), g (l 10) true (.fld 0 (e 2)), g (l 10) true (.load false 1 (l 11)), g (l 10) true (.fld 0 (e 3)), g (l 10) true (.load false 1 (l 13)), g (l 10) true (.call 235 [(l 12), (l 14)] false), i (.pick (l 10) (l 15) (v (.bool false)))] [(4, l 16)])
  .ret))
def f_mean_Same : AFunc := ⟨5, 2, .pure, [.env 4], b_mean_Same⟩
def b_blaw21_one : ACode :=
  (.seq (.reg [i (.box 1 (v (.agg [.nil0]))), i (.box 1 (v (.agg [.nil0]))), i (.box 1 (v (.agg [.nil0])))] [(0, l 0), (1, l 1), (2, l 2)])
  (.seq (.reg [i (.build [.str [], .int .i64 0] [(0, 1, (v (.str [97]))), (1, 1, (v (.int .i64 2)))]), i (.mkl 2 [(l 0)]), i (.build [.str [], .nil0, .nil0] [(0, 1, (v (.str [116]))), (1, 1, (l 1))]), i (.mkl 3 [(l 2)]), i (.build [.nil0] [(0, 1, (l 3))]), i (.box 1 (v (.agg [.nil0]))), i (.store 1 (l 5) (l 4))] [(3, l 5)])
  (.seq (.reg [i (.call 161 [(v (.int .i64 1))] false), i (.call 161 [(v (.int .i64 3))] false), i (.mkl 1 [(l 0), (l 1)]), i (.mkl 1 [(l 2)]), i (.build [.nil0] [(0, 1, (l 3))]), i (.call 161 [(v (.int .i64 2))] false), i (.mkl 1 [(l 5)]), i (.mkl 1 [(l 6)]), i (.build [.nil0] [(0, 1, (l 7))]), i (.mkl 1 [(l 4), (l 8)]), i (.build [.nil0] [(0, 1, (l 9))]), i (.box 1 (v (.agg [.nil0]))), i (.store 1 (l 11) (l 10))] [(4, l 11)])
  (.seq (.reg [i (.mkl 1 [(v (.int .i64 2))]), i (.build [.int .i64 0, .int .i64 0, .int .i64 0, .int .i64 0, .nil0, .bool false, .nil0, .nil0, .nil0, .nil0, .nil0, .int .i64 0] [(0, 1, (v (.int .i64 1))), (1, 1, (v (.int .i64 (-1)))), (2, 1, (v (.int .i64 (-1)))), (4, 1, (l 0))]), i (.call 227 [(v (.int .i64 0))] false), i (.build [.int .i64 0, .nil0] [(0, 1, (v (.int .i64 3))), (1, 1, (l 2))]), i (.mkl 2 [(l 3)]), i (.build [.int .i64 0, .int .i64 0, .int .i64 0, .int .i64 0, .nil0, .bool false, .nil0, .nil0, .nil0, .nil0, .nil0, .int .i64 0] [(0, 1, (v (.int .i64 4))), (2, 1, (v (.int .i64 (-1)))), (8, 1, (l 4))]), i (.mkl 12 [(l 1), (l 5)]), i (.build [.nil0] [(0, 1, (l 6))]), i (.box 1 (v (.agg [.nil0]))), i (.store 1 (l 8) (l 7))] [(5, l 8)])
  (.seq (.regd [i (.load true 1 (e 3)), i (.load true 1 (e 4)), i (.load true 1 (e 5)), i (.store 1 (e 0) (l 0)), i (.store 1 (e 1) (l 1)), i (.store 1 (e 2) (l 2))] [] [(1, 4), (2, 4), (2, 5)])
  .ret)))))
def f_blaw21_one : AFunc := ⟨6, 0, .pure, [.cell true 1 0, .cell true 1 1, .cell true 1 2], b_blaw21_one⟩
def l_plan_Plan_0 : ACode :=
  (.seq (.reg [i (.bin .lss (e 18) (e 17))] [(19, l 0)])
  (.seq (.cond (e 19) .skip (.exit 0))
  (.seq (.blk 1 (.seq (.reg [] [(9, e 18)])
  (.seq (.reg [i (.load true 1 (e 2)), i (.call 183 [(l 0), (e 9)] false), i (.ext 0 (l 1)), i (.ext 1 (l 1)), i (.box 1 (v (.agg [.nil0]))), i (.store 1 (l 4) (l 2))] [(10, l 4)])
  (.seq (.reg [i (.load true 1 (e 10)), i (.call 184 [(l 0)] false), i (.ext 0 (l 1)), i (.ext 1 (l 1))] [(11, l 2)])
  (.reg [i (.nilck (e 8)), i (.fld 3 (l 0)), i (.load false 1 (l 1)), i (.mkl 1 [(e 11)]), i (.app 1 (l 2) (l 3)), i (.nilck (e 8)), i (.fld 3 (l 5)), i (.store 1 (l 6) (l 4))] [])))))
  (.reg [i (.bin .add (e 18) (v (.int .i64 1)))] [(18, l 0)]))))
def b_plan_Plan : ACode :=
  (.seq (.reg [i (.box 1 (e 0)), i (.box 1 (e 1)), i (.box 1 (v (.agg [.nil0])))] [(2, l 0), (3, l 1), (4, l 2), (5, (v (.int .i64 0)))])
  (.seq (.seq (.reg [i (.load true 1 (e 2)), i (.call 218 [(l 0)] false), i (.ext 0 (l 1)), i (.ext 1 (l 1))] [(6, l 3)])
  (.seq (.reg [i (.bin .neq (e 6) (v (.int .i64 0)))] [(14, l 0)])
  (.cond (e 14) (.seq (.reg [i (.build [.nil0] []), i (.store 1 (e 4) (l 0))] [(5, e 6)])
  .ret) .skip)))
  (.seq (.seq (.reg [i (.load true 1 (e 3)), i (.call 103 [(l 0)] false)] [(7, l 1)])
  (.seq (.reg [i (.bin .neq (e 7) (v (.int .i64 0)))] [(15, l 0)])
  (.cond (e 15) (.seq (.reg [i (.build [.nil0] []), i (.store 1 (e 4) (l 0))] [(5, e 7)])
  .ret) .skip)))
  (.seq (.seq (.reg [i (.load true 1 (e 2)), i (.load true 1 (e 3)), i (.call 220 [(l 0), (l 1)] false), i (.una .not (l 2))] [(16, l 3)])
  (.cond (e 16) (.seq (.reg [i (.build [.nil0] []), i (.store 1 (e 4) (l 0))] [(5, (v (.int .i64 2)))])
  .ret) .skip))
  (.seq (.reg [i (.load true 1 (e 2)), i (.load true 1 (e 3)), i (.build [.nil0, .nil0, .nil0, .nil0] [(1, 1, (l 0)), (2, 1, (l 1))]), i (.box 4 (l 2))] [(8, l 3)])
  (.seq (.seq (.lift 8 0 4 (.lift 8 3 1 (.reg [i (.fld 0 (e 2)), i (.load false 1 (l 0)), i (.len (l 1))] [(17, l 2), (18, (v (.int .i64 0)))])))
  (.blk 0 (.loop [9, 10, 11, 19] l_plan_Plan_0)))
  (.seq (.reg [i (.fld 0 (e 2)), i (.load false 1 (l 0)), i (.len (l 1)), i (.bin .sub (l 2) (v (.int .i64 1))), i (.call 185 [(e 8), (l 3)] false), i (.call 223 [(e 8), (l 4)] false), i (.box 4 (v (.agg [.nil0, .nil0, .int .i64 0, .nil0]))), i (.store 4 (l 6) (l 5))] [(12, l 6)])
  (.seq (.reg [i (.nilck (e 8)), i (.fld 0 (l 0)), i (.fld 0 (l 1)), i (.load false 1 (l 2)), i (.fld 0 (e 12)), i (.load false 1 (l 4)), i (.build [.nil0, .int .i64 0, .int .i64 0, .nil0] [(0, 1, (l 5)), (1, 1, (v (.int .i64 2))), (2, 1, (v (.int .i64 4)))]), i (.mkl 4 [(l 6)]), i (.app 4 (l 3) (l 7)), i (.nilck (e 8)), i (.fld 0 (l 9)), i (.fld 0 (l 10)), i (.store 1 (l 11) (l 8))] [])
  (.seq (.reg [i (.mov (v (.fn 188 [] [])))] [(13, l 0)])
  (.seq (.seq (.reg [i (.nilck (e 8)), i (.fld 0 (l 0)), i (.fld 0 (l 1)), i (.load false 1 (l 2)), i (.len (l 3)), i (.bin .gtr (l 4) (v (.int .i64 30))), g (l 5) false (.mov (e 8)), g (l 5) false (.nilck (l 6)), g (l 5) false (.fld 0 (l 7)), g (l 5) false (.fld 0 (l 8)), g (l 5) false (.load false 1 (l 9)), g (l 5) false (.mov (e 13)), g (l 5) false (.call 226 [(l 10), (l 11)] false), i (.pick (l 5) (v (.bool true)) (l 12))] [(20, l 13)])
  (.cond (e 20) (.seq (.reg [i (.build [.nil0] []), i (.store 1 (e 4) (l 0))] [(5, (v (.int .i64 3)))])
  .ret) .skip))
  (.seq (.reg [i (.nilck (e 8)), i (.fld 0 (l 0)), i (.load true 1 (l 1)), i (.store 1 (e 4) (l 2))] [(5, (v (.int .i64 0)))])
  .ret)))))))))))
def f_plan_Plan : AFunc := ⟨21, 2, .pure, [.cell true 1 4, .env 5], b_plan_Plan⟩
def l_mean_Mean_0 : ACode :=
  (.seq (.cond (e 14) .skip (.exit 0))
  (.blk 1 (.seq (.reg [i (.entry (e 13)), i (.ext 1 (l 0)), i (.box 4 (v (.agg [.bool false, .nil0, .int .i64 0, .nil0]))), i (.store 4 (l 2) (l 1))] [(11, l 2)])
  (.seq (.reg [i (.fld 1 (e 10)), i (.load false 1 (l 0)), g (l 1) false (.fld 2 (e 11)), g (l 1) false (.load false 1 (l 2)), g (l 1) false (.bin .eql (l 3) (v (.int .i64 140))), i (.pick (l 1) (v (.bool true)) (l 4)), i (.fld 1 (e 10)), i (.store 1 (l 6) (l 5))] [])
  (.reg [i (.fld 2 (e 10)), i (.load false 1 (l 0)), g (l 1) false (.fld 2 (e 11)), g (l 1) false (.load false 1 (l 2)), g (l 1) false (.bin .eql (l 3) (v (.int .i64 300))), i (.pick (l 1) (v (.bool true)) (l 4)), i (.fld 2 (e 10)), i (.store 1 (l 6) (l 5))] [])))))
def b_mean_Mean : ACode :=
  (.seq (.reg [i (.box 1 (e 0)), i (.box 1 (e 1)), i (.box 1 (e 2)), i (.box 3 (v (.agg [.nil0, .bool false, .bool false])))] [(3, l 0), (4, l 1), (5, l 2), (6, l 3), (7, (v (.int .i64 0)))])
  (.seq (.reg [i (.load true 1 (e 3)), i (.load true 1 (e 4)), i (.load true 1 (e 5)), i (.call 217 [(l 0), (l 1), (l 2)] false), i (.ext 0 (l 3)), i (.ext 1 (l 3))] [(8, l 4), (9, l 5)])
  (.seq (.seq (.reg [i (.bin .neq (e 9) (v (.int .i64 0)))] [(12, l 0)])
  (.cond (e 12) (.seq (.reg [i (.build [.nil0, .bool false, .bool false] []), i (.store 3 (e 6) (l 0))] [(7, e 9)])
  .ret) .skip))
  (.seq (.reg [i (.box 3 (v (.agg [.nil0, .bool false, .bool false])))] [(10, l 0)])
  (.seq (.seq (.reg [i (.nilck (e 8)), i (.fld 2 (l 0)), i (.load false 1 (l 1)), i (.rngm (l 2))] [(13, l 3)])
  (.blk 0 (.mloop [11, 14] 13 14 l_mean_Mean_0)))
  (.seq (.seq (.reg [i (.fld 1 (e 10)), i (.load false 1 (l 0)), i (.una .not (l 1)), g (l 2) true (.fld 2 (e 10)), g (l 2) true (.load false 1 (l 3)), g (l 2) true (.una .not (l 4)), i (.pick (l 2) (l 5) (v (.bool false)))] [(15, l 6)])
  (.cond (e 15) (.reg [i (.nilck (e 8)), i (.fld 2 (l 0)), i (.load false 1 (l 1)), i (.fld 0 (e 3)), i (.load false 1 (l 3)), i (.len (l 4)), i (.bin .sub (l 5) (v (.int .i64 1))), i (.build [.int .i64 0, .int .i64 0] [(0, 1, (l 6)), (1, 1, (v (.int .i64 0)))]), i (.lookk [0, 0] (.agg [.bool false, .nil0, .int .i64 0, .nil0]) false (l 2) (l 7)), i (.fldv false 1 1 (l 8)), i (.fld 0 (e 10)), i (.store 1 (l 10) (l 9))] []) .skip))
  (.seq (.reg [i (.load true 3 (e 10)), i (.store 3 (e 6) (l 0))] [(7, (v (.int .i64 0)))])
  .ret)))))))
def f_mean_Mean : AFunc := ⟨16, 3, .pure, [.cell true 3 6, .env 7], b_mean_Mean⟩
def b_row_Same : ACode :=
  (.seq (.reg [] [(2, (v (.bool false)))])
  (.seq (.reg [i (.call 236 [(e 0), (e 1), (v (.fn 177 [] []))] false)] [(2, l 0)])
  .ret))
def f_row_Same : AFunc := ⟨3, 2, .pure, [.env 2], b_row_Same⟩
def b_blaw21_n : ACode :=
  (.seq (.reg [i (.mov (v (.nil0)))] [(1, l 0)])
  (.seq (.reg [i (.build [.int .i64 0, .int .i64 0, .int .u64 0, .str []] [(0, 1, (v (.int .i64 2))), (1, 1, (e 0))]), i (.mkl 4 [(l 0)])] [(1, l 1)])
  .ret))
def f_blaw21_n : AFunc := ⟨2, 1, .pure, [.env 1], b_blaw21_n⟩
def b_blaw21_col : ACode :=
  (.seq (.reg [i (.box 1 (v (.agg [.nil0])))] [(1, l 0)])
  (.seq (.reg [i (.build [.int .i64 0, .int .i64 0, .int .i64 0, .int .i64 0, .int .i64 0, .int .i64 0, .int .u64 0, .str []] [(0, 1, (v (.int .i64 2))), (1, 1, (v (.int .i64 (-1)))), (2, 1, (v (.int .i64 (-1)))), (3, 1, (e 0))]), i (.mkl 8 [(l 0)]), i (.build [.nil0] [(0, 1, (l 1))]), i (.store 1 (e 1) (l 2))] [])
  .ret))
def f_blaw21_col : AFunc := ⟨2, 1, .pure, [.cell true 1 1], b_blaw21_col⟩
def b_logic_Check : ACode :=
  (.seq (.reg [i (.box 1 (e 0))] [(1, l 0), (2, (v (.int .i64 0))), (3, (v (.int .i64 0)))])
  (.seq (.reg [i (.load true 1 (e 1)), i (.call 100 [(l 0)] false), i (.ext 0 (l 1)), i (.ext 1 (l 1)), i (.ext 2 (l 1))] [(4, l 3), (5, l 4)])
  (.seq (.seq (.reg [i (.una .not (e 5))] [(6, l 0)])
  (.cond (e 6) (.seq (.reg [] [(2, e 4), (3, (v (.int .i64 230)))])
  .ret) .skip))
  (.seq (.reg [] [(2, (v (.int .i64 0))), (3, (v (.int .i64 0)))])
  .ret))))
def f_logic_Check : AFunc := ⟨7, 1, .pure, [.env 2, .env 3], b_logic_Check⟩
def b_catalog_Check : ACode :=
  (.seq (.reg [i (.box 1 (e 0))] [(1, l 0), (2, (v (.int .i64 0)))])
  (.seq (.reg [i (.mov (v (.fn 97 [] [])))] [(3, l 0)])
  (.seq (.seq (.reg [i (.fld 0 (e 1)), i (.load false 1 (l 0)), i (.len (l 1)), i (.bin .gtr (l 2) (v (.int .i64 4))), g (l 3) false (.fld 0 (e 1)), g (l 3) false (.load false 1 (l 4)), g (l 3) false (.mov (e 3)), g (l 3) false (.call 99 [(l 5), (l 6)] false), i (.pick (l 3) (v (.bool true)) (l 7)), g (l 8) false (.fld 0 (e 1)), g (l 8) false (.load false 1 (l 9)), g (l 8) false (.call 98 [(l 10), (v (.fn 26 [] []))] false), g (l 8) false (.una .not (l 11)), i (.pick (l 8) (v (.bool true)) (l 12))] [(4, l 13)])
  (.cond (e 4) (.seq (.reg [] [(2, (v (.int .i64 210)))])
  .ret) .skip))
  (.seq (.reg [] [(2, (v (.int .i64 0)))])
  .ret))))
def f_catalog_Check : AFunc := ⟨5, 1, .pure, [.env 2], b_catalog_Check⟩
def l_plan_scans_0 : ACode :=
  (.seq (.reg [i (.bin .lss (e 16) (e 15))] [(17, l 0)])
  (.seq (.cond (e 17) .skip (.exit 2))
  (.seq (.blk 3 (.seq (.reg [i (.idxs 2 (e 14) (e 16)), i (.load true 2 (l 0)), i (.box 2 (v (.agg [.str [], .int .i64 0]))), i (.store 2 (l 2) (l 1))] [(7, l 2)])
  (.reg [i (.fld 1 (e 7)), i (.load false 1 (l 0)), i (.mkl 1 [(l 1)]), i (.app 1 (e 6) (l 2))] [(6, l 3)])))
  (.reg [i (.bin .add (e 16) (v (.int .i64 1)))] [(16, l 0)]))))
def l_plan_scans_1 : ACode :=
  (.seq (.reg [i (.bin .lss (e 10) (e 9))] [(11, l 0)])
  (.seq (.cond (e 11) .skip (.exit 0))
  (.seq (.blk 1 (.seq (.reg [i (.idxs 12 (e 8) (e 10)), i (.load true 12 (l 0)), i (.box 12 (v (.agg [.int .i64 0, .int .i64 0, .int .i64 0, .int .i64 0, .nil0, .bool false, .nil0, .nil0, .nil0, .nil0, .nil0, .int .i64 0]))), i (.store 12 (l 2) (l 1))] [(5, l 2)])
  (.seq (.seq (.reg [i (.fld 0 (e 5)), i (.load false 1 (l 0)), i (.bin .neq (l 1) (v (.int .i64 1)))] [(12, l 2)])
  (.cond (e 12) (.exit 1) .skip))
  (.seq (.seq (.reg [i (.fld 3 (e 5)), i (.load false 1 (l 0)), i (.fld 0 (e 3)), i (.load false 1 (l 2)), i (.len (l 3)), i (.bin .geq (l 1) (l 4))] [(13, l 5)])
  (.cond (e 13) (.seq (.reg [] [(4, (v (.bool false)))])
  .ret) .skip))
  (.seq (.reg [i (.mknil 1)] [(6, l 0)])
  (.seq (.seq (.reg [i (.fld 0 (e 3)), i (.load false 1 (l 0)), i (.fld 3 (e 5)), i (.load false 1 (l 2)), i (.idxs 3 (l 1) (l 3)), i (.fld 1 (l 4)), i (.load false 1 (l 5)), i (.len (l 6))] [(14, l 6), (15, l 7), (16, (v (.int .i64 0)))])
  (.blk 2 (.loop [7, 17] l_plan_scans_0)))
  (.seq (.reg [i (.fld 4 (e 5)), i (.load false 1 (l 0)), i (.call 173 [(e 6), (l 1)] false), i (.una .not (l 2))] [(18, l 3)])
  (.cond (e 18) (.seq (.reg [] [(4, (v (.bool false)))])
  .ret) .skip))))))))
  (.reg [i (.bin .add (e 10) (v (.int .i64 1)))] [(10, l 0)]))))
def b_plan_scans : ACode :=
  (.seq (.reg [i (.box 1 (e 0)), i (.box 1 (e 1))] [(2, l 0), (3, l 1), (4, (v (.bool false)))])
  (.seq (.seq (.reg [i (.fld 0 (e 2)), i (.load false 1 (l 0)), i (.len (l 1))] [(8, l 1), (9, l 2), (10, (v (.int .i64 0)))])
  (.blk 0 (.loop [4, 5, 6, 7, 11, 12, 13, 14, 15, 16, 17, 18] l_plan_scans_1)))
  (.seq (.reg [] [(4, (v (.bool true)))])
  .ret)))
def f_plan_scans : AFunc := ⟨19, 2, .pure, [.env 4], b_plan_scans⟩
def l_logic_Part_0 : ACode :=
  (.seq (.seq (.reg [i (.bin .leq (e 8) (e 1))] [(11, l 0)])
  (.cond (e 11) .skip (.exit 1)))
  (.seq (.blk 2 (.reg [i (.fld 0 (e 7)), i (.load false 1 (l 0)), i (.fld 0 (e 2)), i (.load false 1 (l 2)), i (.idxs 12 (l 3) (e 8)), i (.load true 12 (l 4)), i (.nilck (e 5)), i (.fld 2 (l 6)), i (.load false 1 (l 7)), i (.idxs 1 (l 8) (e 1)), i (.load false 1 (l 9)), i (.una .neg (l 10)), i (.call 138 [(l 5), (l 11)] false), i (.mkl 12 [(l 12)]), i (.app 12 (l 1) (l 13)), i (.fld 0 (e 7)), i (.store 1 (l 15) (l 14))] []))
  (.reg [i (.bin .add (e 8) (v (.int .i64 1)))] [(8, l 0)])))
def b_logic_Part : ACode :=
  (.seq (.reg [i (.box 1 (e 0)), i (.box 1 (v (.agg [.nil0])))] [(2, l 0), (3, l 1), (4, (v (.int .i64 0)))])
  (.seq (.reg [i (.load true 1 (e 2)), i (.call 100 [(l 0)] false), i (.ext 0 (l 1)), i (.ext 1 (l 1)), i (.ext 2 (l 1))] [(5, l 2), (6, l 4)])
  (.seq (.blk 0 (.seq (.reg [i (.una .not (e 6))] [(9, l 0)])
  (.cond (e 9) (.seq (.reg [i (.build [.nil0] []), i (.store 1 (e 3) (l 0))] [(4, (v (.int .i64 230)))])
  .ret) (.seq (.reg [i (.bin .lss (e 1) (v (.int .i64 0))), g (l 0) false (.mov (e 1)), g (l 0) false (.fld 0 (e 2)), g (l 0) false (.load false 1 (l 2)), g (l 0) false (.len (l 3)), g (l 0) false (.bin .geq (l 1) (l 4)), i (.pick (l 0) (v (.bool true)) (l 5))] [(10, l 6)])
  (.cond (e 10) (.seq (.reg [i (.build [.nil0] []), i (.store 1 (e 3) (l 0))] [(4, (v (.int .i64 2)))])
  .ret) .skip)))))
  (.seq (.reg [i (.box 1 (v (.agg [.nil0])))] [(7, l 0)])
  (.seq (.seq (.lift 7 0 12 (.reg [i (.nilck (e 5)), i (.fld 2 (l 0)), i (.load false 1 (l 1)), i (.idxs 1 (l 2) (e 1)), i (.load false 1 (l 3))] [(8, l 4)]))
  (.blk 1 (.loop [11] l_logic_Part_0)))
  (.seq (.reg [i (.load true 1 (e 7)), i (.store 1 (e 3) (l 0))] [(4, (v (.int .i64 0)))])
  .ret))))))
def f_logic_Part : AFunc := ⟨12, 2, .pure, [.cell true 1 3, .env 4], b_logic_Part⟩
def b_logic_Kinds : ACode :=
  (.seq (.reg [i (.box 1 (e 0)), i (.mov (v (.nil0)))] [(1, l 0), (2, l 1), (3, (v (.int .i64 0)))])
  (.seq (.reg [i (.load true 1 (e 1)), i (.call 100 [(l 0)] false), i (.ext 0 (l 1)), i (.ext 1 (l 1)), i (.ext 2 (l 1))] [(4, l 2), (5, l 3), (6, l 4)])
  (.seq (.seq (.reg [i (.una .not (e 6))] [(7, l 0)])
  (.cond (e 7) (.seq (.reg [i (.mov (v (.nil0)))] [(2, l 0), (3, (v (.int .i64 230)))])
  .ret) .skip))
  (.seq (.reg [i (.nilck (e 4)), i (.fld 1 (l 0)), i (.load false 1 (l 1)), i (.idxs 1 (l 2) (e 5)), i (.load false 1 (l 3)), i (.call 3 [(l 4)] true)] [(2, l 5), (3, (v (.int .i64 0)))])
  .ret))))
def f_logic_Kinds : AFunc := ⟨8, 1, .pure, [.env 2, .env 3], b_logic_Kinds⟩
def b_plan_planner_one : ACode :=
  (.seq (.reg [i (.box 4 (e 1)), i (.box 4 (v (.agg [.nil0, .nil0, .int .i64 0, .nil0])))] [(2, l 0), (3, l 1)])
  (.seq (.seq (.reg [i (.fld 2 (e 2)), i (.load false 1 (l 0)), i (.bin .eql (l 1) (v (.int .i64 2)))] [(4, l 2)])
  (.cond (e 4) (.seq (.reg [i (.load true 4 (e 2)), i (.store 4 (e 3) (l 0))] [])
  .ret) .skip))
  (.seq (.reg [i (.load true 4 (e 2)), i (.call 212 [(e 0), (l 0), (v (.int .i64 3)), (v (.nil0))] false), i (.store 4 (e 3) (l 1))] [])
  .ret)))
def f_plan_planner_one : AFunc := ⟨5, 2, .keep, [.cell true 4 3], b_plan_planner_one⟩
def l_plan_planner_side_0 : ACode :=
  (.seq (.reg [i (.bin .lss (e 8) (v (.int .i64 2)))] [(9, l 0)])
  (.seq (.cond (e 9) .skip (.exit 0))
  (.seq (.blk 1 (.seq (.reg [i (.idxv false 2 1 (e 7) (e 8))] [(6, l 0)])
  (.seq (.reg [i (.bin .geq (e 6) (v (.int .i64 0)))] [(10, l 0)])
  (.cond (e 10) (.reg [i (.call 185 [(e 0), (e 6)] false), i (.mkl 4 [(l 0)]), i (.app 4 (e 5) (l 1))] [(5, l 2)]) .skip))))
  (.reg [i (.bin .add (e 8) (v (.int .i64 1)))] [(8, l 0)]))))
def b_plan_planner_side : ACode :=
  (.seq (.reg [i (.box 4 (v (.agg [.nil0, .nil0, .int .i64 0, .nil0])))] [(2, l 0)])
  (.seq (.reg [i (.mkmap), i (.mkfn 211 [(e 0)] []), i (.mput (l 0) (v (.int .i64 1)) (l 1)), i (.mkfn 238 [(e 0)] []), i (.mput (l 0) (v (.int .i64 3)) (l 3)), i (.mkfn 239 [(e 0)] []), i (.mput (l 0) (v (.int .i64 5)) (l 5)), i (.mkfn 240 [(e 0)] []), i (.mput (l 0) (v (.int .i64 2)) (l 7)), i (.mkfn 210 [(e 0)] []), i (.mput (l 0) (v (.int .i64 4)) (l 9)), i (.mkfn 241 [(e 0)] []), i (.mput (l 0) (v (.int .i64 6)) (l 11)), i (.mkfn 242 [(e 0)] []), i (.mput (l 0) (v (.int .i64 7)) (l 13)), i (.mkfn 243 [(e 0)] []), i (.mput (l 0) (v (.int .i64 8)) (l 15))] [(3, l 0)])
  (.seq (.reg [i (.nilck (e 0)), i (.fld 1 (l 0)), i (.fld 0 (l 1)), i (.load false 1 (l 2)), i (.idxs 12 (l 3) (e 1)), i (.load true 12 (l 4)), i (.box 12 (v (.agg [.int .i64 0, .int .i64 0, .int .i64 0, .int .i64 0, .nil0, .bool false, .nil0, .nil0, .nil0, .nil0, .nil0, .int .i64 0]))), i (.store 12 (l 6) (l 5))] [(4, l 6)])
  (.seq (.reg [i (.mknil 4)] [(5, l 0)])
  (.seq (.seq (.reg [i (.fld 1 (e 4)), i (.load false 1 (l 0)), i (.fld 2 (e 4)), i (.load false 1 (l 2)), i (.build [.int .i64 0, .int .i64 0] [(0, 1, (l 1)), (1, 1, (l 3))])] [(7, l 4), (8, (v (.int .i64 0)))])
  (.blk 0 (.loop [6, 9, 10] l_plan_planner_side_0)))
  (.seq (.reg [i (.fld 0 (e 4)), i (.load false 1 (l 0)), i (.look (.nilf) false (e 3) (l 1)), i (.load true 12 (e 4)), i (.nilck (e 0)), i (.fld 3 (l 4)), i (.load false 1 (l 5)), i (.idxs 1 (l 6) (e 1)), i (.load false 1 (l 7)), i (.callv (l 2) [(l 3), (l 8), (e 5)]), i (.store 4 (e 2) (l 9))] [])
  .ret))))))
def f_plan_planner_side : AFunc := ⟨11, 2, .keep, [.cell true 4 2], b_plan_planner_side⟩
def b_plan_Plan_1 : ACode :=
  (.seq (.reg [i (.box 4 (e 0))] [(1, l 0), (2, (v (.bool false)))])
  (.seq (.reg [i (.fld 0 (e 1)), i (.load false 1 (l 0)), i (.len (l 1)), i (.bin .gtr (l 2) (v (.int .i64 60)))] [(2, l 3)])
  .ret))
def f_plan_Plan_1 : AFunc := ⟨3, 1, .pure, [.env 2], b_plan_Plan_1⟩
def b_slices_ContainsFunc_api_Frag_api_Frag : ACode :=
  (.seq (.reg [] [(2, (v (.bool false)))])
  (.seq (.reg [i (.call 209 [(e 0), (e 1)] false), i (.bin .geq (l 0) (v (.int .i64 0)))] [(2, l 1)])
  .ret))
def f_slices_ContainsFunc_api_Frag_api_Frag : AFunc := ⟨3, 2, .pure, [.env 2], b_slices_ContainsFunc_api_Frag_api_Frag⟩
def q_mean_through_0 : ACode :=
  (.blk 1 (.reg [i (.load false 1 (e 10)), i (.nilck (l 0)), i (.fld 2 (l 1)), i (.load false 1 (l 2)), i (.load true 2 (e 11)), i (.load false 1 (e 10)), i (.load true 2 (e 11)), i (.call 130 [(l 5), (l 6)] false), i (.mputk [0, 0] (l 3) (l 4) (l 7))] []))
def q_mean_through_0p : ACode :=
  (.reg [i (.box 2 (v (.agg [.int .i64 0, .int .i64 0]))), i (.store 2 (l 0) (e 15))] [(11, l 0)])
def b_mean_through : ACode :=
  (.seq (.reg [i (.box 1 (e 0)), i (.box 1 (e 1)), i (.box 1 (e 2))] [(3, l 0), (4, l 1), (5, l 2), (6, (v (.nilp))), (7, (v (.int .i64 0)))])
  (.seq (.seq (.reg [i (.load true 1 (e 3)), i (.load true 1 (e 4)), i (.call 206 [(l 0), (l 1)] false), i (.ext 0 (l 2)), i (.ext 1 (l 2)), i (.ext 2 (l 2))] [(8, l 5)])
  (.seq (.reg [i (.bin .neq (e 8) (v (.int .i64 0)))] [(12, l 0)])
  (.cond (e 12) (.seq (.reg [] [(6, (v (.nilp))), (7, e 8)])
  .ret) .skip)))
  (.seq (.seq (.reg [i (.load true 1 (e 4)), i (.load true 1 (e 5)), i (.call 207 [(l 0), (l 1)] false)] [(9, l 2)])
  (.seq (.reg [i (.bin .neq (e 9) (v (.int .i64 0)))] [(13, l 0)])
  (.cond (e 13) (.seq (.reg [] [(6, (v (.nilp))), (7, e 9)])
  .ret) .skip)))
  (.seq (.reg [i (.load true 1 (e 3)), i (.load true 1 (e 5)), i (.mkmap), i (.build [.nil0, .nil0, .nilm] [(0, 1, (l 0)), (1, 1, (l 1)), (2, 1, (l 2))]), i (.box 3 (l 3)), i (.box 1 (v (.nilp))), i (.store 1 (l 5) (l 4))] [(10, l 5)])
  (.seq (.seq (.reg [i (.load false 1 (e 10)), i (.call 208 [(l 0)] false)] [(14, l 1)])
  (.blk 0 (.rng 16 (e 14) 129)))
  (.seq (.reg [i (.load false 1 (e 10))] [(6, l 0), (7, (v (.int .i64 0)))])
  .ret))))))
def f_mean_through : AFunc := ⟨16, 3, .pure, [.env 6, .env 7], b_mean_through⟩
def r_mean_through_0 : ARound := ⟨16, [15], q_mean_through_0p, q_mean_through_0⟩
def l_slices_EqualFunc_api_Row_api_Row_api_Row_api_Row_0 : ACode :=
  (.seq (.reg [i (.bin .lss (e 10) (e 9))] [(11, l 0)])
  (.seq (.cond (e 11) .skip (.exit 0))
  (.seq (.blk 1 (.seq (.reg [i (.idxs 1 (e 8) (e 10)), i (.load false 1 (l 0))] [(4, e 10), (5, l 1)])
  (.seq (.reg [i (.idxs 1 (e 1) (e 4)), i (.load false 1 (l 0))] [(6, l 1)])
  (.seq (.reg [i (.callv (e 2) [(e 5), (e 6)]), i (.una .not (l 0))] [(12, l 1)])
  (.cond (e 12) (.seq (.reg [] [(3, (v (.bool false)))])
  .ret) .skip)))))
  (.reg [i (.bin .add (e 10) (v (.int .i64 1)))] [(10, l 0)]))))
def b_slices_EqualFunc_api_Row_api_Row_api_Row_api_Row : ACode :=
  (.seq (.reg [] [(3, (v (.bool false)))])
  (.seq (.seq (.reg [i (.len (e 0)), i (.len (e 1)), i (.bin .neq (l 0) (l 1))] [(7, l 2)])
  (.cond (e 7) (.seq (.reg [] [(3, (v (.bool false)))])
  .ret) .skip))
  (.seq (.seq (.reg [i (.len (e 0))] [(8, e 0), (9, l 0), (10, (v (.int .i64 0)))])
  (.blk 0 (.loop [3, 4, 5, 6, 11, 12] l_slices_EqualFunc_api_Row_api_Row_api_Row_api_Row_0)))
  (.seq (.reg [] [(3, (v (.bool true)))])
  .ret))))
def f_slices_EqualFunc_api_Row_api_Row_api_Row_api_Row : AFunc := ⟨13, 3, .pure, [.env 3], b_slices_EqualFunc_api_Row_api_Row_api_Row_api_Row⟩
def b_row_equal : ACode :=
  (.seq (.reg [] [(2, (v (.bool false)))])
  (.seq (.reg [i (.call 170 [(e 0), (e 1)] false)] [(2, l 0)])
  .ret))
def f_row_equal : AFunc := ⟨3, 2, .pure, [.env 2], b_row_equal⟩
def q_logic_look_0 : ACode :=
  (.blk 1 (.seq (.reg [i (.una .not (e 8))] [(13, l 0)])
  (.cond (e 13) (.seq (.reg [i (.load false 1 (e 5)), i (.store 1 (e 2) (l 0)), i (.store 1 (e 3) (e 7)), i (.store 1 (e 4) (v (.bool false)))] [])
  .ret) .skip)))
def q_logic_look_0p : ACode :=
  (.seq (.reg [] [(7, e 11)])
  (.reg [] [(8, e 12)]))
def b_logic_look : ACode :=
  (.seq (.reg [i (.box 1 (e 0)), i (.box 1 (v (.nilp))), i (.box 1 (v (.int .i64 0))), i (.box 1 (v (.bool false)))] [(1, l 0), (2, l 1), (3, l 2), (4, l 3)])
  (.seq (.reg [i (.load true 1 (e 1)), i (.build [.nil0, .nil0, .nil0] [(0, 1, (l 0))]), i (.box 3 (l 1)), i (.box 1 (v (.nilp))), i (.store 1 (l 3) (l 2))] [(5, l 3)])
  (.seq (.reg [i (.fld 0 (e 1)), i (.load false 1 (l 0)), i (.len (l 1))] [(6, l 2)])
  (.seq (.seq (.reg [i (.bin .lss (e 6) (v (.int .i64 1))), g (l 0) false (.mov (e 6)), g (l 0) false (.bin .gtr (l 1) (v (.int .i64 60))), i (.pick (l 0) (v (.bool true)) (l 2))] [(9, l 3)])
  (.cond (e 9) (.seq (.reg [i (.load false 1 (e 5)), i (.store 1 (e 2) (l 0)), i (.store 1 (e 3) (v (.int .i64 0))), i (.store 1 (e 4) (v (.bool false)))] [])
  .ret) .skip))
  (.seq (.seq (.reg [i (.load false 1 (e 5)), i (.call 91 [(l 0)] false)] [(10, l 1)])
  (.blk 0 (.rng 14 (e 10) 49)))
  (.seq (.regd [i (.load false 1 (e 5)), i (.bin .sub (e 6) (v (.int .i64 1))), i (.load false 1 (e 5)), i (.nilck (l 2)), i (.fld 2 (l 3)), i (.load false 1 (l 4)), i (.bin .sub (e 6) (v (.int .i64 1))), i (.idxs 1 (l 5) (l 6)), i (.load false 1 (l 7)), i (.bin .eql (l 8) (v (.int .i64 0))), i (.store 1 (e 2) (l 0)), i (.store 1 (e 3) (l 1)), i (.store 1 (e 4) (l 9))] [] [(2, 11), (2, 12), (3, 11), (3, 12), (4, 11), (4, 12), (5, 11), (5, 12), (7, 11), (7, 12), (8, 11), (8, 12)])
  .ret))))))
def f_logic_look : AFunc := ⟨14, 1, .keep, [.cell false 1 2, .cell false 1 3, .cell false 1 4], b_logic_look⟩
def r_logic_look_0 : ARound := ⟨14, [11, 12], q_logic_look_0p, q_logic_look_0⟩
def b_catalog_Check_1 : ACode :=
  (.seq (.reg [i (.box 3 (e 0))] [(1, l 0), (2, (v (.bool false)))])
  (.seq (.reg [i (.load true 3 (e 1)), i (.call 90 [(l 0)] false), i (.bin .neq (l 1) (v (.int .i64 0)))] [(2, l 2)])
  .ret))
def f_catalog_Check_1 : AFunc := ⟨3, 1, .pure, [.env 2], b_catalog_Check_1⟩
def l_catalog_CheckTable_0 : ACode :=
  (.seq (.reg [i (.bin .lss (e 13) (e 12))] [(14, l 0)])
  (.seq (.cond (e 14) .skip (.exit 2))
  (.seq (.blk 3 (.seq (.reg [i (.idxs 1 (e 11) (e 13)), i (.load false 1 (l 0))] [(5, e 13), (6, l 1)])
  (.reg [g (e 3) true (.mov (e 6)), g (e 3) true (.bin .geq (l 0) (v (.int .i64 0))), i (.pick (e 3) (l 1) (v (.bool false))), g (l 2) true (.mov (e 6)), g (l 2) true (.fld 1 (e 1)), g (l 2) true (.load false 1 (l 4)), g (l 2) true (.len (l 5)), g (l 2) true (.bin .lss (l 3) (l 6)), i (.pick (l 2) (l 7) (v (.bool false))), g (l 8) true (.mov (e 5)), g (l 8) true (.bin .eql (l 9) (v (.int .i64 0))), g (l 8) true (.mov (l 10)), g (l 11) false (.fld 2 (e 1)), g (l 11) false (.load false 1 (l 12)), g (l 11) false (.mov (e 5)), g (l 11) false (.bin .sub (l 14) (v (.int .i64 1))), g (l 11) false (.idxs 1 (l 13) (l 15)), g (l 11) false (.load false 1 (l 16)), g (l 11) false (.mov (e 6)), g (l 11) false (.bin .lss (l 17) (l 18)), g (l 8) true (.pick (l 11) (v (.bool true)) (l 19)), i (.pick (l 8) (l 20) (v (.bool false)))] [(3, l 21)])))
  (.reg [i (.bin .add (e 13) (v (.int .i64 1)))] [(13, l 0)]))))
def l_catalog_CheckTable_1 : ACode :=
  (.seq (.reg [i (.bin .lss (e 9) (e 8))] [(10, l 0)])
  (.seq (.cond (e 10) .skip (.exit 0))
  (.seq (.blk 1 (.seq (.reg [i (.idxs 2 (e 7) (e 9)), i (.load true 2 (l 0)), i (.box 2 (v (.agg [.str [], .int .i64 0]))), i (.store 2 (l 2) (l 1))] [(4, l 2)])
  (.reg [g (e 3) true (.fld 1 (e 4)), g (e 3) true (.load false 1 (l 0)), g (e 3) true (.call 89 [(l 1)] false), g (e 3) true (.bin .neq (l 2) (v (.str []))), i (.pick (e 3) (l 3) (v (.bool false)))] [(3, l 4)])))
  (.reg [i (.bin .add (e 9) (v (.int .i64 1)))] [(9, l 0)]))))
def b_catalog_CheckTable : ACode :=
  (.seq (.reg [i (.box 3 (e 0))] [(1, l 0), (2, (v (.int .i64 0)))])
  (.seq (.reg [i (.fld 0 (e 1)), i (.load false 1 (l 0)), i (.call 25 [(l 1)] false), g (l 2) true (.fld 1 (e 1)), g (l 2) true (.load false 1 (l 3)), g (l 2) true (.len (l 4)), g (l 2) true (.bin .geq (l 5) (v (.int .i64 1))), i (.pick (l 2) (l 6) (v (.bool false))), g (l 7) true (.fld 1 (e 1)), g (l 7) true (.load false 1 (l 8)), g (l 7) true (.len (l 9)), g (l 7) true (.bin .leq (l 10) (v (.int .i64 4))), i (.pick (l 7) (l 11) (v (.bool false))), g (l 12) true (.fld 1 (e 1)), g (l 12) true (.load false 1 (l 13)), g (l 12) true (.call 88 [(l 14), (v (.fn 24 [] []))] false), i (.pick (l 12) (l 15) (v (.bool false)))] [(3, l 16)])
  (.seq (.seq (.reg [i (.fld 1 (e 1)), i (.load false 1 (l 0)), i (.len (l 1))] [(7, l 1), (8, l 2), (9, (v (.int .i64 0)))])
  (.blk 0 (.loop [4, 10] l_catalog_CheckTable_1)))
  (.seq (.seq (.reg [i (.fld 2 (e 1)), i (.load false 1 (l 0)), i (.len (l 1))] [(11, l 1), (12, l 2), (13, (v (.int .i64 0)))])
  (.blk 2 (.loop [5, 6, 14] l_catalog_CheckTable_0)))
  (.seq (.seq (.reg [i (.una .not (e 3))] [(15, l 0)])
  (.cond (e 15) (.seq (.reg [] [(2, (v (.int .i64 211)))])
  .ret) .skip))
  (.seq (.reg [] [(2, (v (.int .i64 0)))])
  .ret))))))
def f_catalog_CheckTable : AFunc := ⟨16, 1, .pure, [.env 2], b_catalog_CheckTable⟩
def b_slices_ContainsFunc_api_Table_api_Table : ACode :=
  (.seq (.reg [] [(2, (v (.bool false)))])
  (.seq (.reg [i (.call 44 [(e 0), (e 1)] false), i (.bin .geq (l 0) (v (.int .i64 0)))] [(2, l 1)])
  .ret))
def f_slices_ContainsFunc_api_Table_api_Table : AFunc := ⟨3, 2, .pure, [.env 2], b_slices_ContainsFunc_api_Table_api_Table⟩
def l_catalog_once_api_Table_0 : ACode :=
  (.seq (.reg [i (.bin .lss (e 8) (e 7))] [(9, l 0)])
  (.seq (.cond (e 9) .skip (.exit 0))
  (.seq (.blk 1 (.seq (.reg [i (.idxs 3 (e 6) (e 8)), i (.load true 3 (l 0)), i (.box 3 (v (.agg [.str [], .nil0, .nil0]))), i (.store 3 (l 2) (l 1))] [(4, l 2), (3, e 8)])
  (.seq (.reg [i (.load true 3 (e 4)), i (.callv (e 1) [(l 0)]), i (.call 87 [(e 0), (e 1), (l 1)] false), i (.ext 0 (l 2)), i (.ext 1 (l 2))] [(5, l 3)])
  (.seq (.reg [i (.bin .neq (e 5) (e 3)), g (l 0) false (.mov (e 1)), g (l 0) false (.load true 3 (e 4)), g (l 0) false (.callv (l 1) [(l 2)]), g (l 0) false (.call 25 [(l 3)] false), g (l 0) false (.una .not (l 4)), i (.pick (l 0) (v (.bool true)) (l 5))] [(10, l 6)])
  (.cond (e 10) (.seq (.reg [] [(2, (v (.bool false)))])
  .ret) .skip)))))
  (.reg [i (.bin .add (e 8) (v (.int .i64 1)))] [(8, l 0)]))))
def b_catalog_once_api_Table : ACode :=
  (.seq (.reg [] [(2, (v (.bool false)))])
  (.seq (.seq (.reg [i (.len (e 0))] [(6, e 0), (7, l 0), (8, (v (.int .i64 0)))])
  (.blk 0 (.loop [2, 3, 4, 5, 9, 10] l_catalog_once_api_Table_0)))
  (.seq (.reg [] [(2, (v (.bool true)))])
  .ret)))
def f_catalog_once_api_Table : AFunc := ⟨11, 2, .pure, [.env 2], b_catalog_once_api_Table⟩
def b_catalog_tableName : ACode :=
  (.seq (.reg [i (.box 3 (e 0))] [(1, l 0), (2, (v (.str [])))])
  (.seq (.reg [i (.fld 0 (e 1)), i (.load false 1 (l 0))] [(2, l 1)])
  .ret))
def f_catalog_tableName : AFunc := ⟨3, 1, .pure, [.env 2], b_catalog_tableName⟩
def l_slices_Equal_int_int_0 : ACode :=
  (.seq (.reg [i (.bin .lss (e 6) (e 5))] [(7, l 0)])
  (.seq (.cond (e 7) .skip (.exit 0))
  (.seq (.blk 1 (.seq (.reg [] [(3, e 6)])
  (.seq (.reg [i (.idxs 1 (e 0) (e 3)), i (.load false 1 (l 0)), i (.idxs 1 (e 1) (e 3)), i (.load false 1 (l 2)), i (.bin .neq (l 1) (l 3))] [(8, l 4)])
  (.cond (e 8) (.seq (.reg [] [(2, (v (.bool false)))])
  .ret) .skip))))
  (.reg [i (.bin .add (e 6) (v (.int .i64 1)))] [(6, l 0)]))))
def b_slices_Equal_int_int : ACode :=
  (.seq (.reg [] [(2, (v (.bool false)))])
  (.seq (.seq (.reg [i (.len (e 0)), i (.len (e 1)), i (.bin .neq (l 0) (l 1))] [(4, l 2)])
  (.cond (e 4) (.seq (.reg [] [(2, (v (.bool false)))])
  .ret) .skip))
  (.seq (.seq (.reg [i (.len (e 0))] [(5, l 0), (6, (v (.int .i64 0)))])
  (.blk 0 (.loop [2, 3, 7, 8] l_slices_Equal_int_int_0)))
  (.seq (.reg [] [(2, (v (.bool true)))])
  .ret))))
def f_slices_Equal_int_int : AFunc := ⟨9, 2, .pure, [.env 2], b_slices_Equal_int_int⟩
def l_logic_copied_0 : ACode :=
  (.seq (.reg [i (.bin .lss (e 12) (e 11))] [(13, l 0)])
  (.seq (.cond (e 13) .skip (.exit 2))
  (.seq (.blk 3 (.seq (.reg [] [(5, e 12)])
  (.regd [i (.fld 9 (e 2)), i (.load false 1 (l 0)), i (.fld 9 (e 2)), i (.load false 1 (l 2)), i (.idxs 1 (l 3) (e 5)), i (.fld 0 (l 4)), i (.load false 1 (l 5)), i (.call 113 [(l 6)] true), i (.idxs 1 (l 1) (e 5)), i (.fld 0 (l 8)), i (.store 1 (l 9) (l 7))] [] [(0, 8), (1, 8)])))
  (.reg [i (.bin .add (e 12) (v (.int .i64 1)))] [(12, l 0)]))))
def l_logic_copied_1 : ACode :=
  (.seq (.reg [i (.bin .lss (e 9) (e 8))] [(10, l 0)])
  (.seq (.cond (e 10) .skip (.exit 0))
  (.seq (.blk 1 (.seq (.reg [] [(4, e 9)])
  (.regd [i (.fld 8 (e 2)), i (.load false 1 (l 0)), i (.fld 8 (e 2)), i (.load false 1 (l 2)), i (.idxs 2 (l 3) (e 4)), i (.fld 1 (l 4)), i (.fld 0 (l 5)), i (.load false 1 (l 6)), i (.call 113 [(l 7)] true), i (.idxs 2 (l 1) (e 4)), i (.fld 1 (l 9)), i (.fld 0 (l 10)), i (.store 1 (l 11) (l 8))] [] [(0, 9), (1, 9)])))
  (.reg [i (.bin .add (e 9) (v (.int .i64 1)))] [(9, l 0)]))))
def b_logic_copied : ACode :=
  (.seq (.reg [i (.box 12 (e 0)), i (.box 12 (v (.agg [.int .i64 0, .int .i64 0, .int .i64 0, .int .i64 0, .nil0, .bool false, .nil0, .nil0, .nil0, .nil0, .nil0, .int .i64 0])))] [(2, l 0), (3, l 1)])
  (.seq (.seq (.reg [i (.fld 1 (e 2)), i (.load false 1 (l 0)), i (.bin .geq (l 1) (v (.int .i64 0)))] [(6, l 2)])
  (.cond (e 6) (.reg [i (.fld 1 (e 2)), i (.load false 1 (l 0)), i (.bin .add (l 1) (e 1)), i (.fld 1 (e 2)), i (.store 1 (l 3) (l 2))] []) .skip))
  (.seq (.seq (.reg [i (.fld 2 (e 2)), i (.load false 1 (l 0)), i (.bin .geq (l 1) (v (.int .i64 0)))] [(7, l 2)])
  (.cond (e 7) (.reg [i (.fld 2 (e 2)), i (.load false 1 (l 0)), i (.bin .add (l 1) (e 1)), i (.fld 2 (e 2)), i (.store 1 (l 3) (l 2))] []) .skip))
  (.seq (.regd [i (.fld 4 (e 2)), i (.load false 1 (l 0)), i (.call 3 [(l 1)] true), i (.fld 7 (e 2)), i (.load false 1 (l 3)), i (.call 3 [(l 4)] true), i (.fld 10 (e 2)), i (.load false 1 (l 6)), i (.call 126 [(l 7)] true), i (.fld 4 (e 2)), i (.store 1 (l 9) (l 2)), i (.fld 7 (e 2)), i (.store 1 (l 11) (l 5)), i (.fld 10 (e 2)), i (.store 1 (l 13) (l 8))] [] [(3, 0), (4, 0), (6, 0), (6, 3), (7, 0), (7, 3), (9, 3), (9, 6)])
  (.seq (.reg [i (.fld 6 (e 2)), i (.fld 0 (l 0)), i (.load false 1 (l 1)), i (.call 113 [(l 2)] true), i (.fld 6 (e 2)), i (.fld 0 (l 4)), i (.store 1 (l 5) (l 3))] [])
  (.seq (.regd [i (.fld 8 (e 2)), i (.load false 1 (l 0)), i (.call 128 [(l 1)] true), i (.fld 9 (e 2)), i (.load false 1 (l 3)), i (.call 127 [(l 4)] true), i (.fld 8 (e 2)), i (.store 1 (l 6) (l 2)), i (.fld 9 (e 2)), i (.store 1 (l 8) (l 5))] [] [(3, 0), (4, 0), (6, 3)])
  (.seq (.seq (.reg [i (.fld 8 (e 2)), i (.load false 1 (l 0)), i (.len (l 1))] [(8, l 2), (9, (v (.int .i64 0)))])
  (.blk 0 (.loop [4, 10] l_logic_copied_1)))
  (.seq (.seq (.reg [i (.fld 9 (e 2)), i (.load false 1 (l 0)), i (.len (l 1))] [(11, l 2), (12, (v (.int .i64 0)))])
  (.blk 2 (.loop [5, 13] l_logic_copied_0)))
  (.seq (.reg [i (.load true 12 (e 2)), i (.store 12 (e 3) (l 0))] [])
  .ret)))))))))
def f_logic_copied : AFunc := ⟨14, 2, .pure, [.cell true 12 3], b_logic_copied⟩
def b_slices_Clone_int_int : ACode :=
  (.seq (.reg [i (.mov (v (.nil0)))] [(1, l 0)])
  (.seq (.seq (.reg [i (.nils false (e 0))] [(2, l 0)])
  (.cond (e 2) (.seq (.reg [i (.mov (v (.nil0)))] [(1, l 0)])
  .ret) .skip))
  (.seq (.reg [i (.mov (v .nil0)), i (.app 1 (l 0) (e 0))] [(1, l 1)])
  .ret)))
def f_slices_Clone_int_int : AFunc := ⟨3, 1, .fresh 1, [.env 1], b_slices_Clone_int_int⟩
def b_plan_planner_send : ACode :=
  (.seq (.reg [i (.box 4 (e 1)), i (.box 4 (v (.agg [.nil0, .nil0, .int .i64 0, .nil0])))] [(4, l 0), (5, l 1)])
  (.seq (.reg [i (.nilck (e 0)), i (.fld 0 (l 0)), i (.fld 0 (l 1)), i (.load false 1 (l 2)), i (.fld 0 (e 4)), i (.load false 1 (l 4)), i (.fld 2 (e 4)), i (.load false 1 (l 6)), i (.call 3 [(e 3)] false), i (.build [.nil0, .int .i64 0, .int .i64 0, .nil0] [(0, 1, (l 5)), (1, 1, (l 7)), (2, 1, (e 2)), (3, 1, (l 8))]), i (.mkl 4 [(l 9)]), i (.app 4 (l 3) (l 10)), i (.nilck (e 0)), i (.fld 0 (l 12)), i (.fld 0 (l 13)), i (.store 1 (l 14) (l 11))] [])
  (.seq (.regd [i (.nilck (e 0)), i (.fld 0 (l 0)), i (.fld 0 (l 1)), i (.load false 1 (l 2)), i (.len (l 3)), i (.bin .sub (l 4) (v (.int .i64 1))), i (.fld 1 (e 4)), i (.load false 1 (l 6)), i (.call 3 [(l 7)] false), i (.build [.int .i64 0, .int .i64 0, .int .i64 0, .int .i64 0, .nil0, .bool false, .nil0, .nil0, .nil0, .nil0, .nil0, .int .i64 0] [(0, 1, (v (.int .i64 9))), (1, 1, (v (.int .i64 (-1)))), (2, 1, (v (.int .i64 (-1)))), (3, 1, (l 5)), (4, 1, (l 8))]), i (.box 12 (v (.agg [.int .i64 0, .int .i64 0, .int .i64 0, .int .i64 0, .nil0, .bool false, .nil0, .nil0, .nil0, .nil0, .nil0, .int .i64 0]))), i (.store 12 (l 10) (l 9))] [(6, l 10)] [(0, 11), (1, 11), (2, 11), (3, 11), (4, 11), (6, 11), (7, 11), (8, 11)])
  (.seq (.reg [] [(7, (v (.int .i64 1)))])
  (.seq (.seq (.reg [i (.bin .eql (e 2) (v (.int .i64 3)))] [(8, l 0)])
  (.cond (e 8) (.reg [] [(7, (v (.int .i64 2)))]) .skip))
  (.seq (.reg [i (.load true 12 (e 6)), i (.mkl 12 [(l 0)]), i (.fld 1 (e 4)), i (.load false 1 (l 2)), i (.build [.nil0, .nil0, .int .i64 0, .nil0] [(0, 1, (l 1)), (1, 1, (l 3)), (2, 1, (e 7)), (3, 1, (e 3))]), i (.store 4 (e 5) (l 4))] [])
  .ret))))))
def f_plan_planner_send : AFunc := ⟨9, 4, .keep, [.cell true 4 5], b_plan_planner_send⟩
def b_plan_planner_scan : ACode :=
  (.seq (.reg [i (.box 12 (e 1)), i (.box 4 (v (.agg [.nil0, .nil0, .int .i64 0, .nil0])))] [(4, l 0), (5, l 1)])
  (.seq (.reg [i (.load true 12 (e 4)), i (.mkl 12 [(l 0)]), i (.nilck (e 0)), i (.fld 2 (l 2)), i (.fld 0 (l 3)), i (.load false 1 (l 4)), i (.fld 3 (e 4)), i (.load false 1 (l 6)), i (.idxs 3 (l 5) (l 7)), i (.fld 2 (l 8)), i (.load false 1 (l 9)), i (.build [.nil0, .nil0, .int .i64 0, .nil0] [(0, 1, (l 1)), (1, 1, (e 2)), (2, 1, (v (.int .i64 1))), (3, 1, (l 10))]), i (.store 4 (e 5) (l 11))] [])
  .ret))
def f_plan_planner_scan : AFunc := ⟨6, 4, .pure, [.cell true 4 5], b_plan_planner_scan⟩
def l_plan_planner_group_0 : ACode :=
  (.seq (.reg [i (.bin .lss (e 18) (e 17))] [(19, l 0)])
  (.seq (.cond (e 19) .skip (.exit 0))
  (.seq (.blk 1 (.seq (.reg [i (.idxs 2 (e 16) (e 18)), i (.load true 2 (l 0)), i (.box 2 (v (.agg [.int .i64 0, .nil0]))), i (.store 2 (l 2) (l 1))] [(12, l 2)])
  (.reg [i (.fld 8 (e 11)), i (.load false 1 (l 0)), i (.fld 0 (e 12)), i (.load false 1 (l 2)), i (.build [.int .i64 0, .nil0] [(0, 1, (l 3))]), i (.mkl 2 [(l 4)]), i (.app 2 (l 1) (l 5)), i (.fld 8 (e 11)), i (.store 1 (l 7) (l 6))] [])))
  (.reg [i (.bin .add (e 18) (v (.int .i64 1)))] [(18, l 0)]))))
def b_plan_planner_group : ACode :=
  (.seq (.reg [i (.box 12 (e 1)), i (.box 4 (v (.agg [.nil0, .nil0, .int .i64 0, .nil0])))] [(4, l 0), (5, l 1)])
  (.seq (.reg [i (.idxs 4 (e 3) (v (.int .i64 0))), i (.load true 4 (l 0)), i (.box 4 (v (.agg [.nil0, .nil0, .int .i64 0, .nil0]))), i (.store 4 (l 2) (l 1))] [(6, l 2)])
  (.seq (.seq (.reg [i (.fld 2 (e 6)), i (.load false 1 (l 0)), i (.bin .eql (l 1) (v (.int .i64 2)))] [(13, l 2)])
  (.cond (e 13) (.seq (.reg [i (.load true 12 (e 4)), i (.load true 4 (e 6)), i (.mkl 4 [(l 1)]), i (.call 169 [(l 0), (e 2), (l 2)] false), i (.store 4 (e 5) (l 3))] [])
  .ret) .skip))
  (.seq (.seq (.reg [i (.fld 3 (e 6)), i (.load false 1 (l 0)), i (.fld 7 (e 4)), i (.load false 1 (l 2)), i (.call 203 [(l 1), (l 3)] false), i (.ext 0 (l 4)), i (.ext 1 (l 4))] [(7, l 5), (8, l 6)])
  (.seq (.reg [] [(14, e 8)])
  (.cond (e 14) (.seq (.reg [i (.load true 12 (e 4)), i (.load true 4 (e 6)), i (.mkl 4 [(l 1)]), i (.call 169 [(l 0), (e 2), (l 2)] false), i (.call 204 [(l 3), (e 7)] false), i (.store 4 (e 5) (l 4))] [])
  .ret) .skip)))
  (.seq (.reg [i (.fld 0 (e 4)), i (.store 1 (l 0) (v (.int .i64 10)))] [])
  (.seq (.reg [i (.fld 7 (e 4)), i (.load false 1 (l 0)), i (.len (l 1)), i (.call 86 [(l 2)] false)] [(9, l 3)])
  (.seq (.reg [] [(10, (v (.int .i64 1)))])
  (.seq (.seq (.reg [i (.len (e 9)), i (.bin .eql (l 0) (v (.int .i64 0)))] [(15, l 1)])
  (.cond (e 15) (.reg [] [(10, (v (.int .i64 3)))]) .skip))
  (.seq (.reg [i (.load true 12 (e 4)), i (.load true 12 (e 4)), i (.call 202 [(l 1), (e 2)] false), i (.load true 4 (e 6)), i (.mkl 4 [(l 3)]), i (.call 169 [(l 0), (l 2), (l 4)] false), i (.call 212 [(e 0), (l 5), (e 10), (e 9)] false), i (.store 4 (e 6) (l 6))] [])
  (.seq (.reg [i (.build [.int .i64 0, .int .i64 0, .int .i64 0, .int .i64 0, .nil0, .bool false, .nil0, .nil0, .nil0, .nil0, .nil0, .int .i64 0] [(0, 1, (v (.int .i64 11))), (7, 1, (e 9))]), i (.box 12 (v (.agg [.int .i64 0, .int .i64 0, .int .i64 0, .int .i64 0, .nil0, .bool false, .nil0, .nil0, .nil0, .nil0, .nil0, .int .i64 0]))), i (.store 12 (l 1) (l 0))] [(11, l 1)])
  (.seq (.seq (.lift 11 8 2 (.reg [i (.fld 8 (e 4)), i (.load false 1 (l 0)), i (.len (l 1))] [(16, l 1), (17, l 2), (18, (v (.int .i64 0)))]))
  (.blk 0 (.loop [12, 19] l_plan_planner_group_0)))
  (.seq (.reg [i (.load true 12 (e 11)), i (.load true 4 (e 6)), i (.mkl 4 [(l 1)]), i (.call 169 [(l 0), (e 2), (l 2)] false), i (.call 204 [(l 3), (e 9)] false), i (.store 4 (e 5) (l 4))] [])
  .ret))))))))))))
def f_plan_planner_group : AFunc := ⟨20, 4, .keep, [.cell true 4 5], b_plan_planner_group⟩
def l_slices_IndexFunc_api_Frag_api_Frag_0 : ACode :=
  (.seq (.reg [i (.bin .lss (e 5) (e 4))] [(6, l 0)])
  (.seq (.cond (e 6) .skip (.exit 0))
  (.seq (.blk 1 (.seq (.reg [] [(3, e 5)])
  (.seq (.reg [i (.idxs 4 (e 0) (e 3)), i (.load true 4 (l 0)), i (.callv (e 1) [(l 1)])] [(7, l 2)])
  (.cond (e 7) (.seq (.reg [] [(2, e 3)])
  .ret) .skip))))
  (.reg [i (.bin .add (e 5) (v (.int .i64 1)))] [(5, l 0)]))))
def b_slices_IndexFunc_api_Frag_api_Frag : ACode :=
  (.seq (.reg [] [(2, (v (.int .i64 0)))])
  (.seq (.seq (.reg [i (.len (e 0))] [(4, l 0), (5, (v (.int .i64 0)))])
  (.blk 0 (.loop [2, 3, 6, 7] l_slices_IndexFunc_api_Frag_api_Frag_0)))
  (.seq (.reg [] [(2, (v (.int .i64 (-1))))])
  .ret)))
def f_slices_IndexFunc_api_Frag_api_Frag : AFunc := ⟨8, 2, .pure, [.env 2], b_slices_IndexFunc_api_Frag_api_Frag⟩
def b_prop_Check : ACode :=
  (.seq (.reg [i (.box 1 (e 0)), i (.box 1 (e 1))] [(2, l 0), (3, l 1), (4, (v (.int .i64 0))), (5, (v (.int .i64 0))), (6, (v (.int .i64 0)))])
  (.seq (.reg [i (.load true 1 (e 2)), i (.load true 1 (e 3)), i (.call 201 [(l 0), (l 1)] false), i (.ext 0 (l 2)), i (.ext 1 (l 2)), i (.ext 2 (l 2)), i (.ext 3 (l 2))] [(7, l 4), (8, l 5), (9, l 6)])
  (.seq (.reg [] [(4, e 7), (5, e 8), (6, e 9)])
  .ret)))
def f_prop_Check : AFunc := ⟨10, 2, .pure, [.env 4, .env 5, .env 6], b_prop_Check⟩
def b_place_Check : ACode :=
  (.seq (.reg [i (.box 1 (e 0)), i (.box 1 (e 1))] [(2, l 0), (3, l 1), (4, (v (.int .i64 0)))])
  (.seq (.seq (.reg [i (.load true 1 (e 2)), i (.load true 1 (e 3)), i (.call 199 [(l 0), (l 1)] false)] [(5, l 2)])
  (.seq (.reg [i (.bin .neq (e 5) (v (.int .i64 0)))] [(6, l 0)])
  (.cond (e 6) (.seq (.reg [] [(4, e 5)])
  .ret) .skip)))
  (.seq (.seq (.reg [i (.load true 1 (e 2)), i (.load true 1 (e 3)), i (.call 200 [(l 0), (l 1)] false), i (.una .not (l 2))] [(7, l 3)])
  (.cond (e 7) (.seq (.reg [] [(4, (v (.int .i64 271)))])
  .ret) .skip))
  (.seq (.reg [] [(4, (v (.int .i64 0)))])
  .ret))))
def f_place_Check : AFunc := ⟨8, 2, .pure, [.env 4], b_place_Check⟩
def b_mean_run_all : ACode :=
  (.seq (.reg [i (.box 1 (e 0))] [(1, l 0), (2, (v (.nilf)))])
  (.seq (.reg [i (.mkfn 198 [] [(e 1)])] [(2, l 0)])
  .ret))
def f_mean_run_all : AFunc := ⟨3, 1, .keep, [.env 2], b_mean_run_all⟩
def b_mean_run_does : ACode :=
  (.seq (.reg [i (.box 2 (e 1)), i (.box 4 (v (.agg [.bool false, .nil0, .int .i64 0, .nil0])))] [(2, l 0), (3, l 1)])
  (.seq (.reg [i (.load true 2 (e 2)), i (.call 122 [(e 0), (l 0)] false), i (.ext 0 (l 1)), i (.ext 1 (l 1))] [(4, l 2), (5, l 3)])
  (.seq (.seq (.reg [i (.una .not (e 5))] [(8, l 0)])
  (.cond (e 8) (.seq (.reg [i (.build [.bool false, .nil0, .int .i64 0, .nil0] []), i (.store 4 (e 3) (l 0))] [])
  .ret) .skip))
  (.seq (.regd [i (.nilck (e 0)), i (.fld 0 (l 0)), i (.fld 0 (l 1)), i (.load false 1 (l 2)), i (.fld 0 (e 2)), i (.load false 1 (l 4)), i (.idxs 4 (l 3) (l 5)), i (.load true 4 (l 6)), i (.box 4 (v (.agg [.nil0, .int .i64 0, .int .i64 0, .nil0]))), i (.store 4 (l 8) (l 7))] [(6, l 8)] [(0, 9), (1, 9), (2, 9), (3, 9), (4, 9), (5, 9), (6, 9), (7, 9)])
  (.seq (.reg [i (.build [.bool false, .nil0, .int .i64 0, .nil0] [(0, 1, (v (.bool true)))]), i (.box 4 (v (.agg [.bool false, .nil0, .int .i64 0, .nil0]))), i (.store 4 (l 1) (l 0))] [(7, l 1)])
  (.seq (.seq (.reg [i (.load true 4 (e 6)), i (.fld 1 (e 2)), i (.load false 1 (l 1)), i (.call 124 [(e 0), (l 2)] false), i (.call 123 [(l 0), (l 3), (e 4)] false), i (.ext 0 (l 4)), i (.ext 1 (l 4)), i (.fld 1 (e 7)), i (.store 1 (l 7) (l 5)), i (.fld 2 (e 7)), i (.store 1 (l 9) (l 6))] [])
  (.seq (.reg [i (.fld 2 (e 7)), i (.load false 1 (l 0)), i (.bin .eql (l 1) (v (.int .i64 0)))] [(9, l 2)])
  (.cond (e 9) (.reg [i (.load true 4 (e 6)), i (.fld 1 (e 7)), i (.load false 1 (l 1)), i (.call 64 [(e 0)] false), i (.call 125 [(l 0), (l 2), (l 3)] false), i (.ext 0 (l 4)), i (.ext 1 (l 4)), i (.fld 3 (e 7)), i (.store 1 (l 7) (l 5))] []) .skip)))
  (.seq (.reg [i (.load true 4 (e 7)), i (.store 4 (e 3) (l 0))] [])
  .ret)))))))
def f_mean_run_does : AFunc := ⟨10, 2, .pure, [.cell true 4 3], b_mean_run_does⟩
def l_slices_Equal_api_Row_api_Value_0 : ACode :=
  (.seq (.reg [i (.bin .lss (e 6) (e 5))] [(7, l 0)])
  (.seq (.cond (e 7) .skip (.exit 0))
  (.seq (.blk 1 (.seq (.reg [] [(3, e 6)])
  (.seq (.reg [i (.idxs 4 (e 0) (e 3)), i (.load true 4 (l 0)), i (.idxs 4 (e 1) (e 3)), i (.load true 4 (l 2)), i (.eqa true [0, 0, 0, 2] (l 1) (l 3))] [(8, l 4)])
  (.cond (e 8) (.seq (.reg [] [(2, (v (.bool false)))])
  .ret) .skip))))
  (.reg [i (.bin .add (e 6) (v (.int .i64 1)))] [(6, l 0)]))))
def b_slices_Equal_api_Row_api_Value : ACode :=
  (.seq (.reg [] [(2, (v (.bool false)))])
  (.seq (.seq (.reg [i (.len (e 0)), i (.len (e 1)), i (.bin .neq (l 0) (l 1))] [(4, l 2)])
  (.cond (e 4) (.seq (.reg [] [(2, (v (.bool false)))])
  .ret) .skip))
  (.seq (.seq (.reg [i (.len (e 0))] [(5, l 0), (6, (v (.int .i64 0)))])
  (.blk 0 (.loop [2, 3, 7, 8] l_slices_Equal_api_Row_api_Value_0)))
  (.seq (.reg [] [(2, (v (.bool true)))])
  .ret))))
def f_slices_Equal_api_Row_api_Value : AFunc := ⟨9, 2, .pure, [.env 2], b_slices_Equal_api_Row_api_Value⟩
def b_logic_checker_all : ACode :=
  (.seq (.reg [i (.box 1 (e 0))] [(1, l 0), (2, (v (.nilf)))])
  (.seq (.lift 0 1 1 (.lift 0 2 1 (.reg [i (.mkfn 85 [] [(e 1)])] [(2, l 0)])))
  .ret))
def f_logic_checker_all : AFunc := ⟨3, 1, .keep, [.env 2], b_logic_checker_all⟩
def l_lex_IsName_0 : ACode :=
  (.seq (.reg [i (.nexts (e 4)), i (.ext 0 (l 0))] [(5, l 0), (6, l 1)])
  (.seq (.cond (e 6) .skip (.exit 0))
  (.blk 1 (.seq (.reg [i (.ext 2 (e 5))] [(2, l 0)])
  (.seq (.reg [i (.call 23 [(e 2)] false), i (.una .not (l 0)), g (l 1) true (.mov (e 2)), g (l 1) true (.call 5 [(l 2)] false), g (l 1) true (.una .not (l 3)), i (.pick (l 1) (l 4) (v (.bool false))), g (l 5) true (.mov (e 2)), g (l 5) true (.bin .neq (l 6) (v (.int .i32 95))), i (.pick (l 5) (l 7) (v (.bool false)))] [(7, l 8)])
  (.cond (e 7) (.seq (.reg [] [(1, (v (.bool false)))])
  .ret) .skip))))))
def b_lex_IsName : ACode :=
  (.seq (.reg [] [(1, (v (.bool false)))])
  (.seq (.seq (.reg [i (.bin .eql (e 0) (v (.str []))), g (l 0) false (.mov (e 0)), g (l 0) false (.lent (l 1)), g (l 0) false (.bin .gtr (l 2) (v (.int .i64 16))), i (.pick (l 0) (v (.bool true)) (l 3)), g (l 4) false (.mov (e 0)), g (l 4) false (.idxt (l 5) (v (.int .i64 0))), g (l 4) false (.conv .i32 (l 6)), g (l 4) false (.call 5 [(l 7)] false), g (l 4) false (.una .not (l 8)), i (.pick (l 4) (v (.bool true)) (l 9)), g (l 10) false (.mov (e 0)), g (l 10) false (.call 22 [(l 11)] false), g (l 10) false (.call 21 [(l 12)] false), i (.pick (l 10) (v (.bool true)) (l 13))] [(3, l 14)])
  (.cond (e 3) (.seq (.reg [] [(1, (v (.bool false)))])
  .ret) .skip))
  (.seq (.seq (.reg [i (.rngs (e 0))] [(4, l 0)])
  (.blk 0 (.loop [1, 2, 5, 6, 7] l_lex_IsName_0)))
  (.seq (.reg [] [(1, (v (.bool true)))])
  .ret))))
def f_lex_IsName : AFunc := ⟨8, 1, .pure, [.env 1], b_lex_IsName⟩
def l_catalog_once_api_Column_0 : ACode :=
  (.seq (.reg [i (.bin .lss (e 8) (e 7))] [(9, l 0)])
  (.seq (.cond (e 9) .skip (.exit 0))
  (.seq (.blk 1 (.seq (.reg [i (.idxs 2 (e 6) (e 8)), i (.load true 2 (l 0)), i (.box 2 (v (.agg [.str [], .int .i64 0]))), i (.store 2 (l 2) (l 1))] [(4, l 2), (3, e 8)])
  (.seq (.reg [i (.load true 2 (e 4)), i (.callv (e 1) [(l 0)]), i (.call 84 [(e 0), (e 1), (l 1)] false), i (.ext 0 (l 2)), i (.ext 1 (l 2))] [(5, l 3)])
  (.seq (.reg [i (.bin .neq (e 5) (e 3)), g (l 0) false (.mov (e 1)), g (l 0) false (.load true 2 (e 4)), g (l 0) false (.callv (l 1) [(l 2)]), g (l 0) false (.call 25 [(l 3)] false), g (l 0) false (.una .not (l 4)), i (.pick (l 0) (v (.bool true)) (l 5))] [(10, l 6)])
  (.cond (e 10) (.seq (.reg [] [(2, (v (.bool false)))])
  .ret) .skip)))))
  (.reg [i (.bin .add (e 8) (v (.int .i64 1)))] [(8, l 0)]))))
def b_catalog_once_api_Column : ACode :=
  (.seq (.reg [] [(2, (v (.bool false)))])
  (.seq (.seq (.reg [i (.len (e 0))] [(6, e 0), (7, l 0), (8, (v (.int .i64 0)))])
  (.blk 0 (.loop [2, 3, 4, 5, 9, 10] l_catalog_once_api_Column_0)))
  (.seq (.reg [] [(2, (v (.bool true)))])
  .ret)))
def f_catalog_once_api_Column : AFunc := ⟨11, 2, .pure, [.env 2], b_catalog_once_api_Column⟩
def b_catalog_columnName : ACode :=
  (.seq (.reg [i (.box 2 (e 0))] [(1, l 0), (2, (v (.str [])))])
  (.seq (.reg [i (.fld 0 (e 1)), i (.load false 1 (l 0))] [(2, l 1)])
  .ret))
def f_catalog_columnName : AFunc := ⟨3, 1, .pure, [.env 2], b_catalog_columnName⟩
def l_catalog_word_0 : ACode :=
  (.seq (.reg [i (.bin .lss (e 4) (v (.int .i64 3)))] [(5, l 0)])
  (.seq (.cond (e 5) .skip (.exit 0))
  (.seq (.blk 1 (.seq (.reg [i (.idxv true 3 2 (e 3) (e 4)), i (.box 2 (v (.agg [.str [], .int .i64 0]))), i (.store 2 (l 1) (l 0))] [(2, l 1)])
  (.seq (.reg [i (.fld 1 (e 2)), i (.load false 1 (l 0)), i (.bin .eql (l 1) (e 0))] [(6, l 2)])
  (.cond (e 6) (.seq (.reg [i (.fld 0 (e 2)), i (.load false 1 (l 0))] [(1, l 1)])
  .ret) .skip))))
  (.reg [i (.bin .add (e 4) (v (.int .i64 1)))] [(4, l 0)]))))
def b_catalog_word : ACode :=
  (.seq (.reg [] [(1, (v (.str [])))])
  (.seq (.seq (.reg [i (.load true 6 (v (.cptr false (gl0) 0)))] [(3, l 0), (4, (v (.int .i64 0)))])
  (.blk 0 (.loop [1, 2, 5, 6] l_catalog_word_0)))
  (.seq (.reg [] [(1, (v (.str [])))])
  .ret)))
def f_catalog_word : AFunc := ⟨7, 1, .pure, [.env 1], b_catalog_word⟩
def l_slices_IndexFunc_api_Table_api_Table_0 : ACode :=
  (.seq (.reg [i (.bin .lss (e 5) (e 4))] [(6, l 0)])
  (.seq (.cond (e 6) .skip (.exit 0))
  (.seq (.blk 1 (.seq (.reg [] [(3, e 5)])
  (.seq (.reg [i (.idxs 3 (e 0) (e 3)), i (.load true 3 (l 0)), i (.callv (e 1) [(l 1)])] [(7, l 2)])
  (.cond (e 7) (.seq (.reg [] [(2, e 3)])
  .ret) .skip))))
  (.reg [i (.bin .add (e 5) (v (.int .i64 1)))] [(5, l 0)]))))
def b_slices_IndexFunc_api_Table_api_Table : ACode :=
  (.seq (.reg [] [(2, (v (.int .i64 0)))])
  (.seq (.seq (.reg [i (.len (e 0))] [(4, l 0), (5, (v (.int .i64 0)))])
  (.blk 0 (.loop [2, 3, 6, 7] l_slices_IndexFunc_api_Table_api_Table_0)))
  (.seq (.reg [] [(2, (v (.int .i64 (-1))))])
  .ret)))
def f_slices_IndexFunc_api_Table_api_Table : AFunc := ⟨8, 2, .pure, [.env 2], b_slices_IndexFunc_api_Table_api_Table⟩
def b_catalog_find_api_Table : ACode :=
  (.seq (.reg [i (.box 1 (e 1)), i (.box 1 (e 2))] [(3, l 0), (4, l 1), (5, (v (.int .i64 0))), (6, (v (.bool false)))])
  (.seq (.reg [i (.mkfn 83 [] [(e 3), (e 4)]), i (.call 44 [(e 0), (l 0)] false)] [(7, l 1)])
  (.seq (.reg [i (.maxs (e 7) [(v (.int .i64 0))]), i (.bin .geq (e 7) (v (.int .i64 0)))] [(5, l 0), (6, l 1)])
  .ret)))
def f_catalog_find_api_Table : AFunc := ⟨8, 3, .pure, [.env 5, .env 6], b_catalog_find_api_Table⟩
def b_slices_Clone_api_Ord_api_Ord : ACode :=
  (.seq (.reg [i (.mov (v (.nil0)))] [(1, l 0)])
  (.seq (.seq (.reg [i (.nils false (e 0))] [(2, l 0)])
  (.cond (e 2) (.seq (.reg [i (.mov (v (.nil0)))] [(1, l 0)])
  .ret) .skip))
  (.seq (.reg [i (.mov (v .nil0)), i (.app 2 (l 0) (e 0))] [(1, l 1)])
  .ret)))
def f_slices_Clone_api_Ord_api_Ord : AFunc := ⟨3, 1, .fresh 2, [.env 1], b_slices_Clone_api_Ord_api_Ord⟩
def b_slices_Clone_api_ENode_api_ENode : ACode :=
  (.seq (.reg [i (.mov (v (.nil0)))] [(1, l 0)])
  (.seq (.seq (.reg [i (.nils false (e 0))] [(2, l 0)])
  (.cond (e 2) (.seq (.reg [i (.mov (v (.nil0)))] [(1, l 0)])
  .ret) .skip))
  (.seq (.reg [i (.mov (v .nil0)), i (.app 8 (l 0) (e 0))] [(1, l 1)])
  .ret)))
def f_slices_Clone_api_ENode_api_ENode : AFunc := ⟨3, 1, .fresh 8, [.env 1], b_slices_Clone_api_ENode_api_ENode⟩
def b_slices_Clone_api_Agg_api_Agg : ACode :=
  (.seq (.reg [i (.mov (v (.nil0)))] [(1, l 0)])
  (.seq (.seq (.reg [i (.nils false (e 0))] [(2, l 0)])
  (.cond (e 2) (.seq (.reg [i (.mov (v (.nil0)))] [(1, l 0)])
  .ret) .skip))
  (.seq (.reg [i (.mov (v .nil0)), i (.app 2 (l 0) (e 0))] [(1, l 1)])
  .ret)))
def f_slices_Clone_api_Agg_api_Agg : AFunc := ⟨3, 1, .fresh 2, [.env 1], b_slices_Clone_api_Agg_api_Agg⟩
def b_slices_Clone_api_Expr_api_Expr : ACode :=
  (.seq (.reg [i (.mov (v (.nil0)))] [(1, l 0)])
  (.seq (.seq (.reg [i (.nils false (e 0))] [(2, l 0)])
  (.cond (e 2) (.seq (.reg [i (.mov (v (.nil0)))] [(1, l 0)])
  .ret) .skip))
  (.seq (.reg [i (.mov (v .nil0)), i (.app 1 (l 0) (e 0))] [(1, l 1)])
  .ret)))
def f_slices_Clone_api_Expr_api_Expr : AFunc := ⟨3, 1, .fresh 1, [.env 1], b_slices_Clone_api_Expr_api_Expr⟩
def l_plan_over_0 : ACode :=
  (.seq (.reg [i (.bin .lss (e 16) (e 15))] [(17, l 0)])
  (.seq (.cond (e 17) .skip (.exit 2))
  (.seq (.blk 3 (.seq (.reg [i (.idxs 12 (e 14) (e 16)), i (.load true 12 (l 0)), i (.box 12 (v (.agg [.int .i64 0, .int .i64 0, .int .i64 0, .int .i64 0, .nil0, .bool false, .nil0, .nil0, .nil0, .nil0, .nil0, .int .i64 0]))), i (.store 12 (l 2) (l 1))] [(9, l 2)])
  (.seq (.seq (.reg [i (.fld 1 (e 9)), i (.load false 1 (l 0)), i (.bin .geq (l 1) (v (.int .i64 0)))] [(18, l 2)])
  (.cond (e 18) (.reg [i (.fld 1 (e 9)), i (.load false 1 (l 0)), i (.bin .add (l 1) (e 8)), i (.fld 1 (e 9)), i (.store 1 (l 3) (l 2))] []) .skip))
  (.seq (.seq (.reg [i (.fld 2 (e 9)), i (.load false 1 (l 0)), i (.bin .geq (l 1) (v (.int .i64 0)))] [(19, l 2)])
  (.cond (e 19) (.reg [i (.fld 2 (e 9)), i (.load false 1 (l 0)), i (.bin .add (l 1) (e 8)), i (.fld 2 (e 9)), i (.store 1 (l 3) (l 2))] []) .skip))
  (.reg [i (.fld 0 (e 5)), i (.load false 1 (l 0)), i (.load true 12 (e 9)), i (.mkl 12 [(l 2)]), i (.app 12 (l 1) (l 3)), i (.fld 0 (e 5)), i (.store 1 (l 5) (l 4))] [])))))
  (.reg [i (.bin .add (e 16) (v (.int .i64 1)))] [(16, l 0)]))))
def l_plan_over_1 : ACode :=
  (.seq (.reg [i (.bin .lss (e 12) (e 11))] [(13, l 0)])
  (.seq (.cond (e 13) .skip (.exit 0))
  (.seq (.blk 1 (.seq (.reg [i (.idxs 4 (e 10) (e 12)), i (.load true 4 (l 0)), i (.box 4 (v (.agg [.nil0, .nil0, .int .i64 0, .nil0]))), i (.store 4 (l 2) (l 1))] [(7, l 2), (6, e 12)])
  (.seq (.reg [i (.fld 0 (e 5)), i (.load false 1 (l 0)), i (.len (l 1))] [(8, l 2)])
  (.seq (.seq (.reg [i (.fld 0 (e 7)), i (.load false 1 (l 0)), i (.call 168 [(l 1)] false), i (.len (l 2))] [(14, l 2), (15, l 3), (16, (v (.int .i64 0)))])
  (.blk 2 (.loop [9, 17, 18, 19] l_plan_over_0)))
  (.seq (.reg [i (.bin .eql (e 6) (v (.int .i64 0)))] [(20, l 0)])
  (.cond (e 20) (.reg [i (.fld 0 (e 5)), i (.load false 1 (l 0)), i (.len (l 1)), i (.bin .sub (l 2) (v (.int .i64 1))), i (.fld 1 (e 3)), i (.store 1 (l 4) (l 3))] []) (.reg [i (.fld 0 (e 5)), i (.load false 1 (l 0)), i (.len (l 1)), i (.bin .sub (l 2) (v (.int .i64 1))), i (.fld 2 (e 3)), i (.store 1 (l 4) (l 3))] [])))))))
  (.reg [i (.bin .add (e 12) (v (.int .i64 1)))] [(12, l 0)]))))
def b_plan_over : ACode :=
  (.seq (.reg [i (.box 12 (e 0)), i (.box 4 (v (.agg [.nil0, .nil0, .int .i64 0, .nil0])))] [(3, l 0), (4, l 1)])
  (.seq (.reg [i (.fld 1 (e 3)), i (.store 1 (l 0) (v (.int .i64 (-1)))), i (.fld 2 (e 3)), i (.store 1 (l 2) (v (.int .i64 (-1))))] [])
  (.seq (.reg [i (.idxs 4 (e 2) (v (.int .i64 0))), i (.fld 2 (l 0)), i (.load false 1 (l 1)), i (.build [.nil0, .nil0, .int .i64 0, .nil0] [(1, 1, (e 1)), (2, 1, (l 2))]), i (.box 4 (v (.agg [.nil0, .nil0, .int .i64 0, .nil0]))), i (.store 4 (l 4) (l 3))] [(5, l 4)])
  (.seq (.seq (.lift 5 0 12 (.reg [i (.len (e 2))] [(10, e 2), (11, l 0), (12, (v (.int .i64 0)))]))
  (.blk 0 (.loop [6, 7, 8, 9, 13, 14, 15, 16, 17, 18, 19, 20] l_plan_over_1)))
  (.seq (.reg [i (.fld 0 (e 5)), i (.load false 1 (l 0)), i (.load true 12 (e 3)), i (.mkl 12 [(l 2)]), i (.app 12 (l 1) (l 3)), i (.fld 0 (e 5)), i (.store 1 (l 5) (l 4))] [])
  (.seq (.reg [i (.load true 4 (e 5)), i (.store 4 (e 4) (l 0))] [])
  .ret))))))
def f_plan_over : AFunc := ⟨21, 3, .keep, [.cell true 4 4], b_plan_over⟩
def b_plan_side_with : ACode :=
  (.seq (.reg [i (.box 4 (e 0)), i (.box 4 (v (.agg [.nil0, .nil0, .int .i64 0, .nil0])))] [(2, l 0), (3, l 1)])
  (.seq (.reg [i (.fld 3 (e 2)), i (.store 1 (l 0) (e 1))] [])
  (.seq (.reg [i (.load true 4 (e 2)), i (.store 4 (e 3) (l 0))] [])
  .ret)))
def f_plan_side_with : AFunc := ⟨4, 2, .keep, [.cell true 4 3], b_plan_side_with⟩
def l_plan_places_0 : ACode :=
  (.seq (.reg [i (.bin .lss (e 9) (e 8))] [(10, l 0)])
  (.seq (.cond (e 10) .skip (.exit 0))
  (.seq (.blk 1 (.seq (.reg [i (.idxs 1 (e 7) (e 9)), i (.load false 1 (l 0))] [(5, l 1)])
  (.seq (.reg [i (.call 73 [(e 1), (e 5)] false)] [(6, l 0)])
  (.seq (.seq (.reg [i (.bin .lss (e 6) (v (.int .i64 0)))] [(11, l 0)])
  (.cond (e 11) (.seq (.reg [i (.mov (v (.nil0)))] [(2, l 0), (3, (v (.bool false)))])
  .ret) .skip))
  (.reg [i (.mkl 1 [(e 6)]), i (.app 1 (e 4) (l 0))] [(4, l 1)])))))
  (.reg [i (.bin .add (e 9) (v (.int .i64 1)))] [(9, l 0)]))))
def b_plan_places : ACode :=
  (.seq (.reg [i (.mov (v (.nil0)))] [(2, l 0), (3, (v (.bool false)))])
  (.seq (.reg [i (.mknil 1)] [(4, l 0)])
  (.seq (.seq (.reg [i (.len (e 0))] [(7, e 0), (8, l 0), (9, (v (.int .i64 0)))])
  (.blk 0 (.loop [2, 3, 5, 6, 10, 11] l_plan_places_0)))
  (.seq (.reg [i (.len (e 0)), i (.bin .gtr (l 0) (v (.int .i64 0)))] [(2, e 4), (3, l 1)])
  .ret))))
def f_plan_places : AFunc := ⟨12, 2, .pure, [.env 2, .env 3], b_plan_places⟩
def l_plan_upTo_0 : ACode :=
  (.seq (.reg [i (.bin .lss (e 5) (e 4))] [(6, l 0)])
  (.seq (.cond (e 6) .skip (.exit 0))
  (.seq (.blk 1 (.seq (.reg [] [(3, e 5)])
  (.reg [i (.mkl 1 [(e 3)]), i (.app 1 (e 2) (l 0))] [(2, l 1)])))
  (.reg [i (.bin .add (e 5) (v (.int .i64 1)))] [(5, l 0)]))))
def b_plan_upTo : ACode :=
  (.seq (.reg [i (.mov (v (.nil0)))] [(1, l 0)])
  (.seq (.reg [i (.mknil 1)] [(2, l 0)])
  (.seq (.seq (.reg [] [(4, e 0), (5, (v (.int .i64 0)))])
  (.blk 0 (.loop [3, 6] l_plan_upTo_0)))
  (.seq (.reg [] [(1, e 2)])
  .ret))))
def f_plan_upTo : AFunc := ⟨7, 1, .pure, [.env 1], b_plan_upTo⟩
def l_plan_partial_0 : ACode :=
  (.seq (.reg [i (.bin .lss (e 9) (e 8))] [(10, l 0)])
  (.seq (.cond (e 10) .skip (.exit 0))
  (.seq (.blk 1 (.seq (.reg [i (.idxs 2 (e 7) (e 9)), i (.load true 2 (l 0)), i (.box 2 (v (.agg [.int .i64 0, .nil0]))), i (.store 2 (l 2) (l 1))] [(6, l 2), (5, e 9)])
  (.seq (.reg [i (.fld 0 (e 6)), i (.load false 1 (l 0)), i (.bin .eql (l 1) (v (.int .i64 3)))] [(11, l 2)])
  (.cond (e 11) (.reg [i (.fld 7 (e 2)), i (.load false 1 (l 0)), i (.len (l 1)), i (.bin .add (l 2) (e 5)), i (.idxs 1 (e 4) (l 3)), i (.store 1 (l 4) (v (.int .i64 4)))] []) .skip))))
  (.reg [i (.bin .add (e 9) (v (.int .i64 1)))] [(9, l 0)]))))
def b_plan_partial : ACode :=
  (.seq (.reg [i (.box 12 (e 0)), i (.mov (v (.nil0)))] [(2, l 0), (3, l 1)])
  (.seq (.reg [i (.call 3 [(e 1)] true)] [(4, l 0)])
  (.seq (.seq (.reg [i (.fld 8 (e 2)), i (.load false 1 (l 0)), i (.len (l 1))] [(7, l 1), (8, l 2), (9, (v (.int .i64 0)))])
  (.blk 0 (.loop [5, 6, 10, 11] l_plan_partial_0)))
  (.seq (.reg [] [(3, e 4)])
  .ret))))
def f_plan_partial : AFunc := ⟨12, 2, .pure, [.env 3], b_plan_partial⟩
def l_prop_begin_0 : ACode :=
  (.seq (.reg [i (.bin .lss (e 25) (e 24))] [(26, l 0)])
  (.seq (.cond (e 26) .skip (.exit 2))
  (.seq (.blk 3 (.seq (.reg [] [(15, e 25)])
  (.seq (.reg [i (.call 167 [(e 9), (e 15)] false), i (.una .not (l 0))] [(27, l 1)])
  (.cond (e 27) (.seq (.reg [] [(4, (v (.nilp))), (5, e 15), (6, (v (.int .i64 0))), (7, (v (.int .i64 290)))])
  .ret) .skip))))
  (.reg [i (.bin .add (e 25) (v (.int .i64 1)))] [(25, l 0)]))))
def l_prop_begin_1 : ACode :=
  (.seq (.reg [i (.bin .lss (e 20) (e 19))] [(21, l 0)])
  (.seq (.cond (e 21) .skip (.exit 0))
  (.seq (.blk 1 (.seq (.reg [i (.idxs 4 (e 18) (e 20)), i (.load true 4 (l 0)), i (.box 4 (v (.agg [.nil0, .int .i64 0, .int .i64 0, .nil0]))), i (.store 4 (l 2) (l 1))] [(11, l 2), (10, e 20)])
  (.seq (.reg [i (.fld 0 (e 11)), i (.load false 1 (l 0)), i (.call 63 [(l 1)] false), i (.ext 0 (l 2)), i (.ext 1 (l 2)), i (.ext 2 (l 2))] [(12, l 3), (13, l 4), (14, l 5)])
  (.seq (.seq (.reg [i (.bin .neq (e 14) (v (.int .i64 0)))] [(22, l 0)])
  (.cond (e 22) (.seq (.reg [] [(4, (v (.nilp))), (5, e 10), (6, e 13), (7, e 14)])
  .ret) .skip))
  (.seq (.seq (.reg [i (.load true 4 (e 11)), i (.len (e 12)), i (.bin .sub (l 1) (v (.int .i64 1))), i (.idxs 1 (e 12) (l 2)), i (.load false 1 (l 3)), i (.call 166 [(e 9), (l 0), (l 4)] false), i (.una .not (l 5))] [(23, l 6)])
  (.cond (e 23) (.seq (.reg [] [(4, (v (.nilp))), (5, e 10), (6, (v (.int .i64 0))), (7, (v (.int .i64 291)))])
  .ret) .skip))
  (.reg [i (.nilck (e 9)), i (.fld 2 (l 0)), i (.load false 1 (l 1)), i (.mkl 1 [(e 12)]), i (.app 1 (l 2) (l 3)), i (.nilck (e 9)), i (.fld 2 (l 5)), i (.store 1 (l 6) (l 4))] []))))))
  (.reg [i (.bin .add (e 20) (v (.int .i64 1)))] [(20, l 0)]))))
def b_prop_begin : ACode :=
  (.seq (.reg [i (.box 1 (e 0)), i (.box 1 (e 1))] [(2, l 0), (3, l 1), (4, (v (.nilp))), (5, (v (.int .i64 0))), (6, (v (.int .i64 0))), (7, (v (.int .i64 0)))])
  (.seq (.seq (.reg [i (.load true 1 (e 3)), i (.call 103 [(l 0)] false)] [(8, l 1)])
  (.seq (.reg [i (.bin .neq (e 8) (v (.int .i64 0)))] [(16, l 0)])
  (.cond (e 16) (.seq (.reg [] [(4, (v (.nilp))), (5, (v (.int .i64 0))), (6, (v (.int .i64 0))), (7, e 8)])
  .ret) .skip)))
  (.seq (.seq (.reg [i (.fld 0 (e 2)), i (.load false 1 (l 0)), i (.len (l 1)), i (.bin .lss (l 2) (v (.int .i64 1))), g (l 3) false (.fld 0 (e 2)), g (l 3) false (.load false 1 (l 4)), g (l 3) false (.len (l 5)), g (l 3) false (.bin .gtr (l 6) (v (.int .i64 30))), i (.pick (l 3) (v (.bool true)) (l 7))] [(17, l 8)])
  (.cond (e 17) (.seq (.reg [] [(4, (v (.nilp))), (5, (v (.int .i64 0))), (6, (v (.int .i64 0))), (7, (v (.int .i64 290)))])
  .ret) .skip))
  (.seq (.reg [i (.load true 1 (e 2)), i (.load true 1 (e 3)), i (.build [.nil0, .nil0, .nil0] [(0, 1, (l 0)), (1, 1, (l 1))]), i (.box 3 (l 2))] [(9, l 3)])
  (.seq (.seq (.lift 9 2 1 (.reg [i (.fld 0 (e 2)), i (.load false 1 (l 0)), i (.len (l 1))] [(18, l 1), (19, l 2), (20, (v (.int .i64 0)))]))
  (.blk 0 (.loop [4, 5, 6, 7, 10, 11, 12, 13, 14, 21, 22, 23] l_prop_begin_1)))
  (.seq (.seq (.reg [i (.fld 0 (e 2)), i (.load false 1 (l 0)), i (.len (l 1))] [(24, l 2), (25, (v (.int .i64 0)))])
  (.blk 2 (.loop [4, 5, 6, 7, 15, 26, 27] l_prop_begin_0)))
  (.seq (.reg [] [(4, e 9), (5, (v (.int .i64 0))), (6, (v (.int .i64 0))), (7, (v (.int .i64 0)))])
  .ret)))))))
def f_prop_begin : AFunc := ⟨28, 2, .pure, [.env 4, .env 5, .env 6, .env 7], b_prop_begin⟩
def b_place_asked : ACode :=
  (.seq (.reg [i (.box 1 (e 0)), i (.box 1 (e 1))] [(2, l 0), (3, l 1), (4, (v (.int .i64 0)))])
  (.seq (.blk 0 (.seq (.reg [i (.load true 1 (e 2)), i (.call 103 [(l 0)] false), i (.bin .neq (l 1) (v (.int .i64 0)))] [(5, l 2)])
  (.cond (e 5) (.seq (.reg [] [(4, (v (.int .i64 210)))])
  .ret) (.seq (.reg [i (.load true 1 (e 2)), i (.load true 1 (e 3)), i (.call 195 [(l 0), (l 1)] false), i (.una .not (l 2))] [(6, l 3)])
  (.cond (e 6) (.seq (.reg [] [(4, (v (.int .i64 270)))])
  .ret) .skip)))))
  (.seq (.reg [] [(4, (v (.int .i64 0)))])
  .ret)))
def f_place_asked : AFunc := ⟨7, 2, .pure, [.env 4], b_place_asked⟩
def q_place_obeys_0 : ACode :=
  (.blk 1 (.seq (.reg [i (.fld 0 (e 2)), i (.load false 1 (l 0)), i (.fld 1 (e 5)), i (.load false 1 (l 2)), i (.idxs 3 (l 1) (l 3)), i (.load true 3 (l 4)), i (.fld 0 (e 3)), i (.load false 1 (l 6)), i (.len (l 7)), i (.call 121 [(l 5), (e 6), (l 8)] false)] [(7, l 9)])
  (.seq (.reg [i (.bin .gtr (e 7) (v (.int .i64 0))), g (l 0) true (.mov (e 7)), g (l 0) true (.fld 0 (e 5)), g (l 0) true (.load false 1 (l 2)), g (l 0) true (.bin .neq (l 1) (l 3)), i (.pick (l 0) (l 4) (v (.bool false)))] [(11, l 5)])
  (.cond (e 11) (.seq (.reg [i (.store 1 (e 4) (v (.bool false)))] [])
  .ret) .skip))))
def q_place_obeys_0p : ACode :=
  (.seq (.reg [i (.box 3 (v (.agg [.int .i64 0, .int .i64 0, .int .i64 0]))), i (.store 3 (l 0) (e 9))] [(5, l 0)])
  (.reg [] [(6, e 10)]))
def b_place_obeys : ACode :=
  (.seq (.reg [i (.box 1 (e 0)), i (.box 1 (e 1)), i (.box 1 (v (.bool false)))] [(2, l 0), (3, l 1), (4, l 2)])
  (.seq (.seq (.reg [i (.load true 1 (e 3)), i (.call 165 [(l 0)] false)] [(8, l 1)])
  (.blk 0 (.rng 12 (e 8) 120)))
  (.seq (.reg [i (.store 1 (e 4) (v (.bool true)))] [])
  .ret)))
def f_place_obeys : AFunc := ⟨12, 2, .pure, [.cell false 1 4], b_place_obeys⟩
def r_place_obeys_0 : ARound := ⟨12, [9, 10], q_place_obeys_0p, q_place_obeys_0⟩
def l_mean_run_all_1_0 : ACode :=
  (.seq (.reg [i (.bin .lss (e 10) (e 9))] [(11, l 0)])
  (.seq (.cond (e 11) .skip (.exit 2))
  (.seq (.blk 3 (.seq (.reg [i (.idxs 1 (e 8) (e 10)), i (.load false 1 (l 0))] [(4, l 1)])
  (.seq (.reg [i (.build [.int .i64 0, .int .i64 0] [(0, 1, (e 2)), (1, 1, (e 4))]), i (.callv (e 0) [(l 0)]), i (.una .not (l 1))] [(12, l 2)])
  (.cond (e 12) .ret .skip))))
  (.reg [i (.bin .add (e 10) (v (.int .i64 1)))] [(10, l 0)]))))
def l_mean_run_all_1_1 : ACode :=
  (.seq (.reg [i (.bin .lss (e 6) (e 5))] [(7, l 0)])
  (.seq (.cond (e 7) .skip (.exit 0))
  (.seq (.blk 1 (.seq (.reg [] [(2, e 6)])
  (.seq (.reg [i (.load false 1 (e 1)), i (.nilck (l 0)), i (.fld 0 (l 1)), i (.load true 1 (l 2)), i (.load false 1 (e 1)), i (.call 64 [(l 4)] false), i (.call 164 [(l 3), (e 2), (l 5)] false), i (.ext 0 (l 6)), i (.ext 1 (l 6))] [(3, l 7)])
  (.seq (.reg [i (.len (e 3))] [(8, e 3), (9, l 0), (10, (v (.int .i64 0)))])
  (.blk 2 (.loop [4, 11, 12] l_mean_run_all_1_0))))))
  (.reg [i (.bin .add (e 6) (v (.int .i64 1)))] [(6, l 0)]))))
def b_mean_run_all_1 : ACode :=
  (.seq (.reg [i (.load false 1 (e 1)), i (.nilck (l 0)), i (.fld 0 (l 1)), i (.fld 0 (l 2)), i (.load false 1 (l 3)), i (.len (l 4))] [(5, l 5), (6, (v (.int .i64 0)))])
  (.blk 0 (.loop [2, 3, 4, 7, 8, 9, 10, 11, 12] l_mean_run_all_1_1)))
def f_mean_run_all_1 : AFunc := ⟨13, 2, .keep, [], b_mean_run_all_1⟩
def b_plan_Places : ACode :=
  (.seq (.reg [i (.box 1 (e 0)), i (.mov (v (.nil0)))] [(3, l 0), (4, l 1), (5, (v (.int .i64 0)))])
  (.seq (.seq (.reg [i (.load true 1 (e 3)), i (.call 112 [(l 0), (e 1), (e 2)] false)] [(6, l 1)])
  (.seq (.reg [i (.bin .neq (e 6) (v (.int .i64 0)))] [(7, l 0)])
  (.cond (e 7) (.seq (.reg [i (.mov (v (.nil0)))] [(4, l 0), (5, e 6)])
  .ret) .skip)))
  (.seq (.reg [i (.fld 0 (e 3)), i (.load false 1 (l 0)), i (.idxs 4 (l 1) (e 1)), i (.load true 4 (l 2)), i (.call 38 [(l 3), (e 2)] false)] [(4, l 4), (5, (v (.int .i64 0)))])
  .ret)))
def f_plan_Places : AFunc := ⟨8, 3, .pure, [.env 4, .env 5], b_plan_Places⟩
def b_mean_run_nodes : ACode :=
  (.seq (.reg [] [(1, (v (.int .i64 0)))])
  (.seq (.reg [i (.nilck (e 0)), i (.fld 1 (l 0)), i (.fld 0 (l 1)), i (.load false 1 (l 2)), i (.len (l 3))] [(1, l 4)])
  .ret))
def f_mean_run_nodes : AFunc := ⟨2, 1, .pure, [.env 1], b_mean_run_nodes⟩
def l_mean_run_inputs_0 : ACode :=
  (.seq (.reg [i (.bin .lss (e 11) (e 10))] [(12, l 0)])
  (.seq (.cond (e 12) .skip (.exit 0))
  (.seq (.blk 1 (.seq (.reg [i (.idxs 3 (e 9) (e 11)), i (.load true 3 (l 0)), i (.box 3 (v (.agg [.int .i64 0, .int .i64 0, .int .i64 0]))), i (.store 3 (l 2) (l 1))] [(7, l 2)])
  (.seq (.regd [i (.nilck (e 0)), i (.fld 2 (l 0)), i (.load false 1 (l 1)), i (.fld 0 (e 7)), i (.load false 1 (l 3)), i (.fld 1 (e 7)), i (.load false 1 (l 5)), i (.build [.int .i64 0, .int .i64 0] [(0, 1, (l 4)), (1, 1, (l 6))]), i (.lookk [0, 0] (.agg [.bool false, .nil0, .int .i64 0, .nil0]) false (l 2) (l 7)), i (.box 4 (v (.agg [.bool false, .nil0, .int .i64 0, .nil0]))), i (.store 4 (l 9) (l 8))] [(8, l 9)] [(0, 10), (1, 10), (2, 10), (3, 10), (4, 10), (5, 10), (6, 10), (8, 10)])
  (.seq (.seq (.reg [i (.fld 0 (e 8)), i (.load false 1 (l 0)), i (.una .not (l 1)), g (l 2) false (.fld 2 (e 8)), g (l 2) false (.load false 1 (l 3)), g (l 2) false (.bin .neq (l 4) (v (.int .i64 0))), i (.pick (l 2) (v (.bool true)) (l 5))] [(13, l 6)])
  (.cond (e 13) (.seq (.reg [i (.mov (v (.nil0)))] [(3, l 0), (4, (v (.bool false)))])
  .ret) .skip))
  (.reg [i (.fld 0 (e 7)), i (.load false 1 (l 0)), i (.fld 0 (e 7)), i (.load false 1 (l 2)), i (.idxs 1 (e 5) (l 3)), i (.load false 1 (l 4)), i (.load true 3 (e 7)), i (.call 194 [(e 0), (l 6)] false), i (.mkl 1 [(l 5), (l 7)]), i (.call 193 [(l 8)] false), i (.idxs 1 (e 5) (l 1)), i (.store 1 (l 10) (l 9))] [])))))
  (.reg [i (.bin .add (e 11) (v (.int .i64 1)))] [(11, l 0)]))))
def b_mean_run_inputs : ACode :=
  (.seq (.reg [i (.box 2 (e 1)), i (.mov (v (.nil0)))] [(2, l 0), (3, l 1), (4, (v (.bool false)))])
  (.seq (.reg [i (.nilck (e 0)), i (.fld 0 (l 0)), i (.fld 0 (l 1)), i (.load false 1 (l 2)), i (.len (l 3)), i (.make 1 (.nil0) (l 4) (l 4))] [(5, l 5)])
  (.seq (.reg [i (.nilck (e 0)), i (.fld 0 (l 0)), i (.load true 1 (l 1)), i (.fld 0 (e 2)), i (.load false 1 (l 3)), i (.call 64 [(e 0)] false), i (.fld 1 (e 2)), i (.load false 1 (l 6)), i (.call 163 [(l 2), (l 4), (l 5), (l 7)] false), i (.ext 0 (l 8)), i (.ext 1 (l 8))] [(6, l 9)])
  (.seq (.seq (.reg [i (.len (e 6))] [(9, e 6), (10, l 0), (11, (v (.int .i64 0)))])
  (.blk 0 (.loop [3, 4, 7, 8, 12, 13] l_mean_run_inputs_0)))
  (.seq (.reg [] [(3, e 5), (4, (v (.bool true)))])
  .ret)))))
def f_mean_run_inputs : AFunc := ⟨14, 2, .pure, [.env 3, .env 4], b_mean_run_inputs⟩
def l_exec_Run_0 : ACode :=
  (.seq (.reg [i (.bin .lss (e 25) (e 24))] [(26, l 0)])
  (.seq (.cond (e 26) .skip (.exit 2))
  (.seq (.blk 3 (.seq (.reg [i (.idxs 12 (e 23) (e 25)), i (.load true 12 (l 0)), i (.box 12 (v (.agg [.int .i64 0, .int .i64 0, .int .i64 0, .int .i64 0, .nil0, .bool false, .nil0, .nil0, .nil0, .nil0, .nil0, .int .i64 0]))), i (.store 12 (l 2) (l 1))] [(13, l 2)])
  (.seq (.reg [i (.fld 0 (e 13)), i (.load false 1 (l 0)), i (.look (.nilf) false (e 11) (l 1)), i (.load true 12 (e 13)), i (.callv (l 2) [(e 8), (l 3)]), i (.ext 0 (l 4)), i (.ext 1 (l 4))] [(14, l 5), (15, l 6)])
  (.seq (.blk 4 (.seq (.reg [i (.bin .neq (e 15) (v (.int .i64 0)))] [(27, l 0)])
  (.cond (e 27) (.reg [] [(12, (v (.int .i64 140)))]) (.seq (.reg [i (.len (e 14)), i (.bin .gtr (l 0) (v (.int .i64 200)))] [(28, l 1)])
  (.cond (e 28) (.reg [] [(12, (v (.int .i64 300)))]) .skip)))))
  (.seq (.seq (.reg [i (.bin .neq (e 12) (v (.int .i64 0)))] [(29, l 0)])
  (.cond (e 29) (.exit 2) .skip))
  (.reg [i (.nilck (e 8)), i (.fld 7 (l 0)), i (.load false 1 (l 1)), i (.mkl 1 [(e 14)]), i (.app 1 (l 2) (l 3)), i (.nilck (e 8)), i (.fld 7 (l 5)), i (.store 1 (l 6) (l 4))] []))))))
  (.reg [i (.bin .add (e 25) (v (.int .i64 1)))] [(25, l 0)]))))
def l_exec_Run_1 : ACode :=
  (.seq (.reg [i (.bin .lss (e 19) (e 18))] [(20, l 0)])
  (.seq (.cond (e 20) .skip (.exit 0))
  (.seq (.blk 1 (.seq (.reg [i (.idxs 12 (e 17) (e 19)), i (.load true 12 (l 0)), i (.box 12 (v (.agg [.int .i64 0, .int .i64 0, .int .i64 0, .int .i64 0, .nil0, .bool false, .nil0, .nil0, .nil0, .nil0, .nil0, .int .i64 0]))), i (.store 12 (l 2) (l 1))] [(9, l 2)])
  (.seq (.seq (.reg [i (.fld 1 (e 9)), i (.load false 1 (l 0)), i (.bin .geq (l 1) (v (.int .i64 0)))] [(21, l 2)])
  (.cond (e 21) (.exit 1) .skip))
  (.seq (.reg [i (.load true 12 (e 9)), i (.call 82 [(e 8), (l 0)] false), i (.ext 0 (l 1)), i (.ext 1 (l 1))] [(10, l 3)])
  (.seq (.reg [i (.una .not (e 10))] [(22, l 0)])
  (.cond (e 22) (.seq (.reg [i (.mov (v (.nil0)))] [(4, l 0), (5, (v (.int .i64 2)))])
  .ret) .skip))))))
  (.reg [i (.bin .add (e 19) (v (.int .i64 1)))] [(19, l 0)]))))
def b_exec_Run : ACode :=
  (.seq (.reg [i (.box 4 (e 0)), i (.mov (v (.nil0)))] [(3, l 0), (4, l 1), (5, (v (.int .i64 0)))])
  (.scope (.seq (.reg [i (.fld 0 (e 3)), i (.load false 1 (l 0)), i (.call 63 [(l 1)] false), i (.ext 0 (l 2)), i (.ext 1 (l 2)), i (.ext 2 (l 2))] [(6, l 3), (7, l 5)])
  (.seq (.seq (.reg [i (.bin .neq (e 7) (v (.int .i64 0)))] [(16, l 0)])
  (.cond (e 16) (.seq (.reg [i (.mov (v (.nil0)))] [(4, l 0), (5, e 7)])
  .ret) .skip))
  (.seq (.reg [i (.load true 4 (e 3)), i (.build [.nil0, .int .i64 0, .int .i64 0, .nil0, .nil0, .nil0, .nil0, .nil0] [(0, 4, (l 0)), (4, 1, (e 1)), (5, 1, (e 2)), (6, 1, (e 6))]), i (.box 8 (l 1))] [(8, l 2)])
  (.seq (.seq (.lift 8 7 1 (.reg [i (.nilck (e 8)), i (.fld 0 (l 0)), i (.fld 0 (l 1)), i (.load false 1 (l 2)), i (.len (l 3))] [(17, l 3), (18, l 4), (19, (v (.int .i64 0)))]))
  (.blk 0 (.loop [4, 5, 9, 10, 20, 21, 22] l_exec_Run_1)))
  (.seq (.reg [i (.call 162 [] false)] [(11, l 0)])
  (.seq (.reg [] [(12, (v (.int .i64 0)))])
  (.seq (.seq (.reg [i (.nilck (e 8)), i (.fld 0 (l 0)), i (.fld 0 (l 1)), i (.load false 1 (l 2)), i (.len (l 3))] [(23, l 3), (24, l 4), (25, (v (.int .i64 0)))])
  (.blk 2 (.loop [13, 14, 15, 26, 27, 28, 29] l_exec_Run_0)))
  (.seq (.seq (.reg [i (.bin .neq (e 12) (v (.int .i64 0)))] [(30, l 0)])
  (.cond (e 30) (.seq (.reg [i (.mov (v (.nil0)))] [(4, l 0), (5, e 12)])
  .ret) .skip))
  (.seq (.reg [i (.nilck (e 8)), i (.fld 7 (l 0)), i (.load false 1 (l 1)), i (.nilck (e 8)), i (.fld 7 (l 3)), i (.load false 1 (l 4)), i (.len (l 5)), i (.bin .sub (l 6) (v (.int .i64 1))), i (.idxs 1 (l 2) (l 7)), i (.load false 1 (l 8))] [(4, l 9), (5, (v (.int .i64 0)))])
  .ret)))))))))))
def f_exec_Run : AFunc := ⟨31, 3, .pure, [.env 4, .env 5], b_exec_Run⟩
def b_mean_run_tables : ACode :=
  (.seq (.reg [i (.mov (v (.nil0)))] [(2, l 0)])
  (.seq (.seq (.reg [i (.bin .eql (e 1) (v (.int .i64 0)))] [(3, l 0)])
  (.cond (e 3) (.seq (.reg [i (.mov (v (.nil0)))] [(2, l 0)])
  .ret) .skip))
  (.seq (.reg [i (.nilck (e 0)), i (.fld 1 (l 0)), i (.fld 0 (l 1)), i (.load false 1 (l 2)), i (.bin .sub (e 1) (v (.int .i64 1))), i (.idxs 1 (l 3) (l 4)), i (.fld 0 (l 5)), i (.load false 1 (l 6))] [(2, l 7)])
  .ret)))
def f_mean_run_tables : AFunc := ⟨4, 2, .pure, [.env 2], b_mean_run_tables⟩
def l_exec_Goes_0 : ACode :=
  (.seq (.reg [i (.bin .lss (e 20) (e 19))] [(21, l 0)])
  (.seq (.cond (e 21) .skip (.exit 1))
  (.seq (.blk 2 (.seq (.reg [i (.idxs 1 (e 18) (e 20)), i (.load false 1 (l 0))] [(11, l 1)])
  (.seq (.reg [] [(12, (v (.int .u32 0)))])
  (.seq (.seq (.reg [i (.fld 3 (e 3)), i (.load false 1 (l 0)), i (.call 249 [(e 11), (l 1)] false), i (.ext 0 (l 2)), i (.ext 1 (l 2))] [(12, l 3), (7, l 4)])
  (.seq (.reg [i (.bin .neq (e 7) (v (.int .i64 0)))] [(22, l 0)])
  (.cond (e 22) (.seq (.reg [i (.mov (v (.nil0)))] [(4, l 0), (5, (v (.int .i64 2)))])
  .ret) .skip)))
  (.reg [i (.conv .u32 (e 2)), i (.bin .rem (e 12) (l 0)), i (.conv .u32 (e 2)), i (.bin .rem (e 12) (l 2)), i (.idxs 1 (e 10) (l 3)), i (.load false 1 (l 4)), i (.mkl 1 [(e 11)]), i (.app 1 (l 5) (l 6)), i (.idxs 1 (e 10) (l 1)), i (.store 1 (l 8) (l 7))] [])))))
  (.reg [i (.bin .add (e 20) (v (.int .i64 1)))] [(20, l 0)]))))
def b_exec_Goes : ACode :=
  (.seq (.reg [i (.box 4 (e 0)), i (.mov (v (.nil0)))] [(3, l 0), (4, l 1), (5, (v (.int .i64 0)))])
  (.seq (.reg [i (.fld 0 (e 3)), i (.load false 1 (l 0)), i (.call 63 [(l 1)] false), i (.ext 0 (l 2)), i (.ext 1 (l 2)), i (.ext 2 (l 2))] [(6, l 3), (7, l 5)])
  (.seq (.seq (.reg [i (.bin .neq (e 7) (v (.int .i64 0)))] [(13, l 0)])
  (.cond (e 13) (.seq (.reg [i (.mov (v (.nil0)))] [(4, l 0), (5, e 7)])
  .ret) .skip))
  (.seq (.reg [i (.len (e 6)), i (.bin .sub (l 0) (v (.int .i64 1))), i (.idxs 1 (e 6) (l 1)), i (.load false 1 (l 2)), i (.box 1 (v (.nil0))), i (.store 1 (l 4) (l 3))] [(8, l 4)])
  (.seq (.reg [i (.fld 3 (e 3)), i (.load false 1 (l 0)), i (.mkfn 251 [] [(e 8)]), i (.call 7 [(l 1), (l 2)] false)] [(9, l 3)])
  (.seq (.seq (.reg [g (e 9) false (.fld 3 (e 3)), g (e 9) false (.load false 1 (l 0)), g (e 9) false (.len (l 1)), g (e 9) false (.bin .gtr (l 2) (v (.int .i64 16))), i (.pick (e 9) (v (.bool true)) (l 3)), g (l 4) false (.fld 2 (e 3)), g (l 4) false (.load false 1 (l 5)), g (l 4) false (.bin .lss (l 6) (v (.int .i64 1))), i (.pick (l 4) (v (.bool true)) (l 7)), g (l 8) false (.fld 2 (e 3)), g (l 8) false (.load false 1 (l 9)), g (l 8) false (.bin .gtr (l 10) (v (.int .i64 4))), i (.pick (l 8) (v (.bool true)) (l 11)), g (l 12) false (.fld 2 (e 3)), g (l 12) false (.load false 1 (l 13)), g (l 12) false (.bin .eql (l 14) (v (.int .i64 1))), g (l 12) false (.fld 3 (e 3)), g (l 12) false (.load false 1 (l 16)), g (l 12) false (.len (l 17)), g (l 12) false (.bin .gtr (l 18) (v (.int .i64 0))), g (l 12) false (.eqb true (l 15) (l 19)), i (.pick (l 12) (v (.bool true)) (l 20))] [(14, l 21)])
  (.cond (e 14) (.seq (.reg [i (.mov (v (.nil0)))] [(4, l 0), (5, (v (.int .i64 291)))])
  .ret) .skip))
  (.seq (.seq (.reg [i (.bin .lss (e 2) (v (.int .i64 1))), g (l 0) false (.mov (e 2)), g (l 0) false (.bin .gtr (l 1) (v (.int .i64 8))), i (.pick (l 0) (v (.bool true)) (l 2)), g (l 3) false (.mov (e 1)), g (l 3) false (.load false 1 (e 8)), g (l 3) false (.call 62 [(l 4), (l 5)] false), g (l 3) false (.una .not (l 6)), i (.pick (l 3) (v (.bool true)) (l 7))] [(15, l 8)])
  (.cond (e 15) (.seq (.reg [i (.mov (v (.nil0)))] [(4, l 0), (5, (v (.int .i64 2)))])
  .ret) .skip))
  (.seq (.seq (.reg [i (.fld 2 (e 3)), i (.load false 1 (l 0))] [(16, l 1)])
  (.blk 0 (.seq (.reg [i (.bin .eql (e 16) (v (.int .i64 1)))] [(17, l 0)])
  (.cond (e 17) (.seq (.reg [i (.make 1 (.nil0) (e 2) (e 2))] [(10, l 0)])
  (.seq (.seq (.lift 10 999 1 (.reg [i (.len (e 1))] [(18, e 1), (19, l 0), (20, (v (.int .i64 0)))]))
  (.blk 1 (.loop [4, 5, 7, 11, 12, 21, 22] l_exec_Goes_0)))
  (.seq (.reg [] [(4, e 10), (5, (v (.int .i64 0)))])
  .ret))) (.seq (.reg [i (.bin .eql (e 16) (v (.int .i64 2)))] [(23, l 0)])
  (.cond (e 23) (.seq (.reg [i (.mkl 1 [(e 1)]), i (.call 250 [(l 0), (e 2)] false)] [(4, l 1), (5, (v (.int .i64 0)))])
  .ret) .skip))))))
  (.seq (.reg [i (.mkl 1 [(e 1)])] [(4, l 0), (5, (v (.int .i64 0)))])
  .ret)))))))))
def f_exec_Goes : AFunc := ⟨24, 3, .pure, [.env 4, .env 5], b_exec_Goes⟩
def l_logic_checker_all_1_0 : ACode :=
  (.seq (.reg [i (.bin .lss (e 12) (e 11))] [(13, l 0)])
  (.seq (.cond (e 13) .skip (.exit 0))
  (.seq (.blk 1 (.seq (.reg [i (.idxs 12 (e 10) (e 12)), i (.load true 12 (l 0)), i (.box 12 (v (.agg [.int .i64 0, .int .i64 0, .int .i64 0, .int .i64 0, .nil0, .bool false, .nil0, .nil0, .nil0, .nil0, .nil0, .int .i64 0]))), i (.store 12 (l 2) (l 1))] [(4, l 2), (3, e 12)])
  (.seq (.reg [i (.fld 0 (e 4)), i (.load false 1 (l 0)), i (.look (.nilf) true (e 2) (l 1)), i (.ext 0 (l 2)), i (.ext 1 (l 2))] [(5, l 3), (6, l 4)])
  (.seq (.reg [g (e 6) true (.load true 12 (e 4)), g (e 6) true (.call 60 [(l 0)] false), g (e 6) true (.call 59 [(l 1)] false), i (.pick (e 6) (l 2) (v (.bool false)))] [(7, l 3)])
  (.seq (.seq (.reg [] [(14, e 7)])
  (.cond (e 14) (.seq (.reg [] [(8, (v (.int .i64 0)))])
  (.seq (.reg [i (.load false 1 (e 1)), i (.call 61 [(l 0), (e 3)] false), i (.ext 0 (l 1)), i (.ext 1 (l 1))] [(8, l 2), (7, l 3)])
  (.regd [i (.load false 1 (e 1)), i (.load false 1 (e 1)), i (.nilck (l 1)), i (.fld 2 (l 2)), i (.load false 1 (l 3)), i (.mkl 1 [(e 8)]), i (.app 1 (l 4) (l 5)), i (.nilck (l 0)), i (.fld 2 (l 7)), i (.store 1 (l 8) (l 6))] [] [(0, 7)]))) .skip))
  (.seq (.reg [i (.mov (v (.nil0)))] [(9, l 0)])
  (.seq (.seq (.reg [] [(15, e 7)])
  (.cond (e 15) (.reg [i (.load true 12 (e 4)), i (.callv (e 5) [(l 0)]), i (.ext 0 (l 1)), i (.ext 1 (l 1))] [(9, l 2), (7, l 3)]) .skip))
  (.seq (.reg [g (e 7) true (.mov (e 9)), g (e 7) true (.len (l 0)), g (e 7) true (.bin .leq (l 1) (v (.int .i64 16))), i (.pick (e 7) (l 2) (v (.bool false)))] [(7, l 3)])
  (.seq (.regd [i (.load false 1 (e 1)), i (.load false 1 (e 1)), i (.nilck (l 1)), i (.fld 1 (l 2)), i (.load false 1 (l 3)), i (.mkl 1 [(e 9)]), i (.app 1 (l 4) (l 5)), i (.nilck (l 0)), i (.fld 1 (l 7)), i (.store 1 (l 8) (l 6))] [] [(0, 7)])
  (.seq (.reg [i (.callv (e 0) [(e 3), (e 7)]), i (.una .not (l 0)), g (l 1) false (.mov (e 7)), g (l 1) false (.una .not (l 2)), i (.pick (l 1) (v (.bool true)) (l 3))] [(16, l 4)])
  (.cond (e 16) .ret .skip)))))))))))
  (.reg [i (.bin .add (e 12) (v (.int .i64 1)))] [(12, l 0)]))))
def b_logic_checker_all_1 : ACode :=
  (.seq (.reg [i (.mkmap), i (.load false 1 (e 1)), i (.mkfn 111 [(l 1)] []), i (.mput (l 0) (v (.int .i64 1)) (l 2)), i (.load false 1 (e 1)), i (.mkfn 252 [(l 4)] []), i (.mput (l 0) (v (.int .i64 2)) (l 5)), i (.load false 1 (e 1)), i (.mkfn 253 [(l 7)] []), i (.mput (l 0) (v (.int .i64 3)) (l 8)), i (.load false 1 (e 1)), i (.mkfn 119 [(l 10)] []), i (.mput (l 0) (v (.int .i64 4)) (l 11)), i (.load false 1 (e 1)), i (.mkfn 254 [(l 13)] []), i (.mput (l 0) (v (.int .i64 5)) (l 14)), i (.load false 1 (e 1)), i (.mkfn 255 [(l 16)] []), i (.mput (l 0) (v (.int .i64 6)) (l 17)), i (.load false 1 (e 1)), i (.mkfn 256 [(l 19)] []), i (.mput (l 0) (v (.int .i64 7)) (l 20)), i (.load false 1 (e 1)), i (.mkfn 257 [(l 22)] []), i (.mput (l 0) (v (.int .i64 8)) (l 23))] [(2, l 0)])
  (.seq (.reg [i (.load false 1 (e 1)), i (.nilck (l 0)), i (.fld 0 (l 1)), i (.fld 0 (l 2)), i (.load false 1 (l 3)), i (.len (l 4))] [(10, l 4), (11, l 5), (12, (v (.int .i64 0)))])
  (.blk 0 (.loop [3, 4, 5, 6, 7, 8, 9, 13, 14, 15, 16] l_logic_checker_all_1_0))))
def f_logic_checker_all_1 : AFunc := ⟨17, 2, .keep, [], b_logic_checker_all_1⟩
def b_logic_checker_scan : ACode :=
  (.seq (.reg [i (.box 12 (e 1)), i (.mov (v (.nil0)))] [(2, l 0), (3, l 1), (4, (v (.bool false)))])
  (.seq (.reg [i (.mov (v (.fn 110 [] [])))] [(5, l 0)])
  (.seq (.reg [i (.fld 3 (e 2)), i (.load false 1 (l 0)), i (.bin .geq (l 1) (v (.int .i64 0))), g (l 2) true (.fld 3 (e 2)), g (l 2) true (.load false 1 (l 3)), g (l 2) true (.bin .lss (l 4) (v (.int .i64 4))), i (.pick (l 2) (l 5) (v (.bool false))), g (l 6) true (.fld 4 (e 2)), g (l 6) true (.load false 1 (l 7)), g (l 6) true (.len (l 8)), g (l 6) true (.bin .geq (l 9) (v (.int .i64 1))), i (.pick (l 6) (l 10) (v (.bool false))), g (l 11) true (.fld 4 (e 2)), g (l 11) true (.load false 1 (l 12)), g (l 11) true (.len (l 13)), g (l 11) true (.bin .leq (l 14) (v (.int .i64 4))), i (.pick (l 11) (l 15) (v (.bool false)))] [(6, l 16)])
  (.seq (.reg [i (.fld 4 (e 2)), i (.load false 1 (l 0)), g (e 6) true (.fld 4 (e 2)), g (e 6) true (.load false 1 (l 2)), g (e 6) true (.mov (e 5)), g (e 6) true (.call 7 [(l 3), (l 4)] false), g (e 6) true (.una .not (l 5)), i (.pick (e 6) (l 6) (v (.bool false)))] [(3, l 1), (4, l 7)])
  .ret))))
def f_logic_checker_scan : AFunc := ⟨7, 2, .keep, [.env 3, .env 4], b_logic_checker_scan⟩
def l_logic_checker_group_0 : ACode :=
  (.seq (.reg [i (.bin .lss (e 19) (e 18))] [(20, l 0)])
  (.seq (.cond (e 20) .skip (.exit 2))
  (.seq (.blk 3 (.seq (.reg [i (.idxs 2 (e 17) (e 19)), i (.load true 2 (l 0)), i (.box 2 (v (.agg [.int .i64 0, .nil0]))), i (.store 2 (l 2) (l 1))] [(9, l 2)])
  (.seq (.reg [i (.load true 2 (e 9)), i (.call 118 [(l 0), (e 5)] false), i (.ext 0 (l 1)), i (.ext 1 (l 1))] [(10, l 2), (11, l 3)])
  (.reg [i (.mkl 1 [(e 10)]), i (.app 1 (e 7) (l 0)), g (e 6) true (.mov (e 11)), i (.pick (e 6) (l 2) (v (.bool false)))] [(7, l 1), (6, l 3)]))))
  (.reg [i (.bin .add (e 19) (v (.int .i64 1)))] [(19, l 0)]))))
def l_logic_checker_group_1 : ACode :=
  (.seq (.reg [i (.bin .lss (e 15) (e 14))] [(16, l 0)])
  (.seq (.cond (e 16) .skip (.exit 0))
  (.seq (.blk 1 (.seq (.reg [i (.idxs 1 (e 13) (e 15)), i (.load false 1 (l 0))] [(8, l 1)])
  (.reg [i (.idxs 1 (e 5) (e 8)), i (.load false 1 (l 0)), i (.mkl 1 [(l 1)]), i (.app 1 (e 7) (l 2))] [(7, l 3)])))
  (.reg [i (.bin .add (e 15) (v (.int .i64 1)))] [(15, l 0)]))))
def b_logic_checker_group : ACode :=
  (.seq (.reg [i (.box 12 (e 1)), i (.mov (v (.nil0)))] [(2, l 0), (3, l 1), (4, (v (.bool false)))])
  (.seq (.reg [i (.nilck (e 0)), i (.fld 1 (l 0)), i (.load false 1 (l 1)), i (.fld 1 (e 2)), i (.load false 1 (l 3)), i (.idxs 1 (l 2) (l 4)), i (.load false 1 (l 5))] [(5, l 6)])
  (.seq (.reg [i (.fld 7 (e 2)), i (.load false 1 (l 0)), i (.len (l 1)), i (.bin .leq (l 2) (v (.int .i64 3))), g (l 3) true (.fld 8 (e 2)), g (l 3) true (.load false 1 (l 4)), g (l 3) true (.len (l 5)), g (l 3) true (.bin .leq (l 6) (v (.int .i64 12))), i (.pick (l 3) (l 7) (v (.bool false))), g (l 8) true (.fld 7 (e 2)), g (l 8) true (.load false 1 (l 9)), g (l 8) true (.len (l 10)), g (l 8) true (.fld 8 (e 2)), g (l 8) true (.load false 1 (l 12)), g (l 8) true (.len (l 13)), g (l 8) true (.bin .add (l 11) (l 14)), g (l 8) true (.bin .gtr (l 15) (v (.int .i64 0))), i (.pick (l 8) (l 16) (v (.bool false))), g (l 17) true (.fld 7 (e 2)), g (l 17) true (.load false 1 (l 18)), g (l 17) true (.mov (e 5)), g (l 17) true (.call 117 [(l 19), (l 20)] false), i (.pick (l 17) (l 21) (v (.bool false)))] [(6, l 22)])
  (.seq (.seq (.reg [i (.una .not (e 6))] [(12, l 0)])
  (.cond (e 12) (.seq (.reg [i (.mov (v (.nil0)))] [(3, l 0), (4, (v (.bool false)))])
  .ret) .skip))
  (.seq (.reg [i (.mknil 1)] [(7, l 0)])
  (.seq (.seq (.reg [i (.fld 7 (e 2)), i (.load false 1 (l 0)), i (.len (l 1))] [(13, l 1), (14, l 2), (15, (v (.int .i64 0)))])
  (.blk 0 (.loop [8, 16] l_logic_checker_group_1)))
  (.seq (.seq (.reg [i (.fld 8 (e 2)), i (.load false 1 (l 0)), i (.len (l 1))] [(17, l 1), (18, l 2), (19, (v (.int .i64 0)))])
  (.blk 2 (.loop [9, 10, 11, 20] l_logic_checker_group_0)))
  (.seq (.reg [] [(3, e 7), (4, e 6)])
  .ret))))))))
def f_logic_checker_group : AFunc := ⟨21, 2, .pure, [.env 3, .env 4], b_logic_checker_group⟩
def b_logic_zero : ACode :=
  (.seq (.reg [i (.box 12 (e 0))] [(1, l 0), (2, (v (.bool false)))])
  (.seq (.reg [i (.fld 3 (e 1)), i (.load false 1 (l 0)), i (.bin .eql (l 1) (v (.int .i64 0))), g (l 2) true (.fld 4 (e 1)), g (l 2) true (.load false 1 (l 3)), g (l 2) true (.len (l 4)), g (l 2) true (.bin .eql (l 5) (v (.int .i64 0))), i (.pick (l 2) (l 6) (v (.bool false))), g (l 7) true (.fld 5 (e 1)), g (l 7) true (.load false 1 (l 8)), g (l 7) true (.una .not (l 9)), i (.pick (l 7) (l 10) (v (.bool false))), g (l 11) true (.fld 6 (e 1)), g (l 11) true (.fld 0 (l 12)), g (l 11) true (.load false 1 (l 13)), g (l 11) true (.len (l 14)), g (l 11) true (.bin .eql (l 15) (v (.int .i64 0))), i (.pick (l 11) (l 16) (v (.bool false))), g (l 17) true (.fld 7 (e 1)), g (l 17) true (.load false 1 (l 18)), g (l 17) true (.len (l 19)), g (l 17) true (.bin .eql (l 20) (v (.int .i64 0))), i (.pick (l 17) (l 21) (v (.bool false))), g (l 22) true (.fld 8 (e 1)), g (l 22) true (.load false 1 (l 23)), g (l 22) true (.len (l 24)), g (l 22) true (.bin .eql (l 25) (v (.int .i64 0))), i (.pick (l 22) (l 26) (v (.bool false))), g (l 27) true (.fld 9 (e 1)), g (l 27) true (.load false 1 (l 28)), g (l 27) true (.len (l 29)), g (l 27) true (.bin .eql (l 30) (v (.int .i64 0))), i (.pick (l 27) (l 31) (v (.bool false))), g (l 32) true (.fld 10 (e 1)), g (l 32) true (.load false 1 (l 33)), g (l 32) true (.len (l 34)), g (l 32) true (.bin .eql (l 35) (v (.int .i64 0))), i (.pick (l 32) (l 36) (v (.bool false))), g (l 37) true (.fld 11 (e 1)), g (l 37) true (.load false 1 (l 38)), g (l 37) true (.bin .eql (l 39) (v (.int .i64 0))), i (.pick (l 37) (l 40) (v (.bool false)))] [(2, l 41)])
  .ret))
def f_logic_zero : AFunc := ⟨3, 1, .pure, [.env 2], b_logic_zero⟩
def b_logic_bare : ACode :=
  (.seq (.reg [i (.box 12 (e 0)), i (.box 12 (v (.agg [.int .i64 0, .int .i64 0, .int .i64 0, .int .i64 0, .nil0, .bool false, .nil0, .nil0, .nil0, .nil0, .nil0, .int .i64 0])))] [(1, l 0), (2, l 1)])
  (.seq (.seq (.reg [i (.fld 0 (e 1)), i (.load false 1 (l 0))] [(3, l 1)])
  (.blk 0 (.seq (.reg [i (.bin .eql (e 3) (v (.int .i64 1)))] [(4, l 0)])
  (.cond (e 4) (.reg [i (.fld 3 (e 1)), i (.store 1 (l 0) (v (.int .i64 0))), i (.fld 4 (e 1)), i (.store 1 (l 2) (v (.nil0)))] []) (.seq (.reg [i (.bin .eql (e 3) (v (.int .i64 2)))] [(5, l 0)])
  (.cond (e 5) (.reg [i (.build [.nil0] []), i (.fld 5 (e 1)), i (.store 1 (l 1) (v (.bool false))), i (.fld 6 (e 1)), i (.store 1 (l 3) (l 0))] []) (.seq (.reg [i (.bin .eql (e 3) (v (.int .i64 3)))] [(6, l 0)])
  (.cond (e 6) (.reg [i (.build [.nil0] []), i (.fld 6 (e 1)), i (.store 1 (l 1) (l 0))] []) (.seq (.reg [i (.bin .eql (e 3) (v (.int .i64 4)))] [(7, l 0)])
  (.cond (e 7) (.reg [i (.fld 7 (e 1)), i (.store 1 (l 0) (v (.nil0))), i (.fld 8 (e 1)), i (.store 1 (l 2) (v (.nil0)))] []) (.seq (.reg [i (.bin .eql (e 3) (v (.int .i64 5)))] [(8, l 0)])
  (.cond (e 8) (.reg [i (.fld 9 (e 1)), i (.store 1 (l 0) (v (.nil0)))] []) (.seq (.reg [i (.bin .eql (e 3) (v (.int .i64 8)))] [(9, l 0)])
  (.cond (e 9) (.reg [i (.fld 10 (e 1)), i (.store 1 (l 0) (v (.nil0))), i (.fld 11 (e 1)), i (.store 1 (l 2) (v (.int .i64 0)))] []) .skip))))))))))))))
  (.seq (.reg [i (.load true 12 (e 1)), i (.store 12 (e 2) (l 0))] [])
  .ret)))
def f_logic_bare : AFunc := ⟨10, 1, .keep, [.cell true 12 2], b_logic_bare⟩
def b_logic_checker_below : ACode :=
  (.seq (.reg [] [(2, (v (.int .i64 0))), (3, (v (.bool false)))])
  (.seq (.reg [i (.nilck (e 0)), i (.fld 0 (l 0)), i (.fld 0 (l 1)), i (.load false 1 (l 2)), i (.idxs 12 (l 3) (e 1)), i (.load true 12 (l 4)), i (.box 12 (v (.agg [.int .i64 0, .int .i64 0, .int .i64 0, .int .i64 0, .nil0, .bool false, .nil0, .nil0, .nil0, .nil0, .nil0, .int .i64 0]))), i (.store 12 (l 6) (l 5))] [(4, l 6)])
  (.seq (.seq (.reg [i (.fld 0 (e 4)), i (.load false 1 (l 0)), i (.call 57 [(l 1)] false)] [(5, l 2)])
  (.blk 0 (.seq (.reg [i (.bin .eql (e 5) (v (.int .i64 0)))] [(6, l 0)])
  (.cond (e 6) (.seq (.reg [i (.fld 1 (e 4)), i (.load false 1 (l 0)), i (.bin .eql (l 1) (v (.int .i64 (-1)))), g (l 2) true (.fld 2 (e 4)), g (l 2) true (.load false 1 (l 3)), g (l 2) true (.bin .eql (l 4) (v (.int .i64 (-1)))), i (.pick (l 2) (l 5) (v (.bool false)))] [(2, e 1), (3, l 6)])
  .ret) (.seq (.reg [i (.bin .eql (e 5) (v (.int .i64 1)))] [(7, l 0)])
  (.cond (e 7) (.seq (.seq (.reg [i (.fld 1 (e 4)), i (.load false 1 (l 0)), i (.bin .sub (e 1) (v (.int .i64 1))), i (.bin .neq (l 1) (l 2)), g (l 3) false (.fld 2 (e 4)), g (l 3) false (.load false 1 (l 4)), g (l 3) false (.bin .neq (l 5) (v (.int .i64 (-1)))), i (.pick (l 3) (v (.bool true)) (l 6)), g (l 7) false (.mov (e 1)), g (l 7) false (.bin .eql (l 8) (v (.int .i64 0))), i (.pick (l 7) (v (.bool true)) (l 9))] [(8, l 10)])
  (.cond (e 8) (.seq (.reg [] [(2, (v (.int .i64 0))), (3, (v (.bool false)))])
  .ret) .skip))
  (.seq (.reg [i (.nilck (e 0)), i (.fld 2 (l 0)), i (.load false 1 (l 1)), i (.fld 1 (e 4)), i (.load false 1 (l 3)), i (.idxs 1 (l 2) (l 4)), i (.load false 1 (l 5))] [(2, l 6), (3, (v (.bool true)))])
  .ret)) .skip))))))
  (.seq (.seq (.reg [i (.fld 2 (e 4)), i (.load false 1 (l 0)), i (.bin .sub (e 1) (v (.int .i64 1))), i (.bin .neq (l 1) (l 2)), g (l 3) false (.mov (e 1)), g (l 3) false (.bin .eql (l 4) (v (.int .i64 0))), i (.pick (l 3) (v (.bool true)) (l 5)), g (l 6) false (.fld 1 (e 4)), g (l 6) false (.load false 1 (l 7)), g (l 6) false (.mov (e 0)), g (l 6) false (.nilck (l 9)), g (l 6) false (.fld 2 (l 10)), g (l 6) false (.load false 1 (l 11)), g (l 6) false (.fld 2 (e 4)), g (l 6) false (.load false 1 (l 13)), g (l 6) false (.idxs 1 (l 12) (l 14)), g (l 6) false (.load false 1 (l 15)), g (l 6) false (.bin .sub (l 16) (v (.int .i64 1))), g (l 6) false (.bin .neq (l 8) (l 17)), i (.pick (l 6) (v (.bool true)) (l 18)), g (l 19) false (.fld 1 (e 4)), g (l 19) false (.load false 1 (l 20)), g (l 19) false (.bin .lss (l 21) (v (.int .i64 0))), i (.pick (l 19) (v (.bool true)) (l 22))] [(9, l 23)])
  (.cond (e 9) (.seq (.reg [] [(2, (v (.int .i64 0))), (3, (v (.bool false)))])
  .ret) .skip))
  (.seq (.reg [i (.nilck (e 0)), i (.fld 2 (l 0)), i (.load false 1 (l 1)), i (.fld 1 (e 4)), i (.load false 1 (l 3)), i (.idxs 1 (l 2) (l 4)), i (.load false 1 (l 5))] [(2, l 6), (3, (v (.bool true)))])
  .ret)))))
def f_logic_checker_below : AFunc := ⟨10, 2, .pure, [.env 2, .env 3], b_logic_checker_below⟩
def b_lex_small : ACode :=
  (.seq (.reg [] [(1, (v (.bool false)))])
  (.seq (.reg [i (.bin .geq (e 0) (v (.int .i32 97))), g (l 0) true (.mov (e 0)), g (l 0) true (.bin .leq (l 1) (v (.int .i32 122))), i (.pick (l 0) (l 2) (v (.bool false)))] [(1, l 3)])
  .ret))
def f_lex_small : AFunc := ⟨2, 1, .pure, [.env 1], b_lex_small⟩
def b_lex_IsWord : ACode :=
  (.seq (.reg [] [(1, (v (.bool false)))])
  (.seq (.reg [i (.aslice 28 (v (.cptr false (gl1) 0))), i (.call 28 [(l 0), (e 0)] false)] [(1, l 1)])
  .ret))
def f_lex_IsWord : AFunc := ⟨2, 1, .pure, [.env 1], b_lex_IsWord⟩
def b_lex_digit : ACode :=
  (.seq (.reg [] [(1, (v (.bool false)))])
  (.seq (.reg [i (.bin .geq (e 0) (v (.int .i32 48))), g (l 0) true (.mov (e 0)), g (l 0) true (.bin .leq (l 1) (v (.int .i32 57))), i (.pick (l 0) (l 2) (v (.bool false)))] [(1, l 3)])
  .ret))
def f_lex_digit : AFunc := ⟨2, 1, .pure, [.env 1], b_lex_digit⟩
def b_catalog_find_api_Column : ACode :=
  (.seq (.reg [i (.box 1 (e 1)), i (.box 1 (e 2))] [(3, l 0), (4, l 1), (5, (v (.int .i64 0))), (6, (v (.bool false)))])
  (.seq (.reg [i (.mkfn 109 [] [(e 3), (e 4)]), i (.call 108 [(e 0), (l 0)] false)] [(7, l 1)])
  (.seq (.reg [i (.maxs (e 7) [(v (.int .i64 0))]), i (.bin .geq (e 7) (v (.int .i64 0)))] [(5, l 0), (6, l 1)])
  .ret)))
def f_catalog_find_api_Column : AFunc := ⟨8, 3, .pure, [.env 5, .env 6], b_catalog_find_api_Column⟩
def b_catalog_find_api_Table_1 : ACode :=
  (.seq (.reg [i (.box 3 (e 0))] [(3, l 0), (4, (v (.bool false)))])
  (.seq (.regd [i (.load false 1 (e 1)), i (.load true 3 (e 3)), i (.callv (l 0) [(l 1)]), i (.load false 1 (e 2)), i (.bin .eql (l 2) (l 3))] [(4, l 4)] [(3, 0)])
  .ret))
def f_catalog_find_api_Table_1 : AFunc := ⟨5, 3, .pure, [.env 4], b_catalog_find_api_Table_1⟩
def b_slices_Clone_api_LNode_api_LNode : ACode :=
  (.seq (.reg [i (.mov (v (.nil0)))] [(1, l 0)])
  (.seq (.seq (.reg [i (.nils false (e 0))] [(2, l 0)])
  (.cond (e 2) (.seq (.reg [i (.mov (v (.nil0)))] [(1, l 0)])
  .ret) .skip))
  (.seq (.reg [i (.mknil 12), i (.app 12 (l 0) (e 0))] [(1, l 1)])
  .ret)))
def f_slices_Clone_api_LNode_api_LNode : AFunc := ⟨3, 1, .pure, [.env 1], b_slices_Clone_api_LNode_api_LNode⟩
def l_slices_Index_int_int_0 : ACode :=
  (.seq (.reg [i (.bin .lss (e 5) (e 4))] [(6, l 0)])
  (.seq (.cond (e 6) .skip (.exit 0))
  (.seq (.blk 1 (.seq (.reg [] [(3, e 5)])
  (.seq (.reg [i (.idxs 1 (e 0) (e 3)), i (.load false 1 (l 0)), i (.bin .eql (e 1) (l 1))] [(7, l 2)])
  (.cond (e 7) (.seq (.reg [] [(2, e 3)])
  .ret) .skip))))
  (.reg [i (.bin .add (e 5) (v (.int .i64 1)))] [(5, l 0)]))))
def b_slices_Index_int_int : ACode :=
  (.seq (.reg [] [(2, (v (.int .i64 0)))])
  (.seq (.seq (.reg [i (.len (e 0))] [(4, l 0), (5, (v (.int .i64 0)))])
  (.blk 0 (.loop [2, 3, 6, 7] l_slices_Index_int_int_0)))
  (.seq (.reg [] [(2, (v (.int .i64 (-1))))])
  .ret)))
def f_slices_Index_int_int : AFunc := ⟨8, 2, .pure, [.env 2], b_slices_Index_int_int⟩
def l_prop_Kinds_0 : ACode :=
  (.seq (.reg [i (.bin .lss (e 21) (e 20))] [(22, l 0)])
  (.seq (.cond (e 22) .skip (.exit 2))
  (.seq (.blk 3 (.seq (.reg [i (.idxs 1 (e 19) (e 21)), i (.load false 1 (l 0))] [(10, l 1)])
  (.reg [i (.call 3 [(e 10)] true), i (.mkl 1 [(l 0)]), i (.app 1 (e 9) (l 1))] [(9, l 2)])))
  (.reg [i (.bin .add (e 21) (v (.int .i64 1)))] [(21, l 0)]))))
def l_prop_Kinds_1 : ACode :=
  (.seq (.reg [i (.bin .lss (e 14) (e 13))] [(15, l 0)])
  (.seq (.cond (e 15) .skip (.exit 0))
  (.seq (.blk 1 (.seq (.reg [i (.idxs 12 (e 12) (e 14)), i (.load true 12 (l 0)), i (.box 12 (v (.agg [.int .i64 0, .int .i64 0, .int .i64 0, .int .i64 0, .nil0, .bool false, .nil0, .nil0, .nil0, .nil0, .nil0, .int .i64 0]))), i (.store 12 (l 2) (l 1))] [(8, l 2), (7, e 14)])
  (.seq (.reg [i (.fld 0 (e 8)), i (.load false 1 (l 0)), i (.look (.nilf) false (e 5) (l 1)), i (.call 20 [(e 4), (e 7), (l 2)] false), i (.una .not (l 3))] [(16, l 4)])
  (.cond (e 16) (.seq (.reg [] [(6, e 7)])
  (.exit 0)) .skip))))
  (.reg [i (.bin .add (e 14) (v (.int .i64 1)))] [(14, l 0)]))))
def b_prop_Kinds : ACode :=
  (.seq (.reg [i (.mov (v (.nil0)))] [(1, l 0), (2, (v (.int .i64 0))), (3, (v (.int .i64 0)))])
  (.scope (.seq (.seq (.reg [i (.len (e 0)), i (.bin .lss (l 0) (v (.int .i64 1))), g (l 1) false (.mov (e 0)), g (l 1) false (.len (l 2)), g (l 1) false (.bin .gtr (l 3) (v (.int .i64 60))), i (.pick (l 1) (v (.bool true)) (l 4))] [(11, l 5)])
  (.cond (e 11) (.seq (.reg [i (.mov (v (.nil0)))] [(1, l 0), (2, (v (.int .i64 0))), (3, (v (.int .i64 291)))])
  .ret) .skip))
  (.seq (.reg [i (.build [.nil0, .nil0, .nil0, .int .i64 0, .int .i64 0, .int .i64 0, .int .i64 0, .nil0, .bool false, .nil0, .nil0, .nil0, .nil0, .nil0, .int .i64 0, .nil0, .nil0, .nil0] [(0, 1, (e 0))]), i (.box 18 (l 0))] [(4, l 1)])
  (.seq (.lift 4 1 1 (.lift 4 2 1 (.reg [i (.call 69 [] false)] [(5, l 0)])))
  (.seq (.reg [] [(6, (v (.int .i64 (-1))))])
  (.seq (.seq (.reg [i (.len (e 0))] [(12, e 0), (13, l 0), (14, (v (.int .i64 0)))])
  (.blk 0 (.loop [7, 8, 15, 16] l_prop_Kinds_1)))
  (.seq (.seq (.reg [i (.bin .lss (e 6) (v (.int .i64 0))), g (l 0) true (.mov (e 4)), g (l 0) true (.nilck (l 1)), g (l 0) true (.fld 2 (l 2)), g (l 0) true (.load false 1 (l 3)), g (l 0) true (.len (l 4)), g (l 0) true (.bin .neq (l 5) (v (.int .i64 1))), i (.pick (l 0) (l 6) (v (.bool false)))] [(17, l 7)])
  (.cond (e 17) (.reg [i (.len (e 0)), i (.bin .sub (l 0) (v (.int .i64 1)))] [(6, l 1)]) .skip))
  (.seq (.seq (.reg [i (.bin .geq (e 6) (v (.int .i64 0)))] [(18, l 0)])
  (.cond (e 18) (.seq (.reg [i (.mov (v (.nil0)))] [(1, l 0), (2, e 6), (3, (v (.int .i64 291)))])
  .ret) .skip))
  (.seq (.reg [i (.mknil 1)] [(9, l 0)])
  (.seq (.seq (.reg [i (.nilck (e 4)), i (.fld 1 (l 0)), i (.load false 1 (l 1)), i (.len (l 2))] [(19, l 2), (20, l 3), (21, (v (.int .i64 0)))])
  (.blk 2 (.loop [10, 22] l_prop_Kinds_0)))
  (.seq (.reg [] [(1, e 9), (2, (v (.int .i64 0))), (3, (v (.int .i64 0)))])
  .ret))))))))))))
def f_prop_Kinds : AFunc := ⟨23, 1, .pure, [.env 1, .env 2, .env 3], b_prop_Kinds⟩
def b_prop_checker_frag : ACode :=
  (.seq (.reg [i (.box 1 (e 0)), i (.box 4 (e 1)), i (.box 1 (e 2))] [(3, l 0), (4, l 1), (5, l 2), (6, (v (.bool false)))])
  (.seq (.seq (.reg [i (.fld 1 (e 4)), i (.load false 1 (l 0)), i (.bin .neq (l 1) (v (.int .i64 1))), g (l 2) true (.fld 1 (e 4)), g (l 2) true (.load false 1 (l 3)), g (l 2) true (.bin .neq (l 4) (v (.int .i64 2))), i (.pick (l 2) (l 5) (v (.bool false))), g (l 6) false (.fld 2 (e 4)), g (l 6) false (.load false 1 (l 7)), g (l 6) false (.bin .lss (l 8) (v (.int .i64 1))), i (.pick (l 6) (v (.bool true)) (l 9)), g (l 10) false (.fld 2 (e 4)), g (l 10) false (.load false 1 (l 11)), g (l 10) false (.bin .gtr (l 12) (v (.int .i64 4))), i (.pick (l 10) (v (.bool true)) (l 13)), g (l 14) false (.fld 2 (e 4)), g (l 14) false (.load false 1 (l 15)), g (l 14) false (.bin .eql (l 16) (v (.int .i64 1))), g (l 14) false (.fld 3 (e 4)), g (l 14) false (.load false 1 (l 18)), g (l 14) false (.len (l 19)), g (l 14) false (.bin .gtr (l 20) (v (.int .i64 0))), g (l 14) false (.eqb true (l 17) (l 21)), i (.pick (l 14) (v (.bool true)) (l 22)), g (l 23) false (.fld 3 (e 4)), g (l 23) false (.load false 1 (l 24)), g (l 23) false (.len (l 25)), g (l 23) false (.bin .gtr (l 26) (v (.int .i64 16))), i (.pick (l 23) (v (.bool true)) (l 27))] [(7, l 28)])
  (.cond (e 7) (.seq (.reg [] [(6, (v (.bool false)))])
  .ret) .skip))
  (.seq (.seq (.reg [i (.fld 3 (e 4)), i (.load false 1 (l 0)), i (.mkfn 264 [] [(e 5)]), i (.call 7 [(l 1), (l 2)] false)] [(8, l 3)])
  (.cond (e 8) (.seq (.reg [] [(6, (v (.bool false)))])
  .ret) .skip))
  (.seq (.reg [i (.fld 0 (e 4)), i (.load false 1 (l 0)), i (.mkfn 116 [] [(e 4), (e 3)]), i (.call 192 [(l 1), (l 2)] false), i (.una .not (l 3))] [(6, l 4)])
  .ret))))
def f_prop_checker_frag : AFunc := ⟨9, 3, .pure, [.env 6], b_prop_checker_frag⟩
def q_prop_checker_reads_0 : ACode :=
  (.blk 3 (.seq (.reg [i (.load false 1 (e 6)), i (.bin .add (l 0) (v (.int .i64 1))), i (.store 1 (e 6) (l 1))] [])
  (.reg [i (.load false 1 (e 2)), i (.nilck (l 0)), i (.fld 0 (l 1)), i (.fld 0 (l 2)), i (.load false 1 (l 3)), i (.idxs 4 (l 4) (e 8)), i (.fld 1 (l 5)), i (.load false 1 (l 6)), i (.bin .eql (l 7) (v (.int .i64 2))), i (.store 1 (e 7) (l 8))] [])))
def q_prop_checker_reads_0p : ACode :=
  (.reg [] [(8, e 15)])
def l_prop_checker_reads_0 : ACode :=
  (.seq (.reg [i (.bin .lss (e 11) (e 10))] [(12, l 0)])
  (.seq (.cond (e 12) .skip (.exit 0))
  (.seq (.blk 1 (.seq (.reg [i (.idxs 12 (e 9) (e 11)), i (.load true 12 (l 0)), i (.box 12 (v (.agg [.int .i64 0, .int .i64 0, .int .i64 0, .int .i64 0, .nil0, .bool false, .nil0, .nil0, .nil0, .nil0, .nil0, .int .i64 0]))), i (.store 12 (l 2) (l 1))] [(5, l 2)])
  (.seq (.reg [i (.fld 0 (e 5)), i (.load false 1 (l 0)), i (.bin .eql (l 1) (v (.int .i64 9))), g (l 2) true (.fld 3 (e 5)), g (l 2) true (.load false 1 (l 3)), g (l 2) true (.mov (e 1)), g (l 2) true (.bin .geq (l 4) (l 5)), g (l 2) true (.mov (l 6)), g (l 7) false (.fld 4 (e 5)), g (l 7) false (.load false 1 (l 8)), g (l 7) false (.load false 1 (e 2)), g (l 7) false (.fld 3 (e 5)), g (l 7) false (.load false 1 (l 11)), g (l 7) false (.call 191 [(l 10), (l 12)] false), g (l 7) false (.call 173 [(l 9), (l 13)] false), g (l 7) false (.una .not (l 14)), g (l 2) true (.pick (l 7) (v (.bool true)) (l 15)), i (.pick (l 2) (l 16) (v (.bool false)))] [(13, l 17)])
  (.cond (e 13) (.seq (.reg [] [(3, (v (.bool false)))])
  .ret) .skip))))
  (.reg [i (.bin .add (e 11) (v (.int .i64 1)))] [(11, l 0)]))))
def b_prop_checker_reads : ACode :=
  (.seq (.reg [i (.box 1 (e 0))] [(2, l 0), (3, (v (.bool false)))])
  (.seq (.reg [i (.load false 1 (e 2)), i (.nilck (l 0)), i (.fld 0 (l 1)), i (.fld 0 (l 2)), i (.load false 1 (l 3)), i (.idxs 4 (l 4) (e 1)), i (.load true 4 (l 5)), i (.box 4 (v (.agg [.nil0, .int .i64 0, .int .i64 0, .nil0]))), i (.store 4 (l 7) (l 6))] [(4, l 7)])
  (.seq (.seq (.reg [i (.fld 0 (e 4)), i (.load false 1 (l 0)), i (.len (l 1))] [(9, l 1), (10, l 2), (11, (v (.int .i64 0)))])
  (.blk 0 (.loop [5, 12, 13] l_prop_checker_reads_0)))
  (.seq (.reg [i (.box 1 (v (.int .i64 0))), i (.box 1 (v (.bool false))), i (.store 1 (l 0) (v (.int .i64 0))), i (.store 1 (l 1) (v (.bool false)))] [(6, l 0), (7, l 1)])
  (.seq (.seq (.reg [i (.load false 1 (e 2)), i (.nilck (l 0)), i (.fld 0 (l 1)), i (.load true 1 (l 2)), i (.call 68 [(l 3), (e 1)] false)] [(14, l 4)])
  (.blk 2 (.rng 18 (e 14) 225)))
  (.seq (.seq (.reg [i (.load false 1 (e 2)), i (.nilck (l 0)), i (.fld 0 (l 1)), i (.fld 0 (l 2)), i (.load false 1 (l 3)), i (.len (l 4)), i (.bin .sub (l 5) (v (.int .i64 1))), i (.bin .eql (e 1) (l 6))] [(17, l 7)])
  (.cond (e 17) (.seq (.reg [i (.fld 2 (e 4)), i (.load false 1 (l 0)), i (.bin .eql (l 1) (v (.int .i64 4))), g (l 2) true (.fld 1 (e 4)), g (l 2) true (.load false 1 (l 3)), g (l 2) true (.bin .eql (l 4) (v (.int .i64 2))), i (.pick (l 2) (l 5) (v (.bool false))), g (l 6) true (.load false 1 (e 6)), g (l 6) true (.bin .eql (l 7) (v (.int .i64 0))), i (.pick (l 6) (l 8) (v (.bool false))), g (l 9) true (.load false 1 (e 2)), g (l 9) true (.mov (e 1)), g (l 9) true (.call 191 [(l 10), (l 11)] false), g (l 9) true (.call 81 [(l 12), (v (.int .i64 4))] false), g (l 9) true (.una .not (l 13)), i (.pick (l 9) (l 14) (v (.bool false)))] [(3, l 15)])
  .ret) .skip))
  (.seq (.reg [i (.fld 2 (e 4)), i (.load false 1 (l 0)), i (.bin .neq (l 1) (v (.int .i64 4))), g (l 2) true (.load false 1 (e 6)), g (l 2) true (.bin .eql (l 3) (v (.int .i64 1))), i (.pick (l 2) (l 4) (v (.bool false))), g (l 5) true (.fld 2 (e 4)), g (l 5) true (.load false 1 (l 6)), g (l 5) true (.bin .eql (l 7) (v (.int .i64 3))), g (l 5) true (.load false 1 (e 7)), g (l 5) true (.eqb false (l 8) (l 9)), i (.pick (l 5) (l 10) (v (.bool false)))] [(3, l 11)])
  .ret)))))))
def f_prop_checker_reads : AFunc := ⟨18, 2, .pure, [.env 3], b_prop_checker_reads⟩
def r_prop_checker_reads_0 : ARound := ⟨18, [15, 16], q_prop_checker_reads_0p, q_prop_checker_reads_0⟩
def q_place_right_0 : ACode :=
  (.blk 3 (.seq (.reg [i (.load false 1 (e 6)), i (.fld 1 (e 7)), i (.load false 1 (l 1)), i (.look (.int .i64 0) false (l 0) (l 2)), i (.bin .add (l 3) (v (.int .i64 1))), i (.mput (l 0) (l 2) (l 4))] [])
  (.seq (.reg [i (.load false 1 (e 6)), i (.fld 1 (e 7)), i (.load false 1 (l 1)), i (.look (.int .i64 0) false (l 0) (l 2)), i (.bin .gtr (l 3) (v (.int .i64 12)))] [(17, l 4)])
  (.cond (e 17) (.seq (.reg [i (.store 1 (e 4) (v (.bool false)))] [])
  .ret) .skip))))
def q_place_right_0p : ACode :=
  (.reg [i (.box 3 (v (.agg [.int .i64 0, .int .i64 0, .int .i64 0]))), i (.store 3 (l 0) (e 15))] [(7, l 0)])
def l_place_right_0 : ACode :=
  (.seq (.reg [i (.bin .lss (e 11) (e 10))] [(12, l 0)])
  (.seq (.cond (e 12) .skip (.exit 0))
  (.seq (.blk 1 (.seq (.reg [i (.idxs 1 (e 9) (e 11)), i (.load true 1 (l 0)), i (.box 1 (v (.agg [.nil0]))), i (.store 1 (l 2) (l 1))] [(5, l 2)])
  (.seq (.reg [i (.load true 1 (e 2)), i (.load true 1 (e 5)), i (.call 190 [(l 0), (l 1)] false), i (.bin .neq (l 2) (v (.int .i64 0)))] [(13, l 3)])
  (.cond (e 13) (.seq (.reg [i (.store 1 (e 4) (v (.bool false)))] [])
  .ret) .skip))))
  (.reg [i (.bin .add (e 11) (v (.int .i64 1)))] [(11, l 0)]))))
def b_place_right : ACode :=
  (.seq (.reg [i (.box 1 (e 0)), i (.box 1 (e 1)), i (.box 1 (v (.bool false)))] [(2, l 0), (3, l 1), (4, l 2)])
  (.seq (.seq (.reg [i (.fld 0 (e 3)), i (.load false 1 (l 0)), i (.len (l 1)), i (.bin .lss (l 2) (v (.int .i64 1))), g (l 3) false (.fld 0 (e 3)), g (l 3) false (.load false 1 (l 4)), g (l 3) false (.len (l 5)), g (l 3) false (.bin .gtr (l 6) (v (.int .i64 8))), i (.pick (l 3) (v (.bool true)) (l 7))] [(8, l 8)])
  (.cond (e 8) (.seq (.reg [i (.store 1 (e 4) (v (.bool false)))] [])
  .ret) .skip))
  (.seq (.seq (.reg [i (.fld 0 (e 3)), i (.load false 1 (l 0)), i (.len (l 1))] [(9, l 1), (10, l 2), (11, (v (.int .i64 0)))])
  (.blk 0 (.loop [5, 12, 13] l_place_right_0)))
  (.seq (.reg [i (.mkmap), i (.box 1 (v (.nilm))), i (.store 1 (l 1) (l 0))] [(6, l 1)])
  (.seq (.seq (.reg [i (.load true 1 (e 3)), i (.call 165 [(l 0)] false)] [(14, l 1)])
  (.blk 2 (.rng 18 (e 14) 160)))
  (.seq (.reg [i (.store 1 (e 4) (v (.bool true)))] [])
  .ret))))))
def f_place_right : AFunc := ⟨18, 2, .pure, [.cell false 1 4], b_place_right⟩
def r_place_right_0 : ARound := ⟨18, [15, 16], q_place_right_0p, q_place_right_0⟩
def b_place_all : ACode :=
  (.seq (.reg [i (.box 1 (e 0))] [(1, l 0), (2, (v (.nilf)))])
  (.seq (.reg [i (.mkfn 189 [] [(e 1)])] [(2, l 0)])
  .ret))
def f_place_all : AFunc := ⟨3, 1, .pure, [.env 2], b_place_all⟩
def b_place_home : ACode :=
  (.seq (.reg [i (.box 3 (e 0))] [(3, l 0), (4, (v (.int .i64 0)))])
  (.seq (.seq (.reg [i (.fld 2 (e 3)), i (.load false 1 (l 0)), i (.len (l 1)), i (.bin .eql (l 2) (v (.int .i64 0)))] [(6, l 3)])
  (.cond (e 6) (.seq (.reg [] [(4, (v (.int .i64 0)))])
  .ret) .skip))
  (.seq (.reg [i (.fld 2 (e 3)), i (.load false 1 (l 0)), i (.call 249 [(e 1), (l 1)] false), i (.ext 0 (l 2)), i (.ext 1 (l 2))] [(5, l 3)])
  (.seq (.reg [i (.conv .u32 (e 2)), i (.bin .rem (e 5) (l 0)), i (.conv .i64 (l 1)), i (.bin .add (l 2) (v (.int .i64 1)))] [(4, l 3)])
  .ret))))
def f_place_home : AFunc := ⟨7, 3, .pure, [.env 4], b_place_home⟩
def b_plan_asked : ACode :=
  (.seq (.reg [i (.box 1 (e 0))] [(3, l 0), (4, (v (.int .i64 0)))])
  (.seq (.seq (.reg [i (.fld 0 (e 3)), i (.load false 1 (l 0)), i (.len (l 1)), i (.bin .gtr (l 2) (v (.int .i64 30))), g (l 3) false (.mov (e 1)), g (l 3) false (.bin .lss (l 4) (v (.int .i64 0))), i (.pick (l 3) (v (.bool true)) (l 5)), g (l 6) false (.mov (e 1)), g (l 6) false (.fld 0 (e 3)), g (l 6) false (.load false 1 (l 8)), g (l 6) false (.len (l 9)), g (l 6) false (.bin .geq (l 7) (l 10)), i (.pick (l 6) (v (.bool true)) (l 11)), g (l 12) false (.mov (e 2)), g (l 12) false (.bin .lss (l 13) (v (.int .i64 1))), i (.pick (l 12) (v (.bool true)) (l 14)), g (l 15) false (.mov (e 2)), g (l 15) false (.bin .gtr (l 16) (v (.int .i64 8))), i (.pick (l 15) (v (.bool true)) (l 17))] [(5, l 18)])
  (.cond (e 5) (.seq (.reg [] [(4, (v (.int .i64 2)))])
  .ret) .skip))
  (.seq (.reg [] [(4, (v (.int .i64 0)))])
  .ret)))
def f_plan_asked : AFunc := ⟨6, 3, .pure, [.env 4], b_plan_asked⟩
def b_plan_sites : ACode :=
  (.seq (.reg [i (.box 4 (e 0)), i (.mov (v (.nil0)))] [(2, l 0), (3, l 1)])
  (.seq (.seq (.reg [i (.fld 1 (e 2)), i (.load false 1 (l 0)), i (.bin .eql (l 1) (v (.int .i64 2)))] [(4, l 2)])
  (.cond (e 4) (.seq (.reg [i (.mkl 1 [(v (.int .i64 0))])] [(3, l 0)])
  .ret) .skip))
  (.seq (.reg [i (.bin .add (e 1) (v (.int .i64 1))), i (.call 86 [(l 0)] false), i (.slice 1 (l 1) (some (v (.int .i64 1))) none)] [(3, l 2)])
  .ret)))
def f_plan_sites : AFunc := ⟨5, 2, .pure, [.env 3], b_plan_sites⟩
def b_plan_Into : ACode :=
  (.seq (.reg [i (.box 1 (e 0)), i (.box 1 (e 1)), i (.box 1 (e 3)), i (.mov (v (.nil0)))] [(4, l 0), (5, l 1), (6, l 2), (7, l 3), (8, (v (.int .i64 0)))])
  (.seq (.seq (.reg [i (.load true 1 (e 4)), i (.load false 1 (e 5)), i (.call 112 [(l 0), (l 1), (e 2)] false)] [(9, l 2)])
  (.seq (.reg [i (.bin .neq (e 9) (v (.int .i64 0)))] [(10, l 0)])
  (.cond (e 10) (.seq (.reg [i (.mov (v (.nil0)))] [(7, l 0), (8, e 9)])
  .ret) .skip)))
  (.seq (.reg [i (.load true 1 (e 4)), i (.mkfn 80 [] [(e 5), (e 6)]), i (.call 159 [(l 0), (e 2), (l 1)] false)] [(7, l 2), (8, (v (.int .i64 0)))])
  .ret)))
def f_plan_Into : AFunc := ⟨11, 4, .pure, [.env 7, .env 8], b_plan_Into⟩
def b_mean_merged : ACode :=
  (.seq (.reg [i (.mov (v (.nil0)))] [(1, l 0)])
  (.seq (.reg [i (.call 187 [(e 0)] false), i (.ext 0 (l 0)), i (.ext 1 (l 0))] [(2, l 1)])
  (.seq (.reg [] [(1, e 2)])
  .ret)))
def f_mean_merged : AFunc := ⟨3, 1, .pure, [.env 1], b_mean_merged⟩
def b_mean_run_on : ACode :=
  (.seq (.reg [i (.box 3 (e 1)), i (.mov (v (.nil0)))] [(2, l 0), (3, l 1)])
  (.seq (.regd [i (.nilck (e 0)), i (.fld 2 (l 0)), i (.load false 1 (l 1)), i (.fld 0 (e 2)), i (.load false 1 (l 3)), i (.fld 1 (e 2)), i (.load false 1 (l 5)), i (.build [.int .i64 0, .int .i64 0] [(0, 1, (l 4)), (1, 1, (l 6))]), i (.lookk [0, 0] (.agg [.bool false, .nil0, .int .i64 0, .nil0]) false (l 2) (l 7)), i (.box 4 (v (.agg [.bool false, .nil0, .int .i64 0, .nil0]))), i (.store 4 (l 9) (l 8))] [(4, l 9)] [(0, 10), (1, 10), (2, 10), (3, 10), (4, 10), (5, 10), (6, 10), (8, 10)])
  (.seq (.reg [i (.fld 2 (e 2)), i (.load false 1 (l 0)), i (.bin .sub (l 1) (v (.int .i64 1))), i (.maxs (l 2) [(v (.int .i64 0))])] [(5, l 3)])
  (.seq (.seq (.reg [i (.fld 3 (e 4)), i (.load false 1 (l 0)), i (.len (l 1)), i (.bin .geq (e 5) (l 2))] [(6, l 3)])
  (.cond (e 6) (.seq (.reg [i (.mov (v (.nil0)))] [(3, l 0)])
  .ret) .skip))
  (.seq (.reg [i (.fld 3 (e 4)), i (.load false 1 (l 0)), i (.idxs 1 (l 1) (e 5)), i (.load false 1 (l 2))] [(3, l 3)])
  .ret)))))
def f_mean_run_on : AFunc := ⟨7, 2, .pure, [.env 3], b_mean_run_on⟩
def b_exec_run_handed : ACode :=
  (.seq (.reg [i (.box 12 (e 1)), i (.mov (v (.nil0)))] [(2, l 0), (3, l 1), (4, (v (.bool false)))])
  (.seq (.reg [i (.nilck (e 0)), i (.fld 4 (l 0)), i (.load false 1 (l 1))] [(5, l 2)])
  (.seq (.seq (.reg [i (.fld 0 (e 2)), i (.load false 1 (l 0)), i (.bin .eql (l 1) (v (.int .i64 9)))] [(6, l 2)])
  (.cond (e 6) (.reg [i (.nilck (e 0)), i (.fld 5 (l 0)), i (.load false 1 (l 1))] [(5, l 2)]) .skip))
  (.seq (.seq (.reg [i (.fld 3 (e 2)), i (.load false 1 (l 0)), i (.len (e 5)), i (.bin .geq (l 1) (l 2)), g (l 3) false (.mov (e 5)), g (l 3) false (.fld 3 (e 2)), g (l 3) false (.load false 1 (l 5)), g (l 3) false (.idxs 1 (l 4) (l 6)), g (l 3) false (.load false 1 (l 7)), g (l 3) false (.fld 4 (e 2)), g (l 3) false (.load false 1 (l 9)), g (l 3) false (.call 62 [(l 8), (l 10)] false), g (l 3) false (.una .not (l 11)), i (.pick (l 3) (v (.bool true)) (l 12))] [(7, l 13)])
  (.cond (e 7) (.seq (.reg [i (.mov (v (.nil0)))] [(3, l 0), (4, (v (.bool false)))])
  .ret) .skip))
  (.seq (.reg [i (.fld 3 (e 2)), i (.load false 1 (l 0)), i (.idxs 1 (e 5) (l 1)), i (.load false 1 (l 2))] [(3, l 3), (4, (v (.bool true)))])
  .ret)))))
def f_exec_run_handed : AFunc := ⟨8, 2, .keep, [.env 3, .env 4], b_exec_run_handed⟩
def b_exec_does : ACode :=
  (.seq (.reg [] [(0, (v (.nilm)))])
  (.seq (.reg [i (.mkmap), i (.mput (l 0) (v (.int .i64 1)) (v (.fn 158 [] []))), i (.mput (l 0) (v (.int .i64 9)) (v (.fn 158 [] []))), i (.mput (l 0) (v (.int .i64 2)) (v (.fn 265 [] []))), i (.mput (l 0) (v (.int .i64 3)) (v (.fn 266 [] []))), i (.mput (l 0) (v (.int .i64 5)) (v (.fn 267 [] []))), i (.mput (l 0) (v (.int .i64 4)) (v (.fn 268 [] []))), i (.mput (l 0) (v (.int .i64 10)) (v (.fn 186 [] []))), i (.mput (l 0) (v (.int .i64 11)) (v (.fn 224 [] []))), i (.mput (l 0) (v (.int .i64 6)) (v (.fn 269 [] []))), i (.mput (l 0) (v (.int .i64 7)) (v (.fn 270 [] []))), i (.mput (l 0) (v (.int .i64 8)) (v (.fn 271 [] [])))] [(0, l 0)])
  .ret))
def f_exec_does : AFunc := ⟨1, 0, .pure, [.env 0], b_exec_does⟩
def b_slices_ContainsFunc_int_int : ACode :=
  (.seq (.reg [] [(2, (v (.bool false)))])
  (.seq (.reg [i (.call 6 [(e 0), (e 1)] false), i (.bin .geq (l 0) (v (.int .i64 0)))] [(2, l 1)])
  .ret))
def f_slices_ContainsFunc_int_int : AFunc := ⟨3, 2, .pure, [.env 2], b_slices_ContainsFunc_int_int⟩
def b_exec_fit : ACode :=
  (.seq (.reg [i (.box 1 (e 1))] [(2, l 0), (3, (v (.bool false)))])
  (.seq (.seq (.reg [i (.len (e 0)), i (.bin .gtr (l 0) (v (.int .i64 8000)))] [(4, l 1)])
  (.cond (e 4) (.seq (.reg [] [(3, (v (.bool false)))])
  .ret) .skip))
  (.seq (.reg [i (.mkfn 32 [] [(e 2)]), i (.call 56 [(e 0), (l 0)] false), i (.una .not (l 1))] [(3, l 2)])
  .ret)))
def f_exec_fit : AFunc := ⟨5, 2, .pure, [.env 3], b_exec_fit⟩
def b_logic_checker_scan_1 : ACode :=
  (.seq (.reg [] [(1, (v (.bool false)))])
  (.seq (.reg [i (.call 107 [(e 0)] false), i (.una .not (l 0))] [(1, l 1)])
  .ret))
def f_logic_checker_scan_1 : AFunc := ⟨2, 1, .pure, [.env 1], b_logic_checker_scan_1⟩
def b_logic_plain : ACode :=
  (.seq (.reg [] [(1, (v (.bool false)))])
  (.seq (.reg [i (.bin .eql (e 0) (v (.int .i64 1))), g (l 0) false (.mov (e 0)), g (l 0) false (.bin .eql (l 1) (v (.int .i64 2))), i (.pick (l 0) (v (.bool true)) (l 2)), g (l 3) false (.mov (e 0)), g (l 3) false (.bin .eql (l 4) (v (.int .i64 3))), i (.pick (l 3) (v (.bool true)) (l 5))] [(1, l 6)])
  .ret))
def f_logic_plain : AFunc := ⟨2, 1, .pure, [.env 1], b_logic_plain⟩
def b_logic_places : ACode :=
  (.seq (.reg [i (.box 1 (e 1))] [(2, l 0), (3, (v (.bool false)))])
  (.seq (.reg [i (.mkfn 276 [] [(e 2)]), i (.call 7 [(e 0), (l 0)] false), i (.una .not (l 1))] [(3, l 2)])
  .ret))
def f_logic_places : AFunc := ⟨4, 2, .pure, [.env 3], b_logic_places⟩
def b_logic_agg : ACode :=
  (.seq (.reg [i (.box 2 (e 0))] [(2, l 0), (3, (v (.int .i64 0))), (4, (v (.bool false)))])
  (.seq (.seq (.reg [i (.fld 0 (e 2)), i (.load false 1 (l 0)), i (.bin .eql (l 1) (v (.int .i64 1)))] [(7, l 2)])
  (.cond (e 7) (.seq (.reg [i (.fld 1 (e 2)), i (.fld 0 (l 0)), i (.load false 1 (l 1)), i (.len (l 2)), i (.bin .eql (l 3) (v (.int .i64 0)))] [(3, (v (.int .i64 2))), (4, l 4)])
  .ret) .skip))
  (.seq (.reg [i (.fld 1 (e 2)), i (.load true 1 (l 0)), i (.call 58 [(l 1), (e 1)] false), i (.ext 0 (l 2)), i (.ext 1 (l 2))] [(5, l 3), (6, l 4)])
  (.seq (.seq (.reg [i (.fld 0 (e 2)), i (.load false 1 (l 0))] [(8, l 1)])
  (.blk 0 (.seq (.reg [i (.bin .eql (e 8) (v (.int .i64 2)))] [(9, l 0)])
  (.cond (e 9) (.seq (.reg [i (.bin .eql (e 6) (v (.int .i64 0)))] [(3, (v (.int .i64 2))), (4, l 0)])
  .ret) (.seq (.reg [i (.bin .eql (e 8) (v (.int .i64 3)))] [(10, l 0)])
  (.cond (e 10) (.seq (.reg [i (.bin .eql (e 6) (v (.int .i64 0))), g (l 0) true (.mov (e 5)), g (l 0) true (.bin .eql (l 1) (v (.int .i64 2))), g (l 0) true (.mov (l 2)), g (l 3) false (.mov (e 5)), g (l 3) false (.bin .eql (l 4) (v (.int .i64 0))), g (l 0) true (.pick (l 3) (v (.bool true)) (l 5)), i (.pick (l 0) (l 6) (v (.bool false)))] [(3, (v (.int .i64 2))), (4, l 7)])
  .ret) (.seq (.seq (.reg [i (.bin .eql (e 8) (v (.int .i64 4)))] [(11, l 0)])
  (.cond (e 11) .skip (.reg [i (.bin .eql (e 8) (v (.int .i64 5)))] [(11, l 0)])))
  (.cond (e 11) (.seq (.reg [i (.bin .eql (e 6) (v (.int .i64 0)))] [(3, e 5), (4, l 0)])
  .ret) .skip))))))))
  (.seq (.reg [] [(3, (v (.int .i64 0))), (4, (v (.bool false)))])
  .ret)))))
def f_logic_agg : AFunc := ⟨12, 2, .pure, [.env 3, .env 4], b_logic_agg⟩
def l_expr_Kind_0 : ACode :=
  (.seq (.reg [i (.bin .lss (e 17) (e 16))] [(18, l 0)])
  (.seq (.cond (e 18) .skip (.exit 2))
  (.seq (.blk 3 (.seq (.reg [i (.idxs 1 (e 15) (e 17)), i (.load false 1 (l 0))] [(8, l 1)])
  (.seq (.reg [i (.load false 1 (e 3)), i (.len (l 0)), i (.bin .geq (e 8) (l 1))] [(19, l 2)])
  (.cond (e 19) (.seq (.reg [] [(4, (v (.int .i64 0))), (5, (v (.int .i64 2)))])
  .ret) .skip))))
  (.reg [i (.bin .add (e 17) (v (.int .i64 1)))] [(17, l 0)]))))
def l_expr_Kind_1 : ACode :=
  (.seq (.reg [i (.bin .lss (e 12) (e 11))] [(13, l 0)])
  (.seq (.cond (e 13) .skip (.exit 0))
  (.seq (.blk 1 (.seq (.reg [i (.idxs 1 (e 10) (e 12)), i (.load false 1 (l 0))] [(7, l 1)])
  (.seq (.reg [i (.bin .lss (e 7) (v (.int .i64 0))), g (l 0) false (.mov (e 7)), g (l 0) false (.bin .gtr (l 1) (v (.int .i64 3))), i (.pick (l 0) (v (.bool true)) (l 2))] [(14, l 3)])
  (.cond (e 14) (.seq (.reg [] [(4, (v (.int .i64 0))), (5, (v (.int .i64 2)))])
  .ret) .skip))))
  (.reg [i (.bin .add (e 12) (v (.int .i64 1)))] [(12, l 0)]))))
def b_expr_Kind : ACode :=
  (.seq (.reg [i (.box 1 (e 0)), i (.box 1 (e 1))] [(2, l 0), (3, l 1), (4, (v (.int .i64 0))), (5, (v (.int .i64 0)))])
  (.seq (.seq (.reg [i (.load true 1 (e 2)), i (.call 9 [(l 0)] false)] [(6, l 1)])
  (.seq (.reg [i (.bin .neq (e 6) (v (.int .i64 0)))] [(9, l 0)])
  (.cond (e 9) (.seq (.reg [] [(4, (v (.int .i64 0))), (5, e 6)])
  .ret) .skip)))
  (.seq (.seq (.reg [i (.load false 1 (e 3)), i (.len (l 0))] [(10, l 0), (11, l 1), (12, (v (.int .i64 0)))])
  (.blk 0 (.loop [4, 5, 7, 13, 14] l_expr_Kind_1)))
  (.seq (.seq (.reg [i (.load true 1 (e 2)), i (.call 37 [(l 0)] false), i (.len (l 1))] [(15, l 1), (16, l 2), (17, (v (.int .i64 0)))])
  (.blk 2 (.loop [4, 5, 8, 18, 19] l_expr_Kind_0)))
  (.seq (.reg [i (.load true 1 (e 2)), i (.mkfn 55 [] [(e 3)]), i (.call 54 [(l 0), (l 1)] false), i (.ext 0 (l 2)), i (.ext 1 (l 2))] [(4, l 3), (5, l 4)])
  .ret)))))
def f_expr_Kind : AFunc := ⟨20, 2, .pure, [.env 4, .env 5], b_expr_Kind⟩
def b_logic_parts : ACode :=
  (.seq (.reg [] [(1, (v (.int .i64 0)))])
  (.seq (.seq (.reg [] [(2, e 0)])
  (.blk 0 (.seq (.reg [i (.bin .eql (e 2) (v (.int .i64 1)))] [(3, l 0)])
  (.cond (e 3) (.seq (.reg [] [(1, (v (.int .i64 0)))])
  .ret) (.seq (.seq (.reg [i (.bin .eql (e 2) (v (.int .i64 2)))] [(4, l 0)])
  (.cond (e 4) .skip (.reg [i (.bin .eql (e 2) (v (.int .i64 7)))] [(4, l 0)])))
  (.cond (e 4) (.seq (.reg [] [(1, (v (.int .i64 2)))])
  .ret) .skip))))))
  (.seq (.reg [] [(1, (v (.int .i64 1)))])
  .ret)))
def f_logic_parts : AFunc := ⟨5, 1, .pure, [.env 1], b_logic_parts⟩
def b_slices_Contains_string_string : ACode :=
  (.seq (.reg [] [(2, (v (.bool false)))])
  (.seq (.reg [i (.call 27 [(e 0), (e 1)] false), i (.bin .geq (l 0) (v (.int .i64 0)))] [(2, l 1)])
  .ret))
def f_slices_Contains_string_string : AFunc := ⟨3, 2, .pure, [.env 2], b_slices_Contains_string_string⟩
def l_slices_IndexFunc_api_Column_api_Column_0 : ACode :=
  (.seq (.reg [i (.bin .lss (e 5) (e 4))] [(6, l 0)])
  (.seq (.cond (e 6) .skip (.exit 0))
  (.seq (.blk 1 (.seq (.reg [] [(3, e 5)])
  (.seq (.reg [i (.idxs 2 (e 0) (e 3)), i (.load true 2 (l 0)), i (.callv (e 1) [(l 1)])] [(7, l 2)])
  (.cond (e 7) (.seq (.reg [] [(2, e 3)])
  .ret) .skip))))
  (.reg [i (.bin .add (e 5) (v (.int .i64 1)))] [(5, l 0)]))))
def b_slices_IndexFunc_api_Column_api_Column : ACode :=
  (.seq (.reg [] [(2, (v (.int .i64 0)))])
  (.seq (.seq (.reg [i (.len (e 0))] [(4, l 0), (5, (v (.int .i64 0)))])
  (.blk 0 (.loop [2, 3, 6, 7] l_slices_IndexFunc_api_Column_api_Column_0)))
  (.seq (.reg [] [(2, (v (.int .i64 (-1))))])
  .ret)))
def f_slices_IndexFunc_api_Column_api_Column : AFunc := ⟨8, 2, .pure, [.env 2], b_slices_IndexFunc_api_Column_api_Column⟩
def b_catalog_find_api_Column_1 : ACode :=
  (.seq (.reg [i (.box 2 (e 0))] [(3, l 0), (4, (v (.bool false)))])
  (.seq (.regd [i (.load false 1 (e 1)), i (.load true 2 (e 3)), i (.callv (l 0) [(l 1)]), i (.load false 1 (e 2)), i (.bin .eql (l 2) (l 3))] [(4, l 4)] [(3, 0)])
  .ret))
def f_catalog_find_api_Column_1 : AFunc := ⟨5, 3, .pure, [.env 4], b_catalog_find_api_Column_1⟩
def l_expr_firsts_0 : ACode :=
  (.seq (.reg [i (.bin .lss (e 21) (e 20))] [(22, l 0)])
  (.seq (.cond (e 22) .skip (.exit 2))
  (.seq (.blk 3 (.seq (.reg [i (.idxs 1 (e 19) (e 21)), i (.load false 1 (l 0))] [(12, e 21), (13, l 1)])
  (.regd [i (.idxs 1 (e 4) (e 13)), i (.load false 1 (l 0)), i (.mins (e 11) [(l 1)]), i (.idxa 2 1 (e 10) (e 12)), i (.store 1 (l 3) (e 13))] [(11, l 2)] [(0, 5), (1, 5)])))
  (.reg [i (.bin .add (e 21) (v (.int .i64 1)))] [(21, l 0)]))))
def l_expr_firsts_1 : ACode :=
  (.seq (.reg [i (.bin .lss (e 16) (e 15))] [(17, l 0)])
  (.seq (.cond (e 17) .skip (.exit 0))
  (.seq (.blk 1 (.seq (.reg [i (.idxs 8 (e 14) (e 16)), i (.load true 8 (l 0)), i (.box 8 (v (.agg [.int .i64 0, .int .i64 0, .int .i64 0, .int .i64 0, .int .i64 0, .int .i64 0, .int .u64 0, .str []]))), i (.store 8 (l 2) (l 1))] [(7, l 2), (6, e 16)])
  (.seq (.reg [i (.fld 0 (e 7)), i (.load false 1 (l 0)), i (.call 4 [(l 1)] false)] [(8, l 2)])
  (.seq (.seq (.reg [i (.bin .lss (e 8) (v (.int .i64 0))), g (l 0) false (.mov (e 8)), g (l 0) false (.mov (e 5)), g (l 0) false (.len (l 2)), g (l 0) false (.bin .gtr (l 1) (l 3)), i (.pick (l 0) (v (.bool true)) (l 4)), g (l 5) false (.load true 8 (e 7)), g (l 5) false (.call 8 [(l 6)] false), g (l 5) false (.una .not (l 7)), i (.pick (l 5) (v (.bool true)) (l 8))] [(18, l 9)])
  (.cond (e 18) (.seq (.reg [i (.mov (v (.nil0)))] [(2, l 0), (3, (v (.bool false)))])
  .ret) .skip))
  (.seq (.reg [i (.len (e 5)), i (.bin .sub (l 0) (e 8)), i (.slice 1 (e 5) (some (l 1)) none)] [(9, l 2)])
  (.seq (.reg [i (.build [.int .i64 0, .int .i64 0] [(0, 1, (v (.int .i64 (-1)))), (1, 1, (v (.int .i64 (-1))))]), i (.box 2 (v (.agg [.int .i64 0, .int .i64 0]))), i (.store 2 (l 1) (l 0))] [(10, l 1)])
  (.seq (.reg [] [(11, e 6)])
  (.seq (.seq (.reg [i (.len (e 9))] [(19, e 9), (20, l 0), (21, (v (.int .i64 0)))])
  (.blk 2 (.loop [12, 13, 22] l_expr_firsts_0)))
  (.seq (.seq (.reg [i (.load true 2 (e 10)), i (.fld 1 (e 7)), i (.load false 1 (l 1)), i (.fld 2 (e 7)), i (.load false 1 (l 3)), i (.build [.int .i64 0, .int .i64 0] [(0, 1, (l 2)), (1, 1, (l 4))]), i (.eqa true [0, 0] (l 0) (l 5))] [(23, l 6)])
  (.cond (e 23) (.seq (.reg [i (.mov (v (.nil0)))] [(2, l 0), (3, (v (.bool false)))])
  .ret) .skip))
  (.seq (.reg [i (.mkl 1 [(e 11)]), i (.app 1 (e 4) (l 0))] [(4, l 1)])
  (.reg [i (.len (e 5)), i (.bin .sub (l 0) (e 8)), i (.slice 1 (e 5) none (some (l 1))), i (.mkl 1 [(e 6)]), i (.app 1 (l 2) (l 3))] [(5, l 4)])))))))))))
  (.reg [i (.bin .add (e 16) (v (.int .i64 1)))] [(16, l 0)]))))
def b_expr_firsts : ACode :=
  (.seq (.reg [i (.box 1 (e 0)), i (.mov (v (.nil0)))] [(1, l 0), (2, l 1), (3, (v (.bool false)))])
  (.seq (.reg [i (.mknil 1), i (.mknil 1)] [(4, l 0), (5, l 1)])
  (.seq (.seq (.reg [i (.fld 0 (e 1)), i (.load false 1 (l 0)), i (.len (l 1))] [(14, l 1), (15, l 2), (16, (v (.int .i64 0)))])
  (.blk 0 (.loop [2, 3, 6, 7, 8, 9, 10, 11, 12, 13, 17, 18, 19, 20, 21, 22, 23] l_expr_firsts_1)))
  (.seq (.reg [i (.len (e 5)), i (.bin .eql (l 0) (v (.int .i64 1))), g (l 1) true (.mov (e 4)), g (l 1) true (.len (l 2)), g (l 1) true (.bin .leq (l 3) (v (.int .i64 1000))), i (.pick (l 1) (l 4) (v (.bool false)))] [(2, e 4), (3, l 5)])
  .ret))))
def f_expr_firsts : AFunc := ⟨24, 1, .pure, [.env 2, .env 3], b_expr_firsts⟩
def b_expr_Check : ACode :=
  (.seq (.reg [i (.box 1 (e 0))] [(1, l 0), (2, (v (.int .i64 0)))])
  (.seq (.seq (.reg [i (.load true 1 (e 1)), i (.call 10 [(l 0)] false), i (.ext 0 (l 1)), i (.ext 1 (l 1))] [(3, l 3)])
  (.seq (.reg [i (.una .not (e 3))] [(4, l 0)])
  (.cond (e 4) (.seq (.reg [] [(2, (v (.int .i64 200)))])
  .ret) .skip)))
  (.seq (.reg [] [(2, (v (.int .i64 0)))])
  .ret)))
end Go.AM.P
