/- PRINTED BY gen.py: the functions' code for the abstract machine. -/
import Derived.Test.YtkbcglkclodkaaaGreatDoorAm06
import Derived.Test.YtkbcglkclodkaaaGreatDoorAm05
set_option linter.unusedVariables false
set_option linter.unusedSimpArgs false
namespace Go.AM.P
def l_blaw20_ExecSplits_0 : ACode :=
  (.seq (.reg [i (.bin .lss (e 37) (e 36))] [(38, l 0)])
  (.seq (.cond (e 38) .skip (.exit 4))
  (.seq (.blk 5 (.seq (.reg [i (.idxs 1 (e 35) (e 37)), i (.load false 1 (l 0))] [(15, l 1)])
  (.seq (.reg [i (.fld 3 (e 5)), i (.load false 1 (l 0)), i (.call 28 [(e 15), (l 1)] false), i (.ext 0 (l 2)), i (.ext 1 (l 2))] [(16, l 3), (17, l 4)])
  (.seq (.seq (.reg [i (.look (.int .i64 0) true (e 12) (e 16)), i (.ext 0 (l 0)), i (.ext 1 (l 0))] [(18, l 1), (19, l 2)])
  (.seq (.reg [i (.bin .neq (e 17) (v (.int .i64 0))), g (l 0) false (.mov (e 19)), g (l 0) false (.mov (l 1)), g (l 2) true (.mov (e 18)), g (l 2) true (.mov (e 13)), g (l 2) true (.bin .neq (l 3) (l 4)), g (l 0) false (.pick (l 2) (l 5) (v (.bool false))), i (.pick (l 0) (v (.bool true)) (l 6)), g (l 7) false (.mov (e 16)), g (l 7) false (.mov (e 2)), g (l 7) false (.conv .u32 (l 9)), g (l 7) false (.bin .rem (l 8) (l 10)), g (l 7) false (.conv .i64 (l 11)), g (l 7) false (.mov (e 13)), g (l 7) false (.bin .neq (l 12) (l 13)), i (.pick (l 7) (v (.bool true)) (l 14))] [(39, l 15)])
  (.cond (e 39) (.seq (.reg [] [(4, (v (.bool false)))])
  .ret) .skip)))
  (.reg [i (.mput (e 12) (e 16) (e 13))] [])))))
  (.reg [i (.bin .add (e 37) (v (.int .i64 1)))] [(37, l 0)]))))
def l_blaw20_ExecSplits_1 : ACode :=
  (.seq (.reg [i (.bin .lss (e 33) (e 32))] [(34, l 0)])
  (.seq (.cond (e 34) .skip (.exit 2))
  (.seq (.blk 3 (.seq (.reg [i (.idxs 1 (e 31) (e 33)), i (.load false 1 (l 0))] [(13, e 33), (14, l 1)])
  (.seq (.reg [i (.len (e 14))] [(35, e 14), (36, l 0), (37, (v (.int .i64 0)))])
  (.blk 4 (.loop [4, 15, 16, 17, 18, 19, 38, 39] l_blaw20_ExecSplits_0)))))
  (.reg [i (.bin .add (e 33) (v (.int .i64 1)))] [(33, l 0)]))))
def l_blaw20_ExecSplits_2 : ACode :=
  (.seq (.reg [i (.bin .lss (e 27) (e 26))] [(28, l 0)])
  (.seq (.cond (e 28) .skip (.exit 0))
  (.seq (.blk 1 (.seq (.reg [i (.idxs 1 (e 25) (e 27)), i (.load false 1 (l 0))] [(11, l 1)])
  (.seq (.reg [i (.call 7 [(e 11), (e 6)] false), i (.una .not (l 0))] [(29, l 1)])
  (.cond (e 29) (.seq (.reg [] [(4, (v (.bool false)))])
  .ret) .skip))))
  (.reg [i (.bin .add (e 27) (v (.int .i64 1)))] [(27, l 0)]))))
def b_blaw20_ExecSplits : ACode :=
  (.seq (.reg [i (.box 4 (e 0))] [(3, l 0), (4, (v (.bool false)))])
  (.seq (.seq (.reg [i (.call 6 [] false), i (.una .not (l 0))] [(20, l 1)])
  (.cond (e 20) (.seq (.reg [] [(4, (v (.bool false)))])
  .ret) .skip))
  (.seq (.reg [i (.load true 4 (e 3)), i (.call 26 [(l 0), (v (.int .i64 12))] false), i (.call 11 [(e 1), (v (.int .i64 40))] false), i (.box 4 (v (.agg [.nil0, .int .i64 0, .int .i64 0, .nil0]))), i (.store 4 (l 3) (l 1))] [(5, l 3), (6, l 2)])
  (.seq (.reg [i (.load true 4 (e 5)), i (.call 31 [(l 0), (e 6), (e 2)] false), i (.ext 0 (l 1)), i (.ext 1 (l 1))] [(7, l 2), (8, l 3)])
  (.seq (.seq (.reg [i (.bin .neq (e 8) (v (.int .i64 0)))] [(21, l 0)])
  (.cond (e 21) (.seq (.reg [i (.len (e 7)), i (.bin .eql (l 0) (v (.int .i64 0)))] [(4, l 1)])
  .ret) .skip))
  (.seq (.reg [i (.call 30 [(e 7)] false), i (.ext 0 (l 0)), i (.ext 1 (l 0))] [(9, l 1), (8, l 2)])
  (.seq (.seq (.reg [i (.bin .neq (e 8) (v (.int .i64 0)))] [(22, l 0)])
  (.cond (e 22) (.seq (.reg [] [(4, (v (.bool false)))])
  .ret) .skip))
  (.seq (.reg [i (.call 29 [(e 6)] false), i (.ext 0 (l 0)), i (.ext 1 (l 0))] [(10, l 1), (8, l 2)])
  (.seq (.seq (.reg [i (.bin .neq (e 8) (v (.int .i64 0)))] [(23, l 0)])
  (.cond (e 23) (.seq (.reg [] [(4, (v (.bool false)))])
  .ret) .skip))
  (.seq (.seq (.reg [i (.fld 2 (e 5)), i (.load false 1 (l 0)), i (.bin .eql (l 1) (v (.int .i64 2)))] [(24, l 2)])
  (.cond (e 24) (.seq (.seq (.reg [i (.len (e 7))] [(25, e 7), (26, l 0), (27, (v (.int .i64 0)))])
  (.blk 0 (.loop [4, 11, 28, 29] l_blaw20_ExecSplits_2)))
  (.seq (.reg [i (.len (e 7)), i (.bin .eql (l 0) (e 2))] [(4, l 1)])
  .ret)) .skip))
  (.seq (.seq (.reg [i (.call 7 [(e 9), (e 10)] false), i (.una .not (l 0)), g (l 1) false (.fld 2 (e 5)), g (l 1) false (.load false 1 (l 2)), g (l 1) false (.bin .neq (l 3) (v (.int .i64 1))), i (.pick (l 1) (v (.bool true)) (l 4))] [(30, l 5)])
  (.cond (e 30) (.seq (.reg [i (.call 7 [(e 9), (e 10)] false), g (l 0) true (.mov (e 7)), g (l 0) true (.len (l 1)), g (l 0) true (.bin .eql (l 2) (v (.int .i64 1))), i (.pick (l 0) (l 3) (v (.bool false)))] [(4, l 4)])
  .ret) .skip))
  (.seq (.reg [i (.mkmap)] [(12, l 0)])
  (.seq (.seq (.reg [i (.len (e 7))] [(31, e 7), (32, l 0), (33, (v (.int .i64 0)))])
  (.blk 2 (.loop [4, 13, 14, 15, 16, 17, 18, 19, 34, 35, 36, 37, 38, 39] l_blaw20_ExecSplits_1)))
  (.seq (.reg [i (.len (e 7)), i (.bin .eql (l 0) (e 2))] [(4, l 1)])
  .ret))))))))))))))
def f_blaw20_ExecSplits : AFunc := ⟨40, 3, .pure, [.env 4], b_blaw20_ExecSplits⟩
def b_blaw20_wakes : ACode :=
  (.seq (.reg [] [(0, (v (.bool false)))])
  (.seq (.reg [i (.build [.int .i64 0, .int .i64 0, .int .i64 0, .int .i64 0, .int .i64 0, .int .i64 0, .int .u64 0, .str []] [(0, 1, (v (.int .i64 2))), (3, 1, (v (.int .i64 1)))]), i (.call 5 [(l 0), (v (.nil0))] false), i (.box 1 (v (.agg [.nil0]))), i (.store 1 (l 2) (l 1))] [(1, l 2)])
  (.seq (.reg [i (.mkl 1 [(v (.int .i64 0))]), i (.build [.int .i64 0, .nil0] [(0, 1, (v (.int .i64 1)))]), i (.load true 1 (e 1)), i (.build [.int .i64 0, .nil0] [(0, 1, (v (.int .i64 3))), (1, 1, (l 2))]), i (.mkl 2 [(l 1), (l 3)]), i (.build [.int .i64 0, .int .i64 0, .int .i64 0, .int .i64 0, .nil0, .bool false, .nil0, .nil0, .nil0, .nil0, .nil0, .int .i64 0] [(0, 1, (v (.int .i64 10))), (7, 1, (l 0)), (8, 1, (l 4))]), i (.box 12 (v (.agg [.int .i64 0, .int .i64 0, .int .i64 0, .int .i64 0, .nil0, .bool false, .nil0, .nil0, .nil0, .nil0, .nil0, .int .i64 0]))), i (.store 12 (l 6) (l 5))] [(2, l 6)])
  (.seq (.reg [i (.load true 12 (e 2)), i (.mkl 1 [(v (.int .i64 1)), (v (.int .i64 5))]), i (.call 3 [(l 1)] false), i (.mkl 1 [(v (.int .i64 1)), (v (.int .i64 7))]), i (.call 3 [(l 3)] false), i (.mkl 1 [(l 2), (l 4)]), i (.call 17 [(l 0), (l 5)] false), i (.ext 0 (l 6)), i (.ext 1 (l 6))] [(3, l 7), (4, l 8)])
  (.seq (.reg [i (.mkl 1 [(v (.int .i64 2))]), i (.build [.int .i64 0, .int .i64 0, .int .i64 0, .int .i64 0, .nil0, .bool false, .nil0, .nil0, .nil0, .nil0, .nil0, .int .i64 0] [(0, 1, (v (.int .i64 1))), (1, 1, (v (.int .i64 (-1)))), (2, 1, (v (.int .i64 (-1)))), (4, 1, (l 0))]), i (.mkl 12 [(l 1)]), i (.build [.nil0, .int .i64 0, .int .i64 0, .nil0] [(0, 1, (l 2))]), i (.box 4 (v (.agg [.nil0, .int .i64 0, .int .i64 0, .nil0]))), i (.store 4 (l 4) (l 3))] [(5, l 4)])
  (.seq (.reg [i (.load true 4 (e 5)), i (.mkl 1 [(v (.int .i64 2))]), i (.call 3 [(l 1)] false), i (.mkl 1 [(v (.int .i64 1))]), i (.call 3 [(l 3)] false), i (.mkl 1 [(l 2), (l 4)]), i (.mkl 1 [(l 5)]), i (.call 2 [(l 0), (l 6), (v (.nil0))] false), i (.ext 0 (l 7)), i (.ext 1 (l 7))] [(6, l 8), (7, l 9)])
  (.seq (.reg [i (.bin .eql (e 4) (v (.int .i64 0))), g (l 0) true (.mov (e 7)), g (l 0) true (.bin .eql (l 1) (v (.int .i64 0))), i (.pick (l 0) (l 2) (v (.bool false))), g (l 3) true (.mov (e 3)), g (l 3) true (.len (l 4)), g (l 3) true (.bin .eql (l 5) (v (.int .i64 1))), i (.pick (l 3) (l 6) (v (.bool false))), g (l 7) true (.mov (e 3)), g (l 7) true (.idxs 1 (l 8) (v (.int .i64 0))), g (l 7) true (.load false 1 (l 9)), g (l 7) true (.len (l 10)), g (l 7) true (.bin .eql (l 11) (v (.int .i64 3))), i (.pick (l 7) (l 12) (v (.bool false))), g (l 13) true (.mov (e 3)), g (l 13) true (.idxs 1 (l 14) (v (.int .i64 0))), g (l 13) true (.load false 1 (l 15)), g (l 13) true (.idxs 4 (l 16) (v (.int .i64 2))), g (l 13) true (.load true 4 (l 17)), g (l 13) true (.build [.int .i64 0, .int .i64 0, .int .u64 0, .str []] [(0, 1, (v (.int .i64 4))), (2, 1, (v (.int .u64 12)))]), g (l 13) true (.eqa false [0, 0, 0, 2] (l 18) (l 19)), i (.pick (l 13) (l 20) (v (.bool false))), g (l 21) true (.mov (e 6)), g (l 21) true (.mkl 1 [(v (.int .i64 1))]), g (l 21) true (.call 3 [(l 23)] false), g (l 21) true (.mkl 1 [(v (.int .i64 2))]), g (l 21) true (.call 3 [(l 25)] false), g (l 21) true (.mkl 1 [(l 24), (l 26)]), g (l 21) true (.call 12 [(l 22), (l 27)] false), i (.pick (l 21) (l 28) (v (.bool false)))] [(0, l 29)])
  .ret)))))))
def f_blaw20_wakes : AFunc := ⟨8, 0, .pure, [.env 0], b_blaw20_wakes⟩
def l_bref10_Made_0 : ACode :=
  (.seq (.reg [i (.bin .lss (e 15) (e 14))] [(16, l 0)])
  (.seq (.cond (e 16) .skip (.exit 2))
  (.seq (.blk 3 (.seq (.reg [i (.idxs 8 (e 13) (e 15)), i (.load true 8 (l 0)), i (.box 8 (v (.agg [.int .i64 0, .int .i64 0, .int .i64 0, .int .i64 0, .int .i64 0, .int .i64 0, .int .u64 0, .str []]))), i (.store 8 (l 2) (l 1))] [(8, l 2)])
  (.seq (.seq (.reg [i (.fld 1 (e 8)), i (.load false 1 (l 0)), i (.bin .geq (l 1) (v (.int .i64 0)))] [(17, l 2)])
  (.cond (e 17) (.reg [i (.fld 1 (e 8)), i (.load false 1 (l 0)), i (.bin .add (l 1) (e 7)), i (.fld 1 (e 8)), i (.store 1 (l 3) (l 2))] []) .skip))
  (.seq (.seq (.reg [i (.fld 2 (e 8)), i (.load false 1 (l 0)), i (.bin .geq (l 1) (v (.int .i64 0)))] [(18, l 2)])
  (.cond (e 18) (.reg [i (.fld 2 (e 8)), i (.load false 1 (l 0)), i (.bin .add (l 1) (e 7)), i (.fld 2 (e 8)), i (.store 1 (l 3) (l 2))] []) .skip))
  (.reg [i (.fld 0 (e 4)), i (.load false 1 (l 0)), i (.load true 8 (e 8)), i (.mkl 8 [(l 2)]), i (.app 8 (l 1) (l 3)), i (.fld 0 (e 4)), i (.store 1 (l 5) (l 4))] [])))))
  (.reg [i (.bin .add (e 15) (v (.int .i64 1)))] [(15, l 0)]))))
def l_bref10_Made_1 : ACode :=
  (.seq (.reg [i (.bin .lss (e 11) (e 10))] [(12, l 0)])
  (.seq (.cond (e 12) .skip (.exit 0))
  (.seq (.blk 1 (.seq (.reg [i (.idxs 1 (e 9) (e 11)), i (.load true 1 (l 0)), i (.box 1 (v (.agg [.nil0]))), i (.store 1 (l 2) (l 1))] [(6, l 2), (5, e 11)])
  (.seq (.reg [i (.fld 0 (e 4)), i (.load false 1 (l 0)), i (.len (l 1))] [(7, l 2)])
  (.seq (.seq (.reg [i (.fld 0 (e 6)), i (.load false 1 (l 0)), i (.len (l 1))] [(13, l 1), (14, l 2), (15, (v (.int .i64 0)))])
  (.blk 2 (.loop [8, 16, 17, 18] l_bref10_Made_0)))
  (.seq (.reg [i (.bin .eql (e 5) (v (.int .i64 0)))] [(19, l 0)])
  (.cond (e 19) (.reg [i (.fld 0 (e 4)), i (.load false 1 (l 0)), i (.len (l 1)), i (.bin .sub (l 2) (v (.int .i64 1))), i (.fld 1 (e 2)), i (.store 1 (l 4) (l 3))] []) (.reg [i (.fld 0 (e 4)), i (.load false 1 (l 0)), i (.len (l 1)), i (.bin .sub (l 2) (v (.int .i64 1))), i (.fld 2 (e 2)), i (.store 1 (l 4) (l 3))] [])))))))
  (.reg [i (.bin .add (e 11) (v (.int .i64 1)))] [(11, l 0)]))))
def b_bref10_Made : ACode :=
  (.seq (.reg [i (.box 8 (e 0)), i (.box 1 (v (.agg [.nil0])))] [(2, l 0), (3, l 1)])
  (.seq (.reg [i (.box 1 (v (.agg [.nil0])))] [(4, l 0)])
  (.seq (.reg [i (.fld 1 (e 2)), i (.store 1 (l 0) (v (.int .i64 (-1)))), i (.fld 2 (e 2)), i (.store 1 (l 2) (v (.int .i64 (-1))))] [])
  (.seq (.seq (.lift 4 0 8 (.reg [i (.len (e 1))] [(9, e 1), (10, l 0), (11, (v (.int .i64 0)))]))
  (.blk 0 (.loop [5, 6, 7, 8, 12, 13, 14, 15, 16, 17, 18, 19] l_bref10_Made_1)))
  (.seq (.reg [i (.fld 0 (e 4)), i (.load false 1 (l 0)), i (.load true 8 (e 2)), i (.mkl 8 [(l 2)]), i (.app 8 (l 1) (l 3)), i (.fld 0 (e 4)), i (.store 1 (l 5) (l 4))] [])
  (.seq (.reg [i (.load true 1 (e 4)), i (.store 1 (e 3) (l 0))] [])
  .ret))))))
def f_bref10_Made : AFunc := ⟨20, 2, .pure, [.cell true 1 3], b_bref10_Made⟩
def l_blaw20_num_0 : ACode :=
  (.seq (.reg [i (.bin .lss (e 6) (e 5))] [(7, l 0)])
  (.seq (.cond (e 7) .skip (.exit 0))
  (.seq (.blk 1 (.seq (.reg [i (.idxs 1 (e 4) (e 6)), i (.load false 1 (l 0))] [(3, l 1)])
  (.reg [i (.call 34 [(e 3)] false), i (.mkl 4 [(l 0)]), i (.app 4 (e 2) (l 1))] [(2, l 2)])))
  (.reg [i (.bin .add (e 6) (v (.int .i64 1)))] [(6, l 0)]))))
def b_blaw20_num : ACode :=
  (.seq (.reg [i (.mov (v (.nil0)))] [(1, l 0)])
  (.seq (.reg [i (.mknil 4)] [(2, l 0)])
  (.seq (.seq (.reg [i (.len (e 0))] [(4, e 0), (5, l 0), (6, (v (.int .i64 0)))])
  (.blk 0 (.loop [3, 7] l_blaw20_num_0)))
  (.seq (.reg [] [(1, e 2)])
  .ret))))
def f_blaw20_num : AFunc := ⟨8, 1, .pure, [.env 1], b_blaw20_num⟩
def l_exec_Run_0 : ACode :=
  (.seq (.reg [i (.bin .lss (e 25) (e 24))] [(26, l 0)])
  (.seq (.cond (e 26) .skip (.exit 2))
  (.seq (.blk 3 (.seq (.reg [i (.idxs 12 (e 23) (e 25)), i (.load true 12 (l 0)), i (.box 12 (v (.agg [.int .i64 0, .int .i64 0, .int .i64 0, .int .i64 0, .nil0, .bool false, .nil0, .nil0, .nil0, .nil0, .nil0, .int .i64 0]))), i (.store 12 (l 2) (l 1))] [(13, l 2)])
  (.seq (.reg [i (.fld 0 (e 13)), i (.load false 1 (l 0)), i (.look (.nilf) false (e 11) (l 1)), i (.load true 12 (e 13)), i (.callv (l 2) [(e 8), (l 3)]), i (.ext 0 (l 4)), i (.ext 1 (l 4))] [(14, l 5), (15, l 6)])
  (.seq (.blk 4 (.seq (.reg [i (.bin .neq (e 15) (v (.int .i64 0)))] [(27, l 0)])
  (.cond (e 27) (.reg [] [(12, (v (.int .i64 140)))]) (.seq (.reg [i (.len (e 14)), i (.bin .gtr (l 0) (v (.int .i64 200)))] [(28, l 1)])
  (.cond (e 28) (.reg [] [(12, (v (.int .i64 300)))]) .skip)))))
  (.seq (.seq (.reg [i (.bin .neq (e 12) (v (.int .i64 0)))] [(29, l 0)])
  (.cond (e 29) (.exit 2) .skip))
  (.reg [i (.nilck (e 8)), i (.fld 7 (l 0)), i (.load false 1 (l 1)), i (.mkl 1 [(e 14)]), i (.app 1 (l 2) (l 3)), i (.nilck (e 8)), i (.fld 7 (l 5)), i (.store 1 (l 6) (l 4))] []))))))
  (.reg [i (.bin .add (e 25) (v (.int .i64 1)))] [(25, l 0)]))))
def l_exec_Run_1 : ACode :=
  (.seq (.reg [i (.bin .lss (e 19) (e 18))] [(20, l 0)])
  (.seq (.cond (e 20) .skip (.exit 0))
  (.seq (.blk 1 (.seq (.reg [i (.idxs 12 (e 17) (e 19)), i (.load true 12 (l 0)), i (.box 12 (v (.agg [.int .i64 0, .int .i64 0, .int .i64 0, .int .i64 0, .nil0, .bool false, .nil0, .nil0, .nil0, .nil0, .nil0, .int .i64 0]))), i (.store 12 (l 2) (l 1))] [(9, l 2)])
  (.seq (.seq (.reg [i (.fld 1 (e 9)), i (.load false 1 (l 0)), i (.bin .geq (l 1) (v (.int .i64 0)))] [(21, l 2)])
  (.cond (e 21) (.exit 1) .skip))
  (.seq (.reg [i (.load true 12 (e 9)), i (.call 36 [(e 8), (l 0)] false), i (.ext 0 (l 1)), i (.ext 1 (l 1))] [(10, l 3)])
  (.seq (.reg [i (.una .not (e 10))] [(22, l 0)])
  (.cond (e 22) (.seq (.reg [i (.mov (v (.nil0)))] [(4, l 0), (5, (v (.int .i64 2)))])
  .ret) .skip))))))
  (.reg [i (.bin .add (e 19) (v (.int .i64 1)))] [(19, l 0)]))))
def b_exec_Run : ACode :=
  (.seq (.reg [i (.box 4 (e 0)), i (.mov (v (.nil0)))] [(3, l 0), (4, l 1), (5, (v (.int .i64 0)))])
  (.scope (.seq (.reg [i (.fld 0 (e 3)), i (.load false 1 (l 0)), i (.call 37 [(l 1)] false), i (.ext 0 (l 2)), i (.ext 1 (l 2)), i (.ext 2 (l 2))] [(6, l 3), (7, l 5)])
  (.seq (.seq (.reg [i (.bin .neq (e 7) (v (.int .i64 0)))] [(16, l 0)])
  (.cond (e 16) (.seq (.reg [i (.mov (v (.nil0)))] [(4, l 0), (5, e 7)])
  .ret) .skip))
  (.seq (.reg [i (.load true 4 (e 3)), i (.build [.nil0, .int .i64 0, .int .i64 0, .nil0, .nil0, .nil0, .nil0, .nil0] [(0, 4, (l 0)), (4, 1, (e 1)), (5, 1, (e 2)), (6, 1, (e 6))]), i (.box 8 (l 1))] [(8, l 2)])
  (.seq (.seq (.lift 8 7 1 (.reg [i (.nilck (e 8)), i (.fld 0 (l 0)), i (.fld 0 (l 1)), i (.load false 1 (l 2)), i (.len (l 3))] [(17, l 3), (18, l 4), (19, (v (.int .i64 0)))]))
  (.blk 0 (.loop [4, 5, 9, 10, 20, 21, 22] l_exec_Run_1)))
  (.seq (.reg [i (.call 35 [] false)] [(11, l 0)])
  (.seq (.reg [] [(12, (v (.int .i64 0)))])
  (.seq (.seq (.reg [i (.nilck (e 8)), i (.fld 0 (l 0)), i (.fld 0 (l 1)), i (.load false 1 (l 2)), i (.len (l 3))] [(23, l 3), (24, l 4), (25, (v (.int .i64 0)))])
  (.blk 2 (.loop [13, 14, 15, 26, 27, 28, 29] l_exec_Run_0)))
  (.seq (.seq (.reg [i (.bin .neq (e 12) (v (.int .i64 0)))] [(30, l 0)])
  (.cond (e 30) (.seq (.reg [i (.mov (v (.nil0)))] [(4, l 0), (5, e 12)])
  .ret) .skip))
  (.seq (.reg [i (.nilck (e 8)), i (.fld 7 (l 0)), i (.load false 1 (l 1)), i (.nilck (e 8)), i (.fld 7 (l 3)), i (.load false 1 (l 4)), i (.len (l 5)), i (.bin .sub (l 6) (v (.int .i64 1))), i (.idxs 1 (l 2) (l 7)), i (.load false 1 (l 8))] [(4, l 9), (5, (v (.int .i64 0)))])
  .ret)))))))))))
def f_exec_Run : AFunc := ⟨31, 3, .pure, [.env 4, .env 5], b_exec_Run⟩
def l_blaw20_rows_0 : ACode :=
  (.seq (.reg [i (.bin .lss (e 12) (e 11))] [(13, l 0)])
  (.seq (.cond (e 13) .skip (.exit 2))
  (.seq (.blk 3 (.seq (.reg [] [(6, e 12)])
  (.reg [i (.idxs 4 (e 5) (e 6)), i (.fld 3 (l 0)), i (.load false 1 (l 1)), i (.idxs 4 (e 5) (e 6)), i (.fld 3 (l 3)), i (.load false 1 (l 4)), i (.lent (l 5)), i (.mins (l 6) [(v (.int .i64 41))]), i (.slicet (l 2) none (some (l 7))), i (.idxs 4 (e 5) (e 6)), i (.fld 3 (l 9)), i (.store 1 (l 10) (l 8))] [])))
  (.reg [i (.bin .add (e 12) (v (.int .i64 1)))] [(12, l 0)]))))
def l_blaw20_rows_1 : ACode :=
  (.seq (.reg [i (.bin .lss (e 9) (e 8))] [(10, l 0)])
  (.seq (.cond (e 10) .skip (.exit 0))
  (.seq (.blk 1 (.seq (.reg [i (.idxs 1 (e 7) (e 9)), i (.load false 1 (l 0))] [(4, l 1)])
  (.seq (.reg [i (.call 38 [(e 4), (v (.int .i64 17))] true)] [(5, l 0)])
  (.seq (.seq (.reg [i (.len (e 5))] [(11, l 0), (12, (v (.int .i64 0)))])
  (.blk 2 (.loop [6, 13] l_blaw20_rows_0)))
  (.reg [i (.mkl 1 [(e 5)]), i (.app 1 (e 3) (l 0))] [(3, l 1)])))))
  (.reg [i (.bin .add (e 9) (v (.int .i64 1)))] [(9, l 0)]))))
def b_blaw20_rows : ACode :=
  (.seq (.reg [i (.mov (v (.nil0)))] [(2, l 0)])
  (.seq (.reg [i (.mknil 1)] [(3, l 0)])
  (.seq (.seq (.reg [i (.call 39 [(e 0), (e 1)] false), i (.len (l 0))] [(7, l 0), (8, l 1), (9, (v (.int .i64 0)))])
  (.blk 0 (.loop [4, 5, 6, 10, 11, 12, 13] l_blaw20_rows_1)))
  (.seq (.reg [] [(2, e 3)])
  .ret))))
def f_blaw20_rows : AFunc := ⟨14, 2, .pure, [.env 2], b_blaw20_rows⟩
def b_blaw20_cut_api_Ord : ACode :=
  (.seq (.reg [i (.mov (v (.nil0)))] [(2, l 0)])
  (.seq (.reg [i (.mknil 2), i (.len (e 0)), i (.mins (l 1) [(e 1)]), i (.slice 2 (e 0) none (some (l 2))), i (.app 2 (l 0) (l 3))] [(2, l 4)])
  .ret))
def f_blaw20_cut_api_Ord : AFunc := ⟨3, 2, .pure, [.env 2], b_blaw20_cut_api_Ord⟩
def b_denote_Sort : ACode :=
  (.seq (.reg [i (.box 1 (e 1)), i (.mov (v (.nil0)))] [(3, l 0), (4, l 1), (5, (v (.int .i64 0)))])
  (.seq (.reg [i (.mkfn 43 [] [(e 3)])] [(6, l 0)])
  (.seq (.seq (.reg [i (.call 41 [(e 0)] false), i (.una .not (l 0)), g (l 1) false (.load false 1 (e 3)), g (l 1) false (.len (l 2)), g (l 1) false (.bin .gtr (l 3) (v (.int .i64 3))), i (.pick (l 1) (v (.bool true)) (l 4)), g (l 5) false (.mov (e 2)), g (l 5) false (.bin .lss (l 6) (v (.int .i64 (-1)))), i (.pick (l 5) (v (.bool true)) (l 7)), g (l 8) false (.mov (e 0)), g (l 8) false (.mov (e 6)), g (l 8) false (.call 42 [(l 9), (l 10)] false), i (.pick (l 8) (v (.bool true)) (l 11))] [(7, l 12)])
  (.cond (e 7) (.seq (.reg [i (.mov (v (.nil0)))] [(4, l 0), (5, (v (.int .i64 2)))])
  .ret) .skip))
  (.seq (.reg [i (.load false 1 (e 3)), i (.call 40 [(e 0), (l 0), (e 2)] false)] [(4, l 1), (5, (v (.int .i64 0)))])
  .ret))))
def f_denote_Sort : AFunc := ⟨8, 3, .pure, [.env 4, .env 5], b_denote_Sort⟩
def b_blaw20_alike : ACode :=
  (.seq (.reg [] [(2, (v (.bool false)))])
  (.seq (.reg [i (.call 44 [(e 0), (e 1)] false)] [(2, l 0)])
  .ret))
def f_blaw20_alike : AFunc := ⟨3, 2, .pure, [.env 2], b_blaw20_alike⟩
def l_blaw20_nodes_0 : ACode :=
  (.seq (.reg [i (.bin .lss (e 20) (e 19))] [(21, l 0)])
  (.seq (.cond (e 21) .skip (.exit 4))
  (.seq (.blk 5 (.seq (.reg [i (.idxs 1 (e 18) (e 20)), i (.load true 1 (l 0)), i (.box 1 (v (.agg [.nil0]))), i (.store 1 (l 2) (l 1))] [(9, l 2), (8, e 20)])
  (.reg [i (.fld 9 (e 5)), i (.load false 1 (l 0)), i (.load true 1 (e 9)), i (.call 45 [(l 2)] false), i (.idxs 1 (l 1) (e 8)), i (.store 1 (l 4) (l 3))] [])))
  (.reg [i (.bin .add (e 20) (v (.int .i64 1)))] [(20, l 0)]))))
def l_blaw20_nodes_1 : ACode :=
  (.seq (.reg [i (.bin .lss (e 16) (e 15))] [(17, l 0)])
  (.seq (.cond (e 17) .skip (.exit 2))
  (.seq (.blk 3 (.seq (.reg [i (.idxs 2 (e 14) (e 16)), i (.load true 2 (l 0)), i (.box 2 (v (.agg [.int .i64 0, .nil0]))), i (.store 2 (l 2) (l 1))] [(7, l 2), (6, e 16)])
  (.reg [i (.fld 8 (e 5)), i (.load false 1 (l 0)), i (.fld 1 (e 7)), i (.load true 1 (l 2)), i (.call 45 [(l 3)] false), i (.idxs 2 (l 1) (e 6)), i (.fld 1 (l 5)), i (.store 1 (l 6) (l 4))] [])))
  (.reg [i (.bin .add (e 16) (v (.int .i64 1)))] [(16, l 0)]))))
def l_blaw20_nodes_2 : ACode :=
  (.seq (.reg [i (.bin .lss (e 12) (e 11))] [(13, l 0)])
  (.seq (.cond (e 13) .skip (.exit 0))
  (.seq (.blk 1 (.seq (.reg [i (.idxs 12 (e 10) (e 12)), i (.load true 12 (l 0)), i (.box 12 (v (.agg [.int .i64 0, .int .i64 0, .int .i64 0, .int .i64 0, .nil0, .bool false, .nil0, .nil0, .nil0, .nil0, .nil0, .int .i64 0]))), i (.store 12 (l 2) (l 1))] [(5, l 2), (4, e 12)])
  (.seq (.regd [i (.fld 4 (e 5)), i (.load false 1 (l 0)), i (.call 46 [(l 1), (v (.int .i64 17))] false), i (.fld 7 (e 5)), i (.load false 1 (l 3)), i (.call 46 [(l 4), (v (.int .i64 6))] false), i (.fld 8 (e 5)), i (.load false 1 (l 6)), i (.call 47 [(l 7), (v (.int .i64 14))] false), i (.fld 9 (e 5)), i (.load false 1 (l 9)), i (.call 48 [(l 10), (v (.int .i64 17))] false), i (.fld 10 (e 5)), i (.load false 1 (l 12)), i (.call 10 [(l 13), (v (.int .i64 5))] false), i (.fld 4 (e 5)), i (.store 1 (l 15) (l 2)), i (.fld 7 (e 5)), i (.store 1 (l 17) (l 5)), i (.fld 8 (e 5)), i (.store 1 (l 19) (l 8)), i (.fld 9 (e 5)), i (.store 1 (l 21) (l 11)), i (.fld 10 (e 5)), i (.store 1 (l 23) (l 14))] [] [(9, 0), (10, 0), (12, 0), (12, 9), (13, 0), (13, 9), (15, 0), (15, 9)])
  (.seq (.seq (.reg [i (.fld 8 (e 5)), i (.load false 1 (l 0)), i (.len (l 1))] [(14, l 1), (15, l 2), (16, (v (.int .i64 0)))])
  (.blk 2 (.loop [6, 7, 17] l_blaw20_nodes_1)))
  (.seq (.seq (.reg [i (.fld 9 (e 5)), i (.load false 1 (l 0)), i (.len (l 1))] [(18, l 1), (19, l 2), (20, (v (.int .i64 0)))])
  (.blk 4 (.loop [8, 9, 21] l_blaw20_nodes_0)))
  (.seq (.reg [i (.fld 6 (e 5)), i (.load true 1 (l 0)), i (.call 45 [(l 1)] false), i (.fld 6 (e 5)), i (.store 1 (l 3) (l 2))] [])
  (.reg [i (.load true 12 (e 5)), i (.idxs 12 (e 3) (e 4)), i (.store 12 (l 1) (l 0))] [])))))))
  (.reg [i (.bin .add (e 12) (v (.int .i64 1)))] [(12, l 0)]))))
def b_blaw20_nodes : ACode :=
  (.seq (.reg [i (.mov (v (.nil0)))] [(2, l 0)])
  (.seq (.reg [i (.call 49 [(e 0), (e 1)] false)] [(3, l 0)])
  (.seq (.seq (.reg [i (.len (e 3))] [(10, e 3), (11, l 0), (12, (v (.int .i64 0)))])
  (.blk 0 (.loop [4, 5, 6, 7, 8, 9, 13, 14, 15, 16, 17, 18, 19, 20, 21] l_blaw20_nodes_2)))
  (.seq (.reg [] [(2, e 3)])
  .ret))))
def f_blaw20_nodes : AFunc := ⟨22, 2, .pure, [.env 2], b_blaw20_nodes⟩
def b_exec_Partial : ACode :=
  (.seq (.reg [i (.box 12 (e 0)), i (.mov (v (.nil0)))] [(2, l 0), (3, l 1), (4, (v (.int .i64 0)))])
  (.seq (.seq (.reg [i (.load true 12 (e 2)), i (.call 51 [(l 0), (v (.int .i64 10)), (e 1)] false), i (.una .not (l 1))] [(5, l 2)])
  (.cond (e 5) (.seq (.reg [i (.mov (v (.nil0)))] [(3, l 0), (4, (v (.int .i64 2)))])
  .ret) .skip))
  (.seq (.reg [i (.load true 12 (e 2)), i (.call 50 [(l 0), (e 1)] false), i (.ext 0 (l 1)), i (.ext 1 (l 1))] [(3, l 2), (4, l 3)])
  .ret)))
def f_exec_Partial : AFunc := ⟨6, 2, .pure, [.env 3, .env 4], b_exec_Partial⟩
def l_bref05_Same_0 : ACode :=
  (.seq (.seq (.reg [i (.len (e 0)), i (.bin .lss (e 3) (l 0))] [(5, l 1)])
  (.cond (e 5) .skip (.exit 0)))
  (.seq (.blk 1 (.seq (.reg [i (.idxs 1 (e 0) (e 3)), i (.load false 1 (l 0)), i (.idxs 1 (e 1) (e 3)), i (.load false 1 (l 2)), i (.call 60 [(l 1), (l 3)] false), i (.bin .neq (l 4) (v (.int .i64 0)))] [(6, l 5)])
  (.cond (e 6) (.seq (.reg [] [(2, (v (.bool false)))])
  .ret) .skip)))
  (.reg [i (.bin .add (e 3) (v (.int .i64 1)))] [(3, l 0)])))
def b_bref05_Same : ACode :=
  (.seq (.reg [] [(2, (v (.bool false)))])
  (.seq (.seq (.reg [i (.len (e 0)), i (.len (e 1)), i (.bin .neq (l 0) (l 1))] [(4, l 2)])
  (.cond (e 4) (.seq (.reg [] [(2, (v (.bool false)))])
  .ret) .skip))
  (.seq (.seq (.reg [] [(3, (v (.int .i64 0)))])
  (.blk 0 (.loop [2, 5, 6] l_bref05_Same_0)))
  (.seq (.reg [] [(2, (v (.bool true)))])
  .ret))))
def f_bref05_Same : AFunc := ⟨7, 2, .pure, [.env 2], b_bref05_Same⟩
def q_row_Groups_0 : ACode :=
  (.blk 1 (.regd [i (.load false 1 (e 8)), i (.idxs 1 (e 9) (v (.int .i64 0))), i (.load false 1 (l 1)), i (.load false 1 (e 2)), i (.call 61 [(l 2), (l 3)] false), i (.call 62 [(e 9)] true), i (.build [.nil0, .nil0] [(0, 1, (l 4)), (1, 1, (l 5))]), i (.mkl 2 [(l 6)]), i (.app 2 (l 0) (l 7)), i (.store 1 (e 8) (l 8))] [] [(0, 6)]))
def q_row_Groups_0p : ACode :=
  (.reg [] [(9, e 12)])
def b_row_Groups : ACode :=
  (.seq (.reg [i (.box 1 (e 1)), i (.mov (v (.nil0)))] [(2, l 0), (3, l 1), (4, (v (.int .i64 0)))])
  (.seq (.seq (.reg [i (.load false 1 (e 2)), i (.call 69 [(e 0), (l 0)] false)] [(5, l 1)])
  (.seq (.reg [i (.bin .neq (e 5) (v (.int .i64 0)))] [(10, l 0)])
  (.cond (e 10) (.seq (.reg [i (.mov (v (.nil0)))] [(3, l 0), (4, e 5)])
  .ret) .skip)))
  (.seq (.reg [i (.call 68 [(e 0)] true)] [(6, l 0)])
  (.seq (.reg [i (.mkfn 66 [] [(e 2)]), i (.call 67 [(e 6), (l 0)] false)] [])
  (.seq (.reg [i (.mkfn 65 [] [(e 2)])] [(7, l 0)])
  (.seq (.reg [i (.box 1 (v (.nil0)))] [(8, l 0)])
  (.seq (.seq (.lift 8 0 2 (.reg [i (.call 64 [(e 6), (e 7)] false)] [(11, l 0)]))
  (.blk 0 (.rng 13 (e 11) 63)))
  (.seq (.reg [i (.load false 1 (e 8))] [(3, l 0), (4, (v (.int .i64 0)))])
  .ret))))))))
def f_row_Groups : AFunc := ⟨13, 2, .pure, [.env 3, .env 4], b_row_Groups⟩
def r_row_Groups_0 : ARound := ⟨13, [12], q_row_Groups_0p, q_row_Groups_0⟩
def b_denote_Aggregate : ACode :=
  (.seq (.reg [i (.box 2 (e 0)), i (.box 4 (v (.agg [.int .i64 0, .int .i64 0, .int .u64 0, .str []])))] [(2, l 0), (3, l 1), (4, (v (.int .i64 0)))])
  (.seq (.reg [i (.fld 0 (e 2)), i (.load false 1 (l 0)), i (.bin .geq (l 1) (v (.int .i64 1))), g (l 2) true (.fld 0 (e 2)), g (l 2) true (.load false 1 (l 3)), g (l 2) true (.bin .leq (l 4) (v (.int .i64 5))), i (.pick (l 2) (l 5) (v (.bool false))), g (l 6) true (.mov (e 1)), g (l 6) true (.call 41 [(l 7)] false), i (.pick (l 6) (l 8) (v (.bool false)))] [(5, l 9)])
  (.seq (.seq (.reg [i (.fld 0 (e 2)), i (.load false 1 (l 0)), i (.bin .eql (l 1) (v (.int .i64 1)))] [(6, l 2)])
  (.cond (e 6) (.reg [g (e 5) true (.fld 1 (e 2)), g (e 5) true (.fld 0 (l 0)), g (e 5) true (.load false 1 (l 1)), g (e 5) true (.len (l 2)), g (e 5) true (.bin .eql (l 3) (v (.int .i64 0))), i (.pick (e 5) (l 4) (v (.bool false)))] [(5, l 5)]) (.reg [g (e 5) true (.fld 1 (e 2)), g (e 5) true (.load true 1 (l 0)), g (e 5) true (.call 71 [(l 1)] false), g (e 5) true (.bin .eql (l 2) (v (.int .i64 0))), i (.pick (e 5) (l 3) (v (.bool false)))] [(5, l 4)])))
  (.seq (.seq (.reg [i (.una .not (e 5))] [(7, l 0)])
  (.cond (e 7) (.seq (.reg [i (.build [.int .i64 0, .int .i64 0, .int .u64 0, .str []] []), i (.store 4 (e 3) (l 0))] [(4, (v (.int .i64 2)))])
  .ret) .skip))
  (.seq (.reg [i (.load true 2 (e 2)), i (.call 70 [(l 0), (e 1)] false), i (.ext 0 (l 1)), i (.ext 1 (l 1)), i (.store 4 (e 3) (l 2))] [(4, l 3)])
  .ret)))))
def f_denote_Aggregate : AFunc := ⟨8, 2, .pure, [.cell true 4 3, .env 4], b_denote_Aggregate⟩
def b_blaw20_frag : ACode :=
  (.seq (.reg [i (.box 4 (e 0)), i (.box 4 (v (.agg [.nil0, .int .i64 0, .int .i64 0, .nil0])))] [(2, l 0), (3, l 1)])
  (.seq (.reg [i (.fld 0 (e 2)), i (.load false 1 (l 0)), i (.call 18 [(l 1), (e 1)] false), i (.fld 3 (e 2)), i (.load false 1 (l 3)), i (.call 46 [(l 4), (v (.int .i64 17))] false), i (.fld 0 (e 2)), i (.store 1 (l 6) (l 2)), i (.fld 3 (e 2)), i (.store 1 (l 8) (l 5))] [])
  (.seq (.reg [i (.load true 4 (e 2)), i (.store 4 (e 3) (l 0))] [])
  .ret)))
def f_blaw20_frag : AFunc := ⟨4, 2, .pure, [.cell true 4 3], b_blaw20_frag⟩
def l_exec_Goes_0 : ACode :=
  (.seq (.reg [i (.bin .lss (e 20) (e 19))] [(21, l 0)])
  (.seq (.cond (e 21) .skip (.exit 1))
  (.seq (.blk 2 (.seq (.reg [i (.idxs 1 (e 18) (e 20)), i (.load false 1 (l 0))] [(11, l 1)])
  (.seq (.reg [] [(12, (v (.int .u32 0)))])
  (.seq (.seq (.reg [i (.fld 3 (e 3)), i (.load false 1 (l 0)), i (.call 28 [(e 11), (l 1)] false), i (.ext 0 (l 2)), i (.ext 1 (l 2))] [(12, l 3), (7, l 4)])
  (.seq (.reg [i (.bin .neq (e 7) (v (.int .i64 0)))] [(22, l 0)])
  (.cond (e 22) (.seq (.reg [i (.mov (v (.nil0)))] [(4, l 0), (5, (v (.int .i64 2)))])
  .ret) .skip)))
  (.reg [i (.conv .u32 (e 2)), i (.bin .rem (e 12) (l 0)), i (.conv .u32 (e 2)), i (.bin .rem (e 12) (l 2)), i (.idxs 1 (e 10) (l 3)), i (.load false 1 (l 4)), i (.mkl 1 [(e 11)]), i (.app 1 (l 5) (l 6)), i (.idxs 1 (e 10) (l 1)), i (.store 1 (l 8) (l 7))] [])))))
  (.reg [i (.bin .add (e 20) (v (.int .i64 1)))] [(20, l 0)]))))
def b_exec_Goes : ACode :=
  (.seq (.reg [i (.box 4 (e 0)), i (.mov (v (.nil0)))] [(3, l 0), (4, l 1), (5, (v (.int .i64 0)))])
  (.seq (.reg [i (.fld 0 (e 3)), i (.load false 1 (l 0)), i (.call 37 [(l 1)] false), i (.ext 0 (l 2)), i (.ext 1 (l 2)), i (.ext 2 (l 2))] [(6, l 3), (7, l 5)])
  (.seq (.seq (.reg [i (.bin .neq (e 7) (v (.int .i64 0)))] [(13, l 0)])
  (.cond (e 13) (.seq (.reg [i (.mov (v (.nil0)))] [(4, l 0), (5, e 7)])
  .ret) .skip))
  (.seq (.reg [i (.len (e 6)), i (.bin .sub (l 0) (v (.int .i64 1))), i (.idxs 1 (e 6) (l 1)), i (.load false 1 (l 2)), i (.box 1 (v (.nil0))), i (.store 1 (l 4) (l 3))] [(8, l 4)])
  (.seq (.reg [i (.fld 3 (e 3)), i (.load false 1 (l 0)), i (.mkfn 76 [] [(e 8)]), i (.call 77 [(l 1), (l 2)] false)] [(9, l 3)])
  (.seq (.seq (.reg [g (e 9) false (.fld 3 (e 3)), g (e 9) false (.load false 1 (l 0)), g (e 9) false (.len (l 1)), g (e 9) false (.bin .gtr (l 2) (v (.int .i64 16))), i (.pick (e 9) (v (.bool true)) (l 3)), g (l 4) false (.fld 2 (e 3)), g (l 4) false (.load false 1 (l 5)), g (l 4) false (.bin .lss (l 6) (v (.int .i64 1))), i (.pick (l 4) (v (.bool true)) (l 7)), g (l 8) false (.fld 2 (e 3)), g (l 8) false (.load false 1 (l 9)), g (l 8) false (.bin .gtr (l 10) (v (.int .i64 4))), i (.pick (l 8) (v (.bool true)) (l 11)), g (l 12) false (.fld 2 (e 3)), g (l 12) false (.load false 1 (l 13)), g (l 12) false (.bin .eql (l 14) (v (.int .i64 1))), g (l 12) false (.fld 3 (e 3)), g (l 12) false (.load false 1 (l 16)), g (l 12) false (.len (l 17)), g (l 12) false (.bin .gtr (l 18) (v (.int .i64 0))), g (l 12) false (.eqb true (l 15) (l 19)), i (.pick (l 12) (v (.bool true)) (l 20))] [(14, l 21)])
  (.cond (e 14) (.seq (.reg [i (.mov (v (.nil0)))] [(4, l 0), (5, (v (.int .i64 291)))])
  .ret) .skip))
  (.seq (.seq (.reg [i (.bin .lss (e 2) (v (.int .i64 1))), g (l 0) false (.mov (e 2)), g (l 0) false (.bin .gtr (l 1) (v (.int .i64 8))), i (.pick (l 0) (v (.bool true)) (l 2)), g (l 3) false (.mov (e 1)), g (l 3) false (.load false 1 (e 8)), g (l 3) false (.call 75 [(l 4), (l 5)] false), g (l 3) false (.una .not (l 6)), i (.pick (l 3) (v (.bool true)) (l 7))] [(15, l 8)])
  (.cond (e 15) (.seq (.reg [i (.mov (v (.nil0)))] [(4, l 0), (5, (v (.int .i64 2)))])
  .ret) .skip))
  (.seq (.seq (.reg [i (.fld 2 (e 3)), i (.load false 1 (l 0))] [(16, l 1)])
  (.blk 0 (.seq (.reg [i (.bin .eql (e 16) (v (.int .i64 1)))] [(17, l 0)])
  (.cond (e 17) (.seq (.reg [i (.make 1 (.nil0) (e 2) (e 2))] [(10, l 0)])
  (.seq (.seq (.lift 10 999 1 (.reg [i (.len (e 1))] [(18, e 1), (19, l 0), (20, (v (.int .i64 0)))]))
  (.blk 1 (.loop [4, 5, 7, 11, 12, 21, 22] l_exec_Goes_0)))
  (.seq (.reg [] [(4, e 10), (5, (v (.int .i64 0)))])
  .ret))) (.seq (.reg [i (.bin .eql (e 16) (v (.int .i64 2)))] [(23, l 0)])
  (.cond (e 23) (.seq (.reg [i (.mkl 1 [(e 1)]), i (.call 74 [(l 0), (e 2)] false)] [(4, l 1), (5, (v (.int .i64 0)))])
  .ret) .skip))))))
  (.seq (.reg [i (.mkl 1 [(e 1)])] [(4, l 0), (5, (v (.int .i64 0)))])
  .ret)))))))))
def f_exec_Goes : AFunc := ⟨24, 3, .pure, [.env 4, .env 5], b_exec_Goes⟩
def b_row_Merge : ACode :=
  (.seq (.reg [i (.mov (v (.nil0)))] [(1, l 0), (2, (v (.int .i64 0)))])
  (.seq (.seq (.reg [i (.call 79 [(e 0)] false)] [(3, l 0)])
  (.seq (.reg [i (.bin .neq (e 3) (v (.int .i64 0)))] [(4, l 0)])
  (.cond (e 4) (.seq (.reg [i (.mov (v (.nil0)))] [(1, l 0), (2, e 3)])
  .ret) .skip)))
  (.seq (.reg [i (.call 78 [(e 0)] false), i (.call 29 [(l 0)] false), i (.ext 0 (l 1)), i (.ext 1 (l 1))] [(1, l 2), (2, l 3)])
  .ret)))
def f_row_Merge : AFunc := ⟨5, 1, .pure, [.env 1, .env 2], b_row_Merge⟩
def b_row_Sorted : ACode :=
  (.seq (.reg [i (.mov (v (.nil0)))] [(1, l 0), (2, (v (.int .i64 0)))])
  (.seq (.seq (.reg [i (.mkl 1 [(e 0)]), i (.call 79 [(l 0)] false)] [(3, l 1)])
  (.seq (.reg [i (.bin .neq (e 3) (v (.int .i64 0)))] [(4, l 0)])
  (.cond (e 4) (.seq (.reg [i (.mov (v (.nil0)))] [(1, l 0), (2, e 3)])
  .ret) .skip)))
  (.seq (.reg [i (.call 80 [(e 0)] true)] [(1, l 0), (2, (v (.int .i64 0)))])
  .ret)))
def f_row_Sorted : AFunc := ⟨5, 1, .pure, [.env 1, .env 2], b_row_Sorted⟩
def b_row_Hash : ACode :=
  (.seq (.reg [] [(2, (v (.int .u32 0))), (3, (v (.int .i64 0)))])
  (.seq (.reg [i (.call 82 [(e 0), (e 1)] false), i (.ext 0 (l 0)), i (.ext 1 (l 0))] [(4, l 1), (5, l 2)])
  (.seq (.seq (.reg [i (.bin .neq (e 5) (v (.int .i64 0)))] [(6, l 0)])
  (.cond (e 6) (.seq (.reg [] [(2, (v (.int .u32 0))), (3, e 5)])
  .ret) .skip))
  (.seq (.reg [i (.call 81 [(e 4)] false)] [(2, l 0), (3, (v (.int .i64 0)))])
  .ret))))
def f_row_Hash : AFunc := ⟨7, 2, .pure, [.env 2, .env 3], b_row_Hash⟩
def b_bref02_Int : ACode :=
  (.seq (.reg [i (.box 4 (v (.agg [.int .i64 0, .int .i64 0, .int .u64 0, .str []])))] [(1, l 0)])
  (.seq (.reg [i (.build [.int .i64 0, .int .i64 0, .int .u64 0, .str []] [(0, 1, (v (.int .i64 2))), (1, 1, (e 0))]), i (.store 4 (e 1) (l 0))] [])
  .ret))
def f_bref02_Int : AFunc := ⟨2, 1, .pure, [.cell true 4 1], b_bref02_Int⟩
def l_prop_Kinds_0 : ACode :=
  (.seq (.reg [i (.bin .lss (e 21) (e 20))] [(22, l 0)])
  (.seq (.cond (e 22) .skip (.exit 2))
  (.seq (.blk 3 (.seq (.reg [i (.idxs 1 (e 19) (e 21)), i (.load false 1 (l 0))] [(10, l 1)])
  (.reg [i (.call 95 [(e 10)] true), i (.mkl 1 [(l 0)]), i (.app 1 (e 9) (l 1))] [(9, l 2)])))
  (.reg [i (.bin .add (e 21) (v (.int .i64 1)))] [(21, l 0)]))))
def l_prop_Kinds_1 : ACode :=
  (.seq (.reg [i (.bin .lss (e 14) (e 13))] [(15, l 0)])
  (.seq (.cond (e 15) .skip (.exit 0))
  (.seq (.blk 1 (.seq (.reg [i (.idxs 12 (e 12) (e 14)), i (.load true 12 (l 0)), i (.box 12 (v (.agg [.int .i64 0, .int .i64 0, .int .i64 0, .int .i64 0, .nil0, .bool false, .nil0, .nil0, .nil0, .nil0, .nil0, .int .i64 0]))), i (.store 12 (l 2) (l 1))] [(8, l 2), (7, e 14)])
  (.seq (.reg [i (.fld 0 (e 8)), i (.load false 1 (l 0)), i (.look (.nilf) false (e 5) (l 1)), i (.call 96 [(e 4), (e 7), (l 2)] false), i (.una .not (l 3))] [(16, l 4)])
  (.cond (e 16) (.seq (.reg [] [(6, e 7)])
  (.exit 0)) .skip))))
  (.reg [i (.bin .add (e 14) (v (.int .i64 1)))] [(14, l 0)]))))
def b_prop_Kinds : ACode :=
  (.seq (.reg [i (.mov (v (.nil0)))] [(1, l 0), (2, (v (.int .i64 0))), (3, (v (.int .i64 0)))])
  (.scope (.seq (.seq (.reg [i (.len (e 0)), i (.bin .lss (l 0) (v (.int .i64 1))), g (l 1) false (.mov (e 0)), g (l 1) false (.len (l 2)), g (l 1) false (.bin .gtr (l 3) (v (.int .i64 60))), i (.pick (l 1) (v (.bool true)) (l 4))] [(11, l 5)])
  (.cond (e 11) (.seq (.reg [i (.mov (v (.nil0)))] [(1, l 0), (2, (v (.int .i64 0))), (3, (v (.int .i64 291)))])
  .ret) .skip))
  (.seq (.reg [i (.build [.nil0, .nil0, .nil0, .int .i64 0, .int .i64 0, .int .i64 0, .int .i64 0, .nil0, .bool false, .nil0, .nil0, .nil0, .nil0, .nil0, .int .i64 0, .nil0, .nil0, .nil0] [(0, 1, (e 0))]), i (.box 18 (l 0))] [(4, l 1)])
  (.seq (.lift 4 1 1 (.lift 4 2 1 (.reg [i (.call 97 [] false)] [(5, l 0)])))
  (.seq (.reg [] [(6, (v (.int .i64 (-1))))])
  (.seq (.seq (.reg [i (.len (e 0))] [(12, e 0), (13, l 0), (14, (v (.int .i64 0)))])
  (.blk 0 (.loop [7, 8, 15, 16] l_prop_Kinds_1)))
  (.seq (.seq (.reg [i (.bin .lss (e 6) (v (.int .i64 0))), g (l 0) true (.mov (e 4)), g (l 0) true (.nilck (l 1)), g (l 0) true (.fld 2 (l 2)), g (l 0) true (.load false 1 (l 3)), g (l 0) true (.len (l 4)), g (l 0) true (.bin .neq (l 5) (v (.int .i64 1))), i (.pick (l 0) (l 6) (v (.bool false)))] [(17, l 7)])
  (.cond (e 17) (.reg [i (.len (e 0)), i (.bin .sub (l 0) (v (.int .i64 1)))] [(6, l 1)]) .skip))
  (.seq (.seq (.reg [i (.bin .geq (e 6) (v (.int .i64 0)))] [(18, l 0)])
  (.cond (e 18) (.seq (.reg [i (.mov (v (.nil0)))] [(1, l 0), (2, e 6), (3, (v (.int .i64 291)))])
  .ret) .skip))
  (.seq (.reg [i (.mknil 1)] [(9, l 0)])
  (.seq (.seq (.reg [i (.nilck (e 4)), i (.fld 1 (l 0)), i (.load false 1 (l 1)), i (.len (l 2))] [(19, l 2), (20, l 3), (21, (v (.int .i64 0)))])
  (.blk 2 (.loop [10, 22] l_prop_Kinds_0)))
  (.seq (.reg [] [(1, e 9), (2, (v (.int .i64 0))), (3, (v (.int .i64 0)))])
  .ret))))))))))))
def f_prop_Kinds : AFunc := ⟨23, 1, .pure, [.env 1, .env 2, .env 3], b_prop_Kinds⟩
def b_exec_run_handed : ACode :=
  (.seq (.reg [i (.box 12 (e 1)), i (.mov (v (.nil0)))] [(2, l 0), (3, l 1), (4, (v (.bool false)))])
  (.seq (.reg [i (.nilck (e 0)), i (.fld 4 (l 0)), i (.load false 1 (l 1))] [(5, l 2)])
  (.seq (.seq (.reg [i (.fld 0 (e 2)), i (.load false 1 (l 0)), i (.bin .eql (l 1) (v (.int .i64 9)))] [(6, l 2)])
  (.cond (e 6) (.reg [i (.nilck (e 0)), i (.fld 5 (l 0)), i (.load false 1 (l 1))] [(5, l 2)]) .skip))
  (.seq (.seq (.reg [i (.fld 3 (e 2)), i (.load false 1 (l 0)), i (.len (e 5)), i (.bin .geq (l 1) (l 2)), g (l 3) false (.mov (e 5)), g (l 3) false (.fld 3 (e 2)), g (l 3) false (.load false 1 (l 5)), g (l 3) false (.idxs 1 (l 4) (l 6)), g (l 3) false (.load false 1 (l 7)), g (l 3) false (.fld 4 (e 2)), g (l 3) false (.load false 1 (l 9)), g (l 3) false (.call 75 [(l 8), (l 10)] false), g (l 3) false (.una .not (l 11)), i (.pick (l 3) (v (.bool true)) (l 12))] [(7, l 13)])
  (.cond (e 7) (.seq (.reg [i (.mov (v (.nil0)))] [(3, l 0), (4, (v (.bool false)))])
  .ret) .skip))
  (.seq (.reg [i (.fld 3 (e 2)), i (.load false 1 (l 0)), i (.idxs 1 (e 5) (l 1)), i (.load false 1 (l 2))] [(3, l 3), (4, (v (.bool true)))])
  .ret)))))
def f_exec_run_handed : AFunc := ⟨8, 2, .keep, [.env 3, .env 4], b_exec_run_handed⟩
def b_exec_does : ACode :=
  (.seq (.reg [] [(0, (v (.nilm)))])
  (.seq (.reg [i (.mkmap), i (.mput (l 0) (v (.int .i64 1)) (v (.fn 98 [] []))), i (.mput (l 0) (v (.int .i64 9)) (v (.fn 98 [] []))), i (.mput (l 0) (v (.int .i64 2)) (v (.fn 99 [] []))), i (.mput (l 0) (v (.int .i64 3)) (v (.fn 100 [] []))), i (.mput (l 0) (v (.int .i64 5)) (v (.fn 101 [] []))), i (.mput (l 0) (v (.int .i64 4)) (v (.fn 102 [] []))), i (.mput (l 0) (v (.int .i64 10)) (v (.fn 103 [] []))), i (.mput (l 0) (v (.int .i64 11)) (v (.fn 104 [] []))), i (.mput (l 0) (v (.int .i64 6)) (v (.fn 105 [] []))), i (.mput (l 0) (v (.int .i64 7)) (v (.fn 106 [] []))), i (.mput (l 0) (v (.int .i64 8)) (v (.fn 107 [] [])))] [(0, l 0)])
  .ret))
def f_exec_does : AFunc := ⟨1, 0, .pure, [.env 0], b_exec_does⟩
def b_blaw20_cut_api_Row : ACode :=
  (.seq (.reg [i (.mov (v (.nil0)))] [(2, l 0)])
  (.seq (.reg [i (.mknil 1), i (.len (e 0)), i (.mins (l 1) [(e 1)]), i (.slice 1 (e 0) none (some (l 2))), i (.app 1 (l 0) (l 3))] [(2, l 4)])
  .ret))
def f_blaw20_cut_api_Row : AFunc := ⟨3, 2, .keep, [.env 2], b_blaw20_cut_api_Row⟩
def b_blaw20_cut_api_Value : ACode :=
  (.seq (.reg [i (.mov (v (.nil0)))] [(2, l 0)])
  (.seq (.reg [i (.mknil 4), i (.len (e 0)), i (.mins (l 1) [(e 1)]), i (.slice 4 (e 0) none (some (l 2))), i (.app 4 (l 0) (l 3))] [(2, l 4)])
  .ret))
def f_blaw20_cut_api_Value : AFunc := ⟨3, 2, .fresh 4, [.env 2], b_blaw20_cut_api_Value⟩
def b_denote_Sort_1 : ACode :=
  (.seq (.reg [] [(2, (v (.bool false)))])
  (.seq (.reg [i (.load false 1 (e 1)), i (.call 108 [(e 0), (l 0)] false), i (.una .not (l 1))] [(2, l 2)])
  .ret))
def f_denote_Sort_1 : AFunc := ⟨3, 2, .pure, [.env 2], b_denote_Sort_1⟩
def b_denote_has : ACode :=
  (.seq (.reg [i (.box 1 (e 0))] [(2, l 0), (3, (v (.bool false)))])
  (.seq (.reg [i (.mkfn 109 [] [(e 2)]), i (.call 110 [(e 1), (l 0)] false), i (.una .not (l 1))] [(3, l 2)])
  .ret))
def f_denote_has : AFunc := ⟨4, 2, .pure, [.env 3], b_denote_has⟩
def b_denote_right : ACode :=
  (.seq (.reg [] [(1, (v (.bool false)))])
  (.seq (.reg [i (.mov (v (.fn 111 [] [])))] [(2, l 0)])
  (.seq (.reg [i (.len (e 0)), i (.bin .leq (l 0) (v (.int .i64 8000))), g (l 1) true (.mov (e 0)), g (l 1) true (.mov (e 2)), g (l 1) true (.call 42 [(l 2), (l 3)] false), g (l 1) true (.una .not (l 4)), i (.pick (l 1) (l 5) (v (.bool false)))] [(1, l 6)])
  .ret)))
def f_denote_right : AFunc := ⟨3, 1, .pure, [.env 1], b_denote_right⟩
def b_slices_ContainsFunc_api_Row_api_Row : ACode :=
  (.seq (.reg [] [(2, (v (.bool false)))])
  (.seq (.reg [i (.call 112 [(e 0), (e 1)] false), i (.bin .geq (l 0) (v (.int .i64 0)))] [(2, l 1)])
  .ret))
def f_slices_ContainsFunc_api_Row_api_Row : AFunc := ⟨3, 2, .pure, [.env 2], b_slices_ContainsFunc_api_Row_api_Row⟩
def l_denote_sorted_0 : ACode :=
  (.seq (.reg [i (.bin .lss (e 8) (e 7))] [(9, l 0)])
  (.seq (.cond (e 9) .skip (.exit 0))
  (.seq (.blk 1 (.seq (.reg [i (.idxs 1 (e 6) (e 8)), i (.load false 1 (l 0))] [(5, l 1)])
  (.reg [i (.call 114 [(e 5)] true), i (.mkl 1 [(l 0)]), i (.app 1 (e 4) (l 1))] [(4, l 2)])))
  (.reg [i (.bin .add (e 8) (v (.int .i64 1)))] [(8, l 0)]))))
def b_denote_sorted : ACode :=
  (.seq (.reg [i (.mov (v (.nil0)))] [(3, l 0)])
  (.seq (.reg [i (.mknil 1)] [(4, l 0)])
  (.seq (.seq (.reg [i (.len (e 0))] [(6, e 0), (7, l 0), (8, (v (.int .i64 0)))])
  (.blk 0 (.loop [5, 9] l_denote_sorted_0)))
  (.seq (.reg [i (.call 113 [(e 1)] false), i (.call 67 [(e 4), (l 0)] false)] [])
  (.seq (.seq (.reg [i (.bin .geq (e 2) (v (.int .i64 0))), g (l 0) true (.mov (e 2)), g (l 0) true (.mov (e 4)), g (l 0) true (.len (l 2)), g (l 0) true (.bin .lss (l 1) (l 3)), i (.pick (l 0) (l 4) (v (.bool false)))] [(10, l 5)])
  (.cond (e 10) (.reg [i (.slice 1 (e 4) none (some (e 2)))] [(4, l 0)]) .skip))
  (.seq (.reg [] [(3, e 4)])
  .ret))))))
def f_denote_sorted : AFunc := ⟨11, 3, .pure, [.env 3], b_denote_sorted⟩
def b_row_Same : ACode :=
  (.seq (.reg [] [(2, (v (.bool false)))])
  (.seq (.reg [i (.call 115 [(e 0), (e 1), (v (.fn 116 [] []))] false)] [(2, l 0)])
  .ret))
def f_row_Same : AFunc := ⟨3, 2, .pure, [.env 2], b_row_Same⟩
def b_blaw20_cut_api_LNode : ACode :=
  (.seq (.reg [i (.mov (v (.nil0)))] [(2, l 0)])
  (.seq (.reg [i (.mknil 12), i (.len (e 0)), i (.mins (l 1) [(e 1)]), i (.slice 12 (e 0) none (some (l 2))), i (.app 12 (l 0) (l 3))] [(2, l 4)])
  .ret))
def f_blaw20_cut_api_LNode : AFunc := ⟨3, 2, .keep, [.env 2], b_blaw20_cut_api_LNode⟩
def b_blaw20_cut_int : ACode :=
  (.seq (.reg [i (.mov (v (.nil0)))] [(2, l 0)])
  (.seq (.reg [i (.mknil 1), i (.len (e 0)), i (.mins (l 1) [(e 1)]), i (.slice 1 (e 0) none (some (l 2))), i (.app 1 (l 0) (l 3))] [(2, l 4)])
  .ret))
def f_blaw20_cut_int : AFunc := ⟨3, 2, .pure, [.env 2], b_blaw20_cut_int⟩
def b_blaw20_cut_api_Agg : ACode :=
  (.seq (.reg [i (.mov (v (.nil0)))] [(2, l 0)])
  (.seq (.reg [i (.mknil 2), i (.len (e 0)), i (.mins (l 1) [(e 1)]), i (.slice 2 (e 0) none (some (l 2))), i (.app 2 (l 0) (l 3))] [(2, l 4)])
  .ret))
def f_blaw20_cut_api_Agg : AFunc := ⟨3, 2, .keep, [.env 2], b_blaw20_cut_api_Agg⟩
def b_blaw20_cut_api_Expr : ACode :=
  (.seq (.reg [i (.mov (v (.nil0)))] [(2, l 0)])
  (.seq (.reg [i (.mknil 1), i (.len (e 0)), i (.mins (l 1) [(e 1)]), i (.slice 1 (e 0) none (some (l 2))), i (.app 1 (l 0) (l 3))] [(2, l 4)])
  .ret))
def f_blaw20_cut_api_Expr : AFunc := ⟨3, 2, .keep, [.env 2], b_blaw20_cut_api_Expr⟩
def l_blaw20_short_0 : ACode :=
  (.seq (.reg [i (.bin .lss (e 7) (e 6))] [(8, l 0)])
  (.seq (.cond (e 8) .skip (.exit 0))
  (.seq (.blk 1 (.seq (.reg [] [(4, e 7)])
  (.seq (.reg [i (.fld 0 (e 3)), i (.load false 1 (l 0)), i (.idxs 8 (l 1) (e 4)), i (.fld 4 (l 2)), i (.fld 3 (l 3))] [(5, l 4)])
  (.reg [i (.nilck (e 5)), i (.load false 1 (l 0)), i (.nilck (e 5)), i (.load false 1 (l 2)), i (.lent (l 3)), i (.mins (l 4) [(v (.int .i64 41))]), i (.slicet (l 1) none (some (l 5))), i (.nilck (e 5)), i (.store 1 (l 7) (l 6))] []))))
  (.reg [i (.bin .add (e 7) (v (.int .i64 1)))] [(7, l 0)]))))
def b_blaw20_short : ACode :=
  (.seq (.reg [i (.box 1 (e 0)), i (.box 1 (v (.agg [.nil0])))] [(1, l 0), (2, l 1)])
  (.seq (.reg [i (.fld 0 (e 1)), i (.load false 1 (l 0)), i (.call 117 [(l 1), (v (.int .i64 60))] true), i (.build [.nil0] [(0, 1, (l 2))]), i (.box 1 (v (.agg [.nil0]))), i (.store 1 (l 4) (l 3))] [(3, l 4)])
  (.seq (.seq (.reg [i (.fld 0 (e 3)), i (.load false 1 (l 0)), i (.len (l 1))] [(6, l 2), (7, (v (.int .i64 0)))])
  (.blk 0 (.loop [4, 5, 8] l_blaw20_short_0)))
  (.seq (.reg [i (.load true 1 (e 3)), i (.store 1 (e 2) (l 0))] [])
  .ret))))
def f_blaw20_short : AFunc := ⟨9, 1, .pure, [.cell true 1 2], b_blaw20_short⟩
def l_exec_asked_0 : ACode :=
  (.seq (.reg [i (.bin .lss (e 11) (e 10))] [(12, l 0)])
  (.seq (.cond (e 12) .skip (.exit 0))
  (.seq (.blk 1 (.seq (.reg [i (.box 1 (v (.int .i64 0))), i (.store 1 (l 0) (e 11))] [(6, l 0)])
  (.seq (.reg [i (.mkfn 118 [] [(e 6)]), i (.call 112 [(e 2), (l 0)] false)] [(7, l 1)])
  (.seq (.reg [i (.bin .geq (e 7) (v (.int .i64 0)))] [(13, l 0)])
  (.cond (e 13) (.reg [i (.load false 1 (e 6)), i (.idxs 1 (e 2) (e 7)), i (.load false 1 (l 1)), i (.load false 1 (e 6)), i (.idxs 4 (l 2) (l 3)), i (.fld 0 (l 4)), i (.load false 1 (l 5)), i (.idxs 1 (e 5) (l 0)), i (.store 1 (l 7) (l 6))] []) .skip)))))
  (.reg [i (.bin .add (e 11) (v (.int .i64 1)))] [(11, l 0)]))))
def b_exec_asked : ACode :=
  (.seq (.reg [i (.box 12 (e 0))] [(3, l 0), (4, (v (.bool false)))])
  (.seq (.seq (.reg [i (.fld 0 (e 3)), i (.load false 1 (l 0)), i (.bin .neq (l 1) (e 1)), g (l 2) false (.mov (e 2)), g (l 2) false (.len (l 3)), g (l 2) false (.bin .eql (l 4) (v (.int .i64 0))), i (.pick (l 2) (v (.bool true)) (l 5)), g (l 6) false (.mov (e 2)), g (l 6) false (.len (l 7)), g (l 6) false (.bin .gtr (l 8) (v (.int .i64 8000))), i (.pick (l 6) (v (.bool true)) (l 9))] [(9, l 10)])
  (.cond (e 9) (.seq (.reg [] [(4, (v (.bool false)))])
  .ret) .skip))
  (.seq (.reg [i (.idxs 1 (e 2) (v (.int .i64 0))), i (.load false 1 (l 0)), i (.len (l 1)), i (.make 1 (.int .i64 0) (l 2) (l 2))] [(5, l 3)])
  (.seq (.seq (.reg [i (.len (e 5))] [(10, l 0), (11, (v (.int .i64 0)))])
  (.blk 0 (.loop [6, 7, 12, 13] l_exec_asked_0)))
  (.seq (.reg [i (.fld 1 (e 3)), i (.store 1 (l 0) (v (.int .i64 0))), i (.fld 2 (e 3)), i (.store 1 (l 2) (v (.int .i64 (-1))))] [])
  (.seq (.reg [i (.build [.int .i64 0, .int .i64 0, .int .i64 0, .int .i64 0, .nil0, .bool false, .nil0, .nil0, .nil0, .nil0, .nil0, .int .i64 0] [(0, 1, (v (.int .i64 9))), (1, 1, (v (.int .i64 (-1)))), (2, 1, (v (.int .i64 (-1)))), (4, 1, (e 5))]), i (.load true 12 (e 3)), i (.mkl 12 [(l 0), (l 1)]), i (.call 37 [(l 2)] false), i (.ext 0 (l 3)), i (.ext 1 (l 3)), i (.ext 2 (l 3))] [(8, l 6)])
  (.seq (.reg [i (.bin .eql (e 8) (v (.int .i64 0))), g (l 0) true (.mov (e 2)), g (l 0) true (.mov (e 5)), g (l 0) true (.call 75 [(l 1), (l 2)] false), i (.pick (l 0) (l 3) (v (.bool false)))] [(4, l 4)])
  .ret)))))))
def f_exec_asked : AFunc := ⟨14, 3, .pure, [.env 4], b_exec_asked⟩
def b_exec_partial : ACode :=
  (.seq (.reg [i (.box 12 (e 0)), i (.mov (v (.nil0)))] [(2, l 0), (3, l 1), (4, (v (.int .i64 0)))])
  (.seq (.reg [i (.load true 12 (e 2)), i (.call 119 [(e 1), (l 0), (v (.bool false)), (v (.fn 120 [] []))] false), i (.ext 0 (l 1)), i (.ext 1 (l 1))] [(3, l 2), (4, l 3)])
  .ret))
def f_exec_partial : AFunc := ⟨5, 2, .pure, [.env 3, .env 4], b_exec_partial⟩
def b_exec_final : ACode :=
  (.seq (.reg [i (.box 12 (e 0)), i (.mov (v (.nil0)))] [(2, l 0), (3, l 1), (4, (v (.int .i64 0)))])
  (.seq (.reg [i (.load true 12 (e 2)), i (.mkfn 121 [] [(e 2)]), i (.call 119 [(e 1), (l 0), (v (.bool true)), (l 1)] false), i (.ext 0 (l 2)), i (.ext 1 (l 2))] [(3, l 3), (4, l 4)])
  .ret))
def f_exec_final : AFunc := ⟨5, 2, .pure, [.env 3, .env 4], b_exec_final⟩
def l_bref05_Compare_0 : ACode :=
  (.seq (.seq (.reg [i (.len (e 0)), i (.bin .lss (e 3) (l 0)), g (l 1) true (.mov (e 3)), g (l 1) true (.mov (e 1)), g (l 1) true (.len (l 3)), g (l 1) true (.bin .lss (l 2) (l 4)), i (.pick (l 1) (l 5) (v (.bool false)))] [(5, l 6)])
  (.cond (e 5) .skip (.exit 0)))
  (.seq (.blk 1 (.seq (.reg [i (.idxs 4 (e 0) (e 3)), i (.load true 4 (l 0)), i (.idxs 4 (e 1) (e 3)), i (.load true 4 (l 2)), i (.call 136 [(l 1), (l 3)] false)] [(4, l 4)])
  (.seq (.reg [i (.bin .neq (e 4) (v (.int .i64 0)))] [(6, l 0)])
  (.cond (e 6) (.seq (.reg [] [(2, e 4)])
  .ret) .skip))))
  (.reg [i (.bin .add (e 3) (v (.int .i64 1)))] [(3, l 0)])))
def b_bref05_Compare : ACode :=
  (.seq (.reg [] [(2, (v (.int .i64 0)))])
  (.seq (.seq (.reg [] [(3, (v (.int .i64 0)))])
  (.blk 0 (.loop [2, 4, 5, 6] l_bref05_Compare_0)))
  (.seq (.seq (.reg [i (.len (e 0)), i (.len (e 1)), i (.bin .eql (l 0) (l 1))] [(7, l 2)])
  (.cond (e 7) (.seq (.reg [] [(2, (v (.int .i64 0)))])
  .ret) .skip))
  (.seq (.reg [i (.len (e 0)), i (.len (e 1)), i (.bin .lss (l 0) (l 1)), i (.call 137 [(l 2)] false)] [(2, l 3)])
  .ret))))
def f_bref05_Compare : AFunc := ⟨8, 2, .pure, [.env 2], b_bref05_Compare⟩
def l_row_asked_0 : ACode :=
  (.seq (.reg [i (.bin .lss (e 10) (e 9))] [(11, l 0)])
  (.seq (.cond (e 11) .skip (.exit 0))
  (.seq (.blk 1 (.seq (.reg [i (.idxs 1 (e 8) (e 10)), i (.load false 1 (l 0))] [(5, l 1)])
  (.seq (.reg [i (.call 138 [(e 5), (e 1)] false), i (.una .not (l 0))] [(12, l 1)])
  (.cond (e 12) (.seq (.reg [] [(2, (v (.int .i64 2)))])
  .ret) .skip))))
  (.reg [i (.bin .add (e 10) (v (.int .i64 1)))] [(10, l 0)]))))
def b_row_asked : ACode :=
  (.seq (.reg [] [(2, (v (.int .i64 0)))])
  (.seq (.seq (.reg [i (.mkl 1 [(e 0)]), i (.call 79 [(l 0)] false)] [(3, l 1)])
  (.seq (.reg [i (.bin .neq (e 3) (v (.int .i64 0)))] [(6, l 0)])
  (.cond (e 6) (.seq (.reg [] [(2, e 3)])
  .ret) .skip)))
  (.seq (.reg [i (.mov (v (.fn 139 [] [])))] [(4, l 0)])
  (.seq (.seq (.reg [i (.len (e 1)), i (.bin .gtr (l 0) (v (.int .i64 16))), g (l 1) false (.mov (e 1)), g (l 1) false (.mov (e 4)), g (l 1) false (.call 77 [(l 2), (l 3)] false), i (.pick (l 1) (v (.bool true)) (l 4))] [(7, l 5)])
  (.cond (e 7) (.seq (.reg [] [(2, (v (.int .i64 2)))])
  .ret) .skip))
  (.seq (.seq (.reg [i (.len (e 0))] [(8, e 0), (9, l 0), (10, (v (.int .i64 0)))])
  (.blk 0 (.loop [2, 5, 11, 12] l_row_asked_0)))
  (.seq (.reg [] [(2, (v (.int .i64 0)))])
  .ret))))))
def f_row_asked : AFunc := ⟨13, 2, .pure, [.env 2], b_row_asked⟩
def l_row_copies_0 : ACode :=
  (.seq (.reg [i (.bin .lss (e 6) (e 5))] [(7, l 0)])
  (.seq (.cond (e 7) .skip (.exit 0))
  (.seq (.blk 1 (.seq (.reg [i (.idxs 1 (e 4) (e 6)), i (.load false 1 (l 0))] [(3, l 1)])
  (.reg [i (.call 114 [(e 3)] true), i (.mkl 1 [(l 0)]), i (.app 1 (e 2) (l 1))] [(2, l 2)])))
  (.reg [i (.bin .add (e 6) (v (.int .i64 1)))] [(6, l 0)]))))
def b_row_copies : ACode :=
  (.seq (.reg [i (.mov (v (.nil0)))] [(1, l 0)])
  (.seq (.reg [i (.mknil 1)] [(2, l 0)])
  (.seq (.seq (.reg [i (.len (e 0))] [(4, e 0), (5, l 0), (6, (v (.int .i64 0)))])
  (.blk 0 (.loop [3, 7] l_row_copies_0)))
  (.seq (.reg [] [(1, e 2)])
  .ret))))
def f_row_copies : AFunc := ⟨8, 1, .fresh 1, [.env 1], b_row_copies⟩
def b_row_Groups_1 : ACode :=
  (.seq (.reg [] [(3, (v (.int .i64 0)))])
  (.seq (.reg [i (.load false 1 (e 2)), i (.call 61 [(e 0), (l 0)] false), i (.load false 1 (e 2)), i (.call 61 [(e 1), (l 2)] false), i (.call 140 [(l 1), (l 3)] false), i (.call 140 [(e 0), (e 1)] false), i (.mkl 1 [(l 4), (l 5)]), i (.call 141 [(l 6)] false)] [(3, l 7)])
  .ret))
def f_row_Groups_1 : AFunc := ⟨4, 3, .pure, [.env 3], b_row_Groups_1⟩
def l_cmp_Or_int_0 : ACode :=
  (.seq (.reg [i (.bin .lss (e 6) (e 5))] [(7, l 0)])
  (.seq (.cond (e 7) .skip (.exit 0))
  (.seq (.blk 1 (.seq (.reg [i (.idxs 1 (e 4) (e 6)), i (.load false 1 (l 0))] [(3, l 1)])
  (.seq (.reg [i (.bin .neq (e 3) (e 2))] [(8, l 0)])
  (.cond (e 8) (.seq (.reg [] [(1, e 3)])
  .ret) .skip))))
  (.reg [i (.bin .add (e 6) (v (.int .i64 1)))] [(6, l 0)]))))
def b_cmp_Or_int : ACode :=
  (.seq (.reg [] [(1, (v (.int .i64 0)))])
  (.seq (.reg [] [(2, (v (.int .i64 0)))])
  (.seq (.seq (.reg [i (.len (e 0))] [(4, e 0), (5, l 0), (6, (v (.int .i64 0)))])
  (.blk 0 (.loop [1, 3, 7, 8] l_cmp_Or_int_0)))
  (.seq (.reg [] [(1, e 2)])
  .ret))))
def f_cmp_Or_int : AFunc := ⟨9, 1, .pure, [.env 1], b_cmp_Or_int⟩
def b_row_order : ACode :=
  (.seq (.reg [] [(2, (v (.int .i64 0)))])
  (.seq (.reg [i (.call 142 [(e 0), (e 1), (v (.fn 143 [] []))] false)] [(2, l 0)])
  .ret))
def f_row_order : AFunc := ⟨3, 2, .pure, [.env 2], b_row_order⟩
def l_row_take_0 : ACode :=
  (.seq (.reg [i (.bin .lss (e 7) (e 6))] [(8, l 0)])
  (.seq (.cond (e 8) .skip (.exit 0))
  (.seq (.blk 1 (.seq (.reg [i (.idxs 1 (e 5) (e 7)), i (.load false 1 (l 0))] [(4, l 1)])
  (.reg [i (.idxs 4 (e 0) (e 4)), i (.load true 4 (l 0)), i (.mkl 4 [(l 1)]), i (.app 4 (e 3) (l 2))] [(3, l 3)])))
  (.reg [i (.bin .add (e 7) (v (.int .i64 1)))] [(7, l 0)]))))
def b_row_take : ACode :=
  (.seq (.reg [i (.mov (v (.nil0)))] [(2, l 0)])
  (.seq (.reg [i (.mknil 4)] [(3, l 0)])
  (.seq (.seq (.reg [i (.len (e 1))] [(5, e 1), (6, l 0), (7, (v (.int .i64 0)))])
  (.blk 0 (.loop [4, 8] l_row_take_0)))
  (.seq (.reg [] [(2, e 3)])
  .ret))))
def f_row_take : AFunc := ⟨9, 2, .pure, [.env 2], b_row_take⟩
def b_row_Groups_2 : ACode :=
  (.seq (.reg [] [(3, (v (.bool false)))])
  (.seq (.reg [i (.load false 1 (e 2)), i (.call 61 [(e 0), (l 0)] false), i (.load false 1 (e 2)), i (.call 61 [(e 1), (l 2)] false), i (.call 116 [(l 1), (l 3)] false)] [(3, l 4)])
  .ret))
def f_row_Groups_2 : AFunc := ⟨4, 3, .pure, [.env 3], b_row_Groups_2⟩
def b_row_equal : ACode :=
  (.seq (.reg [] [(2, (v (.bool false)))])
  (.seq (.reg [i (.call 144 [(e 0), (e 1)] false)] [(2, l 0)])
  .ret))
def f_row_equal : AFunc := ⟨3, 2, .pure, [.env 2], b_row_equal⟩
def b_row_runs : ACode :=
  (.seq (.reg [i (.box 1 (e 0)), i (.box 1 (e 1))] [(2, l 0), (3, l 1), (4, (v (.nilf)))])
  (.seq (.reg [i (.mkfn 145 [] [(e 2), (e 3)])] [(4, l 0)])
  .ret))
def f_row_runs : AFunc := ⟨5, 2, .keep, [.env 4], b_row_runs⟩
def b_slices_Clone_api_Row_api_Row : ACode :=
  (.seq (.reg [i (.mov (v (.nil0)))] [(1, l 0)])
  (.seq (.seq (.reg [i (.nils false (e 0))] [(2, l 0)])
  (.cond (e 2) (.seq (.reg [i (.mov (v (.nil0)))] [(1, l 0)])
  .ret) .skip))
  (.seq (.reg [i (.mov (v .nil0)), i (.app 1 (l 0) (e 0))] [(1, l 1)])
  .ret)))
def f_slices_Clone_api_Row_api_Row : AFunc := ⟨3, 1, .fresh 1, [.env 1], b_slices_Clone_api_Row_api_Row⟩
def b_expr_Check : ACode :=
  (.seq (.reg [i (.box 1 (e 0))] [(1, l 0), (2, (v (.int .i64 0)))])
  (.seq (.seq (.reg [i (.load true 1 (e 1)), i (.call 146 [(l 0)] false), i (.ext 0 (l 1)), i (.ext 1 (l 1))] [(3, l 3)])
  (.seq (.reg [i (.una .not (e 3))] [(4, l 0)])
  (.cond (e 4) (.seq (.reg [] [(2, (v (.int .i64 200)))])
  .ret) .skip)))
  (.seq (.reg [] [(2, (v (.int .i64 0)))])
  .ret)))
def f_expr_Check : AFunc := ⟨5, 1, .pure, [.env 2], b_expr_Check⟩
def b_denote_aggregate : ACode :=
  (.seq (.reg [i (.box 2 (e 0)), i (.box 4 (v (.agg [.int .i64 0, .int .i64 0, .int .u64 0, .str []])))] [(2, l 0), (3, l 1), (4, (v (.int .i64 0)))])
  (.seq (.seq (.reg [i (.fld 0 (e 2)), i (.load false 1 (l 0)), i (.bin .eql (l 1) (v (.int .i64 1)))] [(8, l 2)])
  (.cond (e 8) (.seq (.reg [i (.len (e 1)), i (.call 149 [(l 0)] false), i (.store 4 (e 3) (l 1))] [(4, (v (.int .i64 0)))])
  .ret) .skip))
  (.seq (.reg [i (.load true 2 (e 2)), i (.call 154 [(l 0), (e 1)] false), i (.ext 0 (l 1)), i (.ext 1 (l 1))] [(5, l 2), (6, l 3)])
  (.seq (.seq (.reg [i (.bin .eql (e 6) (v (.int .i64 2)))] [(9, l 0)])
  (.cond (e 9) (.seq (.reg [i (.build [.int .i64 0, .int .i64 0, .int .u64 0, .str []] []), i (.store 4 (e 3) (l 0))] [(4, e 6)])
  .ret) .skip))
  (.seq (.reg [i (.mov (v (.fn 153 [] [])))] [(7, l 0)])
  (.seq (.blk 0 (.seq (.reg [i (.fld 0 (e 2)), i (.load false 1 (l 0)), i (.bin .eql (l 1) (v (.int .i64 3))), g (l 2) true (.mov (e 5)), g (l 2) true (.mov (e 7)), g (l 2) true (.call 152 [(l 3), (l 4)] false), i (.pick (l 2) (l 5) (v (.bool false)))] [(10, l 6)])
  (.cond (e 10) (.seq (.reg [i (.build [.int .i64 0, .int .i64 0, .int .u64 0, .str []] []), i (.store 4 (e 3) (l 0))] [(4, (v (.int .i64 2)))])
  .ret) (.seq (.reg [i (.bin .neq (e 6) (v (.int .i64 0)))] [(11, l 0)])
  (.cond (e 11) (.seq (.reg [i (.build [.int .i64 0, .int .i64 0, .int .u64 0, .str []] []), i (.store 4 (e 3) (l 0))] [(4, e 6)])
  .ret) (.seq (.reg [i (.fld 0 (e 2)), i (.load false 1 (l 0)), i (.bin .eql (l 1) (v (.int .i64 2)))] [(12, l 2)])
  (.cond (e 12) (.seq (.reg [i (.len (e 5)), i (.call 149 [(l 0)] false), i (.store 4 (e 3) (l 1))] [(4, (v (.int .i64 0)))])
  .ret) (.seq (.reg [i (.fld 0 (e 2)), i (.load false 1 (l 0)), i (.bin .eql (l 1) (v (.int .i64 3)))] [(13, l 2)])
  (.cond (e 13) (.seq (.reg [i (.call 150 [(e 5)] false), i (.ext 0 (l 0)), i (.ext 1 (l 0)), i (.store 4 (e 3) (l 1))] [(4, l 2)])
  .ret) (.seq (.reg [i (.len (e 5)), i (.bin .eql (l 0) (v (.int .i64 0)))] [(14, l 1)])
  (.cond (e 14) (.seq (.reg [i (.build [.int .i64 0, .int .i64 0, .int .u64 0, .str []] []), i (.store 4 (e 3) (l 0))] [(4, (v (.int .i64 0)))])
  .ret) (.seq (.reg [i (.fld 0 (e 2)), i (.load false 1 (l 0)), i (.bin .eql (l 1) (v (.int .i64 4)))] [(15, l 2)])
  (.cond (e 15) (.seq (.reg [i (.call 151 [(e 5), (v (.fn 148 [] []))] false), i (.store 4 (e 3) (l 0))] [(4, (v (.int .i64 0)))])
  .ret) .skip)))))))))))))
  (.seq (.reg [i (.call 147 [(e 5), (v (.fn 148 [] []))] false), i (.store 4 (e 3) (l 0))] [(4, (v (.int .i64 0)))])
  .ret)))))))
def f_denote_aggregate : AFunc := ⟨16, 2, .pure, [.cell true 4 3, .env 4], b_denote_aggregate⟩
def b_slices_ContainsFunc_int_int : ACode :=
  (.seq (.reg [] [(2, (v (.bool false)))])
  (.seq (.reg [i (.call 160 [(e 0), (e 1)] false), i (.bin .geq (l 0) (v (.int .i64 0)))] [(2, l 1)])
  .ret))
def f_slices_ContainsFunc_int_int : AFunc := ⟨3, 2, .pure, [.env 2], b_slices_ContainsFunc_int_int⟩
def b_exec_Goes_1 : ACode :=
  (.seq (.reg [] [(2, (v (.bool false)))])
  (.seq (.reg [i (.bin .lss (e 0) (v (.int .i64 0))), g (l 0) false (.mov (e 0)), g (l 0) false (.load false 1 (e 1)), g (l 0) false (.len (l 2)), g (l 0) false (.bin .geq (l 1) (l 3)), i (.pick (l 0) (v (.bool true)) (l 4))] [(2, l 5)])
  .ret))
def f_exec_Goes_1 : AFunc := ⟨3, 2, .pure, [.env 2], b_exec_Goes_1⟩
def b_exec_fit : ACode :=
  (.seq (.reg [i (.box 1 (e 1))] [(2, l 0), (3, (v (.bool false)))])
  (.seq (.seq (.reg [i (.len (e 0)), i (.bin .gtr (l 0) (v (.int .i64 8000)))] [(4, l 1)])
  (.cond (e 4) (.seq (.reg [] [(3, (v (.bool false)))])
  .ret) .skip))
  (.seq (.reg [i (.mkfn 161 [] [(e 2)]), i (.call 42 [(e 0), (l 0)] false), i (.una .not (l 1))] [(3, l 2)])
  .ret)))
def f_exec_fit : AFunc := ⟨5, 2, .pure, [.env 3], b_exec_fit⟩
def l_slices_Repeat_api_Row_api_Row_0 : ACode :=
  (.seq (.seq (.reg [i (.len (e 5)), i (.bin .lss (e 6) (l 0))] [(9, l 1)])
  (.cond (e 9) .skip (.exit 0)))
  (.blk 1 (.reg [i (.slice 1 (e 5) (some (e 6)) none), i (.slice 1 (e 5) none (some (e 6))), i (.copy 1 (l 0) (l 1)), i (.bin .add (e 6) (l 2))] [(6, l 3)])))
def b_slices_Repeat_api_Row_api_Row : ACode :=
  (.seq (.reg [i (.mov (v (.nil0)))] [(2, l 0)])
  (.seq (.seq (.reg [i (.bin .lss (e 1) (v (.int .i64 0)))] [(7, l 0)])
  (.cond (e 7) (.reg [i (.bad), i (.bad)] []) .skip))
  (.seq (.reg [i (.len (e 0)), i (.conv .u64 (l 0)), i (.conv .u64 (e 1)), i (.call 162 [(l 1), (l 2)] false), i (.ext 0 (l 3)), i (.ext 1 (l 3))] [(3, l 4), (4, l 5)])
  (.seq (.seq (.reg [i (.bin .gtr (e 3) (v (.int .u64 0))), g (l 0) false (.mov (e 4)), g (l 0) false (.bin .gtr (l 1) (v (.int .u64 9223372036854775807))), i (.pick (l 0) (v (.bool true)) (l 2))] [(8, l 3)])
  (.cond (e 8) (.reg [i (.bad), i (.bad)] []) .skip))
  (.seq (.reg [i (.conv .i64 (e 4)), i (.make 1 (.nil0) (l 0) (l 0))] [(5, l 1)])
  (.seq (.reg [i (.copy 1 (e 5) (e 0))] [(6, l 0)])
  (.seq (.blk 0 (.loop [9] l_slices_Repeat_api_Row_api_Row_0))
  (.seq (.reg [] [(2, e 5)])
  .ret))))))))
def f_slices_Repeat_api_Row_api_Row : AFunc := ⟨10, 2, .pure, [.env 2], b_slices_Repeat_api_Row_api_Row⟩
def l_row_lists_0 : ACode :=
  (.seq (.reg [i (.bin .lss (e 11) (e 10))] [(12, l 0)])
  (.seq (.cond (e 12) .skip (.exit 2))
  (.seq (.blk 3 (.seq (.reg [i (.idxs 1 (e 9) (e 11)), i (.load false 1 (l 0))] [(4, l 1)])
  (.seq (.reg [i (.call 163 [(e 4)] false), i (.una .not (l 0))] [(13, l 1)])
  (.cond (e 13) (.seq (.reg [] [(1, (v (.int .i64 150)))])
  .ret) .skip))))
  (.reg [i (.bin .add (e 11) (v (.int .i64 1)))] [(11, l 0)]))))
def l_row_lists_1 : ACode :=
  (.seq (.reg [i (.bin .lss (e 7) (e 6))] [(8, l 0)])
  (.seq (.cond (e 8) .skip (.exit 0))
  (.seq (.blk 1 (.seq (.reg [i (.idxs 1 (e 5) (e 7)), i (.load false 1 (l 0))] [(3, l 1)])
  (.seq (.seq (.reg [i (.len (e 3))] [(9, e 3), (10, l 0), (11, (v (.int .i64 0)))])
  (.blk 2 (.loop [1, 4, 12, 13] l_row_lists_0)))
  (.reg [i (.len (e 3)), i (.maxs (e 2) [(l 0)])] [(2, l 1)]))))
  (.reg [i (.bin .add (e 7) (v (.int .i64 1)))] [(7, l 0)]))))
def b_row_lists : ACode :=
  (.seq (.reg [] [(1, (v (.int .i64 0)))])
  (.seq (.reg [] [(2, (v (.int .i64 0)))])
  (.seq (.seq (.reg [i (.len (e 0))] [(5, e 0), (6, l 0), (7, (v (.int .i64 0)))])
  (.blk 0 (.loop [1, 3, 4, 8, 9, 10, 11, 12, 13] l_row_lists_1)))
  (.seq (.seq (.reg [i (.bin .gtr (e 2) (v (.int .i64 8000)))] [(14, l 0)])
  (.cond (e 14) (.seq (.reg [] [(1, (v (.int .i64 3)))])
  .ret) .skip))
  (.seq (.reg [] [(1, (v (.int .i64 0)))])
  .ret)))))
def f_row_lists : AFunc := ⟨15, 1, .pure, [.env 1], b_row_lists⟩
def l_slices_Concat_api_Row_api_Row_0 : ACode :=
  (.seq (.reg [i (.bin .lss (e 13) (e 12))] [(14, l 0)])
  (.seq (.cond (e 14) .skip (.exit 2))
  (.seq (.blk 3 (.seq (.reg [i (.idxs 1 (e 11) (e 13)), i (.load false 1 (l 0))] [(5, l 1)])
  (.reg [i (.app 1 (e 4) (e 5))] [(4, l 0)])))
  (.reg [i (.bin .add (e 13) (v (.int .i64 1)))] [(13, l 0)]))))
def l_slices_Concat_api_Row_api_Row_1 : ACode :=
  (.seq (.reg [i (.bin .lss (e 8) (e 7))] [(9, l 0)])
  (.seq (.cond (e 9) .skip (.exit 0))
  (.seq (.blk 1 (.seq (.reg [i (.idxs 1 (e 6) (e 8)), i (.load false 1 (l 0))] [(3, l 1)])
  (.seq (.reg [i (.len (e 3)), i (.bin .add (e 2) (l 0))] [(2, l 1)])
  (.seq (.reg [i (.bin .lss (e 2) (v (.int .i64 0)))] [(10, l 0)])
  (.cond (e 10) (.reg [i (.bad), i (.bad)] []) .skip)))))
  (.reg [i (.bin .add (e 8) (v (.int .i64 1)))] [(8, l 0)]))))
def b_slices_Concat_api_Row_api_Row : ACode :=
  (.seq (.reg [i (.mov (v (.nil0)))] [(1, l 0)])
  (.seq (.reg [] [(2, (v (.int .i64 0)))])
  (.seq (.seq (.reg [i (.len (e 0))] [(6, e 0), (7, l 0), (8, (v (.int .i64 0)))])
  (.blk 0 (.loop [3, 9, 10] l_slices_Concat_api_Row_api_Row_1)))
  (.seq (.reg [i (.call 164 [(v (.nil0)), (e 2)] false)] [(4, l 0)])
  (.seq (.seq (.reg [i (.len (e 0))] [(11, e 0), (12, l 0), (13, (v (.int .i64 0)))])
  (.blk 2 (.loop [5, 14] l_slices_Concat_api_Row_api_Row_0)))
  (.seq (.reg [] [(1, e 4)])
  .ret))))))
def f_slices_Concat_api_Row_api_Row : AFunc := ⟨15, 1, .pure, [.env 1], b_slices_Concat_api_Row_api_Row⟩
def b_row_sorted : ACode :=
  (.seq (.reg [i (.mov (v (.nil0)))] [(1, l 0)])
  (.seq (.reg [i (.call 68 [(e 0)] true)] [(2, l 0)])
  (.seq (.reg [i (.call 67 [(e 2), (v (.fn 140 [] []))] false)] [])
  (.seq (.reg [] [(1, e 2)])
  .ret))))
def f_row_sorted : AFunc := ⟨3, 1, .fresh 1, [.env 1], b_row_sorted⟩
def b_row_Take : ACode :=
  (.seq (.reg [i (.mov (v (.nil0)))] [(2, l 0), (3, (v (.int .i64 0)))])
  (.seq (.seq (.reg [i (.mkl 1 [(e 0)]), i (.call 69 [(l 0), (e 1)] false)] [(4, l 1)])
  (.seq (.reg [i (.bin .neq (e 4) (v (.int .i64 0)))] [(5, l 0)])
  (.cond (e 5) (.seq (.reg [i (.mov (v (.nil0)))] [(2, l 0), (3, e 4)])
  .ret) .skip)))
  (.seq (.reg [i (.call 61 [(e 0), (e 1)] false)] [(2, l 0), (3, (v (.int .i64 0)))])
  .ret)))
def f_row_Take : AFunc := ⟨6, 2, .pure, [.env 2, .env 3], b_row_Take⟩
def l_row_hash_0 : ACode :=
  (.seq (.reg [i (.bin .lss (e 6) (e 5))] [(7, l 0)])
  (.seq (.cond (e 7) .skip (.exit 0))
  (.seq (.blk 1 (.seq (.reg [i (.idxs 4 (e 4) (e 6)), i (.load true 4 (l 0)), i (.box 4 (v (.agg [.int .i64 0, .int .i64 0, .int .u64 0, .str []]))), i (.store 4 (l 2) (l 1))] [(3, l 2)])
  (.seq (.reg [i (.fld 0 (e 3)), i (.load false 1 (l 0)), i (.conv .u8 (l 1)), i (.mkl 1 [(l 2)]), i (.app 1 (e 2) (l 3))] [(2, l 4)])
  (.seq (.regd [i (.fld 1 (e 3)), i (.load false 1 (l 0)), i (.conv .u64 (l 1)), i (.call 166 [(e 2), (l 2)] false), i (.fld 2 (e 3)), i (.load false 1 (l 4)), i (.call 166 [(l 3), (l 5)] false)] [(2, l 6)] [(4, 0), (5, 0)])
  (.regd [i (.fld 3 (e 3)), i (.load false 1 (l 0)), i (.lent (l 1)), i (.conv .u8 (l 2)), i (.mkl 1 [(l 3)]), i (.app 1 (e 2) (l 4)), i (.fld 3 (e 3)), i (.load false 1 (l 6)), i (.app 1 (l 5) (l 7))] [(2, l 8)] [(6, 0), (7, 0)])))))
  (.reg [i (.bin .add (e 6) (v (.int .i64 1)))] [(6, l 0)]))))
def b_row_hash : ACode :=
  (.seq (.reg [] [(1, (v (.int .u32 0)))])
  (.seq (.reg [i (.mknil 1)] [(2, l 0)])
  (.seq (.seq (.reg [i (.len (e 0))] [(4, e 0), (5, l 0), (6, (v (.int .i64 0)))])
  (.blk 0 (.loop [3, 7] l_row_hash_0)))
  (.seq (.reg [i (.call 165 [(e 2)] false)] [(1, l 0)])
  .ret))))
def f_row_hash : AFunc := ⟨8, 1, .pure, [.env 1], b_row_hash⟩
def b_prop_asks : ACode :=
  (.seq (.reg [] [(0, (v (.nilm)))])
  (.seq (.reg [i (.mkmap), i (.mput (l 0) (v (.int .i64 1)) (v (.fn 177 [] []))), i (.mput (l 0) (v (.int .i64 9)) (v (.fn 178 [] []))), i (.mput (l 0) (v (.int .i64 2)) (v (.fn 179 [] []))), i (.mput (l 0) (v (.int .i64 3)) (v (.fn 180 [] []))), i (.mput (l 0) (v (.int .i64 4)) (v (.fn 181 [] []))), i (.mput (l 0) (v (.int .i64 10)) (v (.fn 182 [] []))), i (.mput (l 0) (v (.int .i64 11)) (v (.fn 183 [] []))), i (.mput (l 0) (v (.int .i64 5)) (v (.fn 184 [] []))), i (.mput (l 0) (v (.int .i64 6)) (v (.fn 185 [] []))), i (.mput (l 0) (v (.int .i64 7)) (v (.fn 186 [] []))), i (.mput (l 0) (v (.int .i64 8)) (v (.fn 187 [] [])))] [(0, l 0)])
  .ret))
def f_prop_asks : AFunc := ⟨1, 0, .pure, [.env 0], b_prop_asks⟩
def l_prop_laid_takes_0 : ACode :=
  (.seq (.reg [i (.bin .lss (e 15) (e 14))] [(16, l 0)])
  (.seq (.cond (e 16) .skip (.exit 0))
  (.seq (.blk 1 (.seq (.reg [i (.idxs 1 (e 13) (e 15)), i (.load false 1 (l 0))] [(7, e 15), (8, l 1)])
  (.seq (.reg [i (.nilck (e 0)), i (.fld 1 (l 0)), i (.load false 1 (l 1)), i (.idxs 1 (l 2) (e 8)), i (.load false 1 (l 3))] [(9, l 4)])
  (.seq (.seq (.reg [i (.fld 0 (e 4)), i (.load false 1 (l 0)), i (.bin .neq (l 1) (v (.int .i64 11))), g (l 2) true (.mov (e 9)), g (l 2) true (.call 188 [(l 3), (v (.int .i64 4))] false), i (.pick (l 2) (l 4) (v (.bool false)))] [(17, l 5)])
  (.cond (e 17) (.seq (.reg [] [(3, (v (.bool false)))])
  .ret) .skip))
  (.seq (.reg [i (.bin .eql (e 7) (v (.int .i64 0)))] [(18, l 0)])
  (.cond (e 18) (.reg [i (.nilck (e 0)), i (.fld 15 (l 0)), i (.store 1 (l 1) (e 9))] []) (.reg [i (.nilck (e 0)), i (.fld 16 (l 0)), i (.store 1 (l 1) (e 9))] [])))))))
  (.reg [i (.bin .add (e 15) (v (.int .i64 1)))] [(15, l 0)]))))
def b_prop_laid_takes : ACode :=
  (.seq (.reg [] [(3, (v (.bool false)))])
  (.seq (.reg [i (.nilck (e 0)), i (.fld 0 (l 0)), i (.load false 1 (l 1)), i (.idxs 12 (l 2) (e 1)), i (.load true 12 (l 3)), i (.box 12 (v (.agg [.int .i64 0, .int .i64 0, .int .i64 0, .int .i64 0, .nil0, .bool false, .nil0, .nil0, .nil0, .nil0, .nil0, .int .i64 0]))), i (.store 12 (l 5) (l 4))] [(4, l 5)])
  (.seq (.reg [i (.fld 0 (e 4)), i (.load false 1 (l 0)), i (.call 190 [(l 1)] false)] [(5, l 2)])
  (.seq (.seq (.reg [i (.bin .lss (e 5) (v (.int .i64 0))), g (l 0) false (.mov (e 5)), g (l 0) false (.mov (e 0)), g (l 0) false (.nilck (l 2)), g (l 0) false (.fld 2 (l 3)), g (l 0) false (.load false 1 (l 4)), g (l 0) false (.len (l 5)), g (l 0) false (.bin .gtr (l 1) (l 6)), i (.pick (l 0) (v (.bool true)) (l 7)), g (l 8) false (.load true 12 (e 4)), g (l 8) false (.call 189 [(l 9)] false), g (l 8) false (.una .not (l 10)), i (.pick (l 8) (v (.bool true)) (l 11))] [(11, l 12)])
  (.cond (e 11) (.seq (.reg [] [(3, (v (.bool false)))])
  .ret) .skip))
  (.seq (.reg [i (.build [.int .i64 0, .int .i64 0] [(0, 1, (v (.int .i64 (-1)))), (1, 1, (v (.int .i64 (-1))))]), i (.box 2 (v (.agg [.int .i64 0, .int .i64 0]))), i (.store 2 (l 1) (l 0))] [(6, l 1)])
  (.seq (.reg [i (.aslice 2 (e 6)), i (.nilck (e 0)), i (.fld 2 (l 1)), i (.load false 1 (l 2)), i (.nilck (e 0)), i (.fld 2 (l 4)), i (.load false 1 (l 5)), i (.len (l 6)), i (.bin .sub (l 7) (e 5)), i (.slice 1 (l 3) (some (l 8)) none), i (.copy 1 (l 0) (l 9))] [])
  (.seq (.seq (.reg [i (.load true 2 (e 6)), i (.fld 1 (e 4)), i (.load false 1 (l 1)), i (.fld 2 (e 4)), i (.load false 1 (l 3)), i (.build [.int .i64 0, .int .i64 0] [(0, 1, (l 2)), (1, 1, (l 4))]), i (.eqa true [0, 0] (l 0) (l 5))] [(12, l 6)])
  (.cond (e 12) (.seq (.reg [] [(3, (v (.bool false)))])
  .ret) .skip))
  (.seq (.reg [i (.load true 12 (e 4)), i (.nilck (e 0)), i (.fld 3 (l 1)), i (.store 12 (l 2) (l 0)), i (.nilck (e 0)), i (.fld 15 (l 4)), i (.store 1 (l 5) (v (.nil0))), i (.nilck (e 0)), i (.fld 16 (l 7)), i (.store 1 (l 8) (v (.nil0)))] [])
  (.seq (.seq (.reg [i (.nilck (e 0)), i (.fld 2 (l 0)), i (.load false 1 (l 1)), i (.nilck (e 0)), i (.fld 2 (l 3)), i (.load false 1 (l 4)), i (.len (l 5)), i (.bin .sub (l 6) (e 5)), i (.slice 1 (l 2) (some (l 7)) none), i (.len (l 8))] [(13, l 8), (14, l 9), (15, (v (.int .i64 0)))])
  (.blk 0 (.loop [3, 7, 8, 9, 16, 17, 18] l_prop_laid_takes_0)))
  (.seq (.reg [i (.fld 0 (e 4)), i (.load false 1 (l 0)), i (.bin .eql (l 1) (v (.int .i64 8))), g (l 2) false (.fld 0 (e 4)), g (l 2) false (.load false 1 (l 3)), g (l 2) false (.bin .eql (l 4) (v (.int .i64 10))), i (.pick (l 2) (v (.bool true)) (l 5))] [(10, l 6)])
  (.seq (.seq (.reg [g (e 10) true (.mov (e 1)), g (e 10) true (.mov (e 0)), g (e 10) true (.nilck (l 1)), g (e 10) true (.fld 0 (l 2)), g (e 10) true (.load false 1 (l 3)), g (e 10) true (.len (l 4)), g (e 10) true (.bin .sub (l 5) (v (.int .i64 1))), g (e 10) true (.bin .neq (l 0) (l 6)), i (.pick (e 10) (l 7) (v (.bool false))), g (l 8) false (.mov (e 2)), g (l 8) false (.mov (e 0)), g (l 8) false (.callv (l 9) [(l 10)]), g (l 8) false (.una .not (l 11)), i (.pick (l 8) (v (.bool true)) (l 12)), g (l 13) false (.mov (e 0)), g (l 13) false (.nilck (l 14)), g (l 13) false (.fld 17 (l 15)), g (l 13) false (.load false 1 (l 16)), g (l 13) false (.len (l 17)), g (l 13) false (.bin .gtr (l 18) (v (.int .i64 16))), i (.pick (l 13) (v (.bool true)) (l 19))] [(19, l 20)])
  (.cond (e 19) (.seq (.reg [] [(3, (v (.bool false)))])
  .ret) .skip))
  (.seq (.regd [i (.nilck (e 0)), i (.fld 1 (l 0)), i (.load false 1 (l 1)), i (.nilck (e 0)), i (.fld 17 (l 3)), i (.load false 1 (l 4)), i (.mkl 1 [(l 5)]), i (.app 1 (l 2) (l 6)), i (.nilck (e 0)), i (.fld 2 (l 8)), i (.load false 1 (l 9)), i (.nilck (e 0)), i (.fld 2 (l 11)), i (.load false 1 (l 12)), i (.len (l 13)), i (.bin .sub (l 14) (e 5)), i (.slice 1 (l 10) none (some (l 15))), i (.mkl 1 [(e 1)]), i (.app 1 (l 16) (l 17)), i (.nilck (e 0)), i (.fld 1 (l 19)), i (.store 1 (l 20) (l 7)), i (.nilck (e 0)), i (.fld 2 (l 22)), i (.store 1 (l 23) (l 18))] [] [(8, 0), (9, 0), (10, 0), (11, 0), (12, 0), (13, 0), (14, 0), (16, 0)])
  (.seq (.reg [] [(3, (v (.bool true)))])
  .ret)))))))))))))
def f_prop_laid_takes : AFunc := ⟨20, 3, .keep, [.env 3], b_prop_laid_takes⟩
def b_slices_Clone_int_int : ACode :=
  (.seq (.reg [i (.mov (v (.nil0)))] [(1, l 0)])
  (.seq (.seq (.reg [i (.nils false (e 0))] [(2, l 0)])
  (.cond (e 2) (.seq (.reg [i (.mov (v (.nil0)))] [(1, l 0)])
  .ret) .skip))
  (.seq (.reg [i (.mov (v .nil0)), i (.app 1 (l 0) (e 0))] [(1, l 1)])
  .ret)))
def f_slices_Clone_int_int : AFunc := ⟨3, 1, .fresh 1, [.env 1], b_slices_Clone_int_int⟩
def b_exec_run_given : ACode :=
  (.seq (.reg [i (.box 12 (e 1)), i (.mov (v (.nil0)))] [(2, l 0), (3, l 1), (4, (v (.int .i64 0)))])
  (.seq (.reg [i (.load true 12 (e 2)), i (.call 36 [(e 0), (l 0)] false), i (.ext 0 (l 1)), i (.ext 1 (l 1))] [(5, l 2)])
  (.seq (.reg [i (.call 191 [(e 5)] false), i (.ext 0 (l 0)), i (.ext 1 (l 0))] [(3, l 1), (4, l 2)])
  .ret)))
def f_exec_run_given : AFunc := ⟨6, 2, .pure, [.env 3, .env 4], b_exec_run_given⟩
def l_exec_run_join_0 : ACode :=
  (.seq (.reg [i (.bin .lss (e 23) (e 22))] [(24, l 0)])
  (.seq (.cond (e 24) .skip (.exit 2))
  (.seq (.blk 3 (.seq (.reg [i (.idxs 1 (e 21) (e 23)), i (.load false 1 (l 0))] [(13, e 23), (14, l 1)])
  (.seq (.reg [i (.load false 1 (e 8)), i (.idxs 1 (l 0) (e 13)), i (.load false 1 (l 1)), i (.una .not (l 2))] [(25, l 3)])
  (.cond (e 25) (.regd [i (.load false 1 (e 7)), i (.nilck (e 0)), i (.fld 6 (l 1)), i (.load false 1 (l 2)), i (.fld 2 (e 2)), i (.load false 1 (l 4)), i (.idxs 1 (l 3) (l 5)), i (.load false 1 (l 6)), i (.len (l 7)), i (.make 4 (.agg [.int .i64 0, .int .i64 0, .int .u64 0, .str []]) (l 8) (l 8)), i (.mkl 1 [(e 14), (l 9)]), i (.call 168 [(l 10)] false), i (.mkl 1 [(l 11)]), i (.app 1 (l 0) (l 12)), i (.store 1 (e 7) (l 13))] [] [(0, 10)]) .skip))))
  (.reg [i (.bin .add (e 23) (v (.int .i64 1)))] [(23, l 0)]))))
def q_exec_run_join_0 : ACode :=
  (.blk 1 (.seq (.reg [i (.fld 6 (e 2)), i (.load true 1 (l 0)), i (.call 192 [(l 1), (e 10)] false), i (.ext 0 (l 2)), i (.ext 1 (l 2))] [(11, l 3), (12, l 4)])
  (.seq (.seq (.reg [i (.una .not (e 12))] [(18, l 0)])
  (.cond (e 18) (.seq (.reg [i (.store 1 (e 3) (v (.nil0))), i (.store 1 (e 4) (v (.int .i64 140)))] [])
  .ret) .skip))
  (.seq (.reg [] [(19, e 11)])
  (.cond (e 19) (.seq (.reg [i (.load false 1 (e 8)), i (.idxs 1 (l 0) (e 9)), i (.store 1 (l 1) (v (.bool true)))] [])
  (.reg [i (.load false 1 (e 7)), i (.mkl 1 [(e 10)]), i (.app 1 (l 0) (l 1)), i (.store 1 (e 7) (l 2))] [])) .skip)))))
def q_exec_run_join_0p : ACode :=
  (.seq (.reg [] [(9, e 16)])
  (.reg [] [(10, e 17)]))
def b_exec_run_join : ACode :=
  (.seq (.reg [i (.box 12 (e 1)), i (.box 1 (v (.nil0))), i (.box 1 (v (.int .i64 0)))] [(2, l 0), (3, l 1), (4, l 2)])
  (.seq (.reg [i (.nilck (e 0)), i (.fld 7 (l 0)), i (.load false 1 (l 1)), i (.fld 1 (e 2)), i (.load false 1 (l 3)), i (.idxs 1 (l 2) (l 4)), i (.load false 1 (l 5)), i (.nilck (e 0)), i (.fld 7 (l 7)), i (.load false 1 (l 8)), i (.fld 2 (e 2)), i (.load false 1 (l 10)), i (.idxs 1 (l 9) (l 11)), i (.load false 1 (l 12))] [(5, l 6), (6, l 13)])
  (.seq (.reg [i (.box 1 (v (.nil0)))] [(7, l 0)])
  (.seq (.reg [i (.len (e 5)), i (.make 1 (.bool false) (l 0) (l 0)), i (.box 1 (v (.nil0))), i (.store 1 (l 2) (l 1))] [(8, l 2)])
  (.seq (.seq (.lift 7 0 1 (.reg [i (.call 194 [(e 5), (e 6)] false)] [(15, l 0)]))
  (.blk 0 (.rng 26 (e 15) 193)))
  (.seq (.seq (.reg [i (.fld 5 (e 2)), i (.load false 1 (l 0))] [(20, l 1)])
  (.cond (e 20) (.seq (.reg [i (.len (e 5))] [(21, e 5), (22, l 0), (23, (v (.int .i64 0)))])
  (.blk 2 (.loop [13, 14, 24, 25] l_exec_run_join_0))) .skip))
  (.seq (.reg [i (.load false 1 (e 7)), i (.call 191 [(l 0)] false), i (.ext 0 (l 1)), i (.ext 1 (l 1)), i (.store 1 (e 3) (l 2)), i (.store 1 (e 4) (l 3))] [])
  .ret)))))))
def f_exec_run_join : AFunc := ⟨26, 2, .pure, [.cell false 1 3, .cell false 1 4], b_exec_run_join⟩
def r_exec_run_join_0 : ARound := ⟨26, [16, 17], q_exec_run_join_0p, q_exec_run_join_0⟩
def l_exec_run_filter_0 : ACode :=
  (.seq (.reg [i (.bin .lss (e 11) (e 10))] [(12, l 0)])
  (.seq (.cond (e 12) .skip (.exit 0))
  (.seq (.blk 1 (.seq (.reg [i (.idxs 1 (e 9) (e 11)), i (.load false 1 (l 0))] [(6, l 1)])
  (.seq (.reg [i (.fld 6 (e 2)), i (.load true 1 (l 0)), i (.call 192 [(l 1), (e 6)] false), i (.ext 0 (l 2)), i (.ext 1 (l 2))] [(7, l 3), (8, l 4)])
  (.seq (.seq (.reg [i (.una .not (e 8))] [(13, l 0)])
  (.cond (e 13) (.seq (.reg [i (.mov (v (.nil0)))] [(3, l 0), (4, (v (.int .i64 140)))])
  .ret) .skip))
  (.seq (.reg [] [(14, e 7)])
  (.cond (e 14) (.reg [i (.mkl 1 [(e 6)]), i (.app 1 (e 5) (l 0))] [(5, l 1)]) .skip))))))
  (.reg [i (.bin .add (e 11) (v (.int .i64 1)))] [(11, l 0)]))))
def b_exec_run_filter : ACode :=
  (.seq (.reg [i (.box 12 (e 1)), i (.mov (v (.nil0)))] [(2, l 0), (3, l 1), (4, (v (.int .i64 0)))])
  (.seq (.reg [i (.mknil 1)] [(5, l 0)])
  (.seq (.seq (.reg [i (.nilck (e 0)), i (.fld 7 (l 0)), i (.load false 1 (l 1)), i (.fld 1 (e 2)), i (.load false 1 (l 3)), i (.idxs 1 (l 2) (l 4)), i (.load false 1 (l 5)), i (.len (l 6))] [(9, l 6), (10, l 7), (11, (v (.int .i64 0)))])
  (.blk 0 (.loop [3, 4, 6, 7, 8, 12, 13, 14] l_exec_run_filter_0)))
  (.seq (.reg [] [(3, e 5), (4, (v (.int .i64 0)))])
  .ret))))
def f_exec_run_filter : AFunc := ⟨15, 2, .pure, [.env 3, .env 4], b_exec_run_filter⟩
def l_exec_run_project_0 : ACode :=
  (.seq (.reg [i (.bin .lss (e 17) (e 16))] [(18, l 0)])
  (.seq (.cond (e 18) .skip (.exit 2))
  (.seq (.blk 3 (.seq (.reg [i (.idxs 1 (e 15) (e 17)), i (.load true 1 (l 0)), i (.box 1 (v (.agg [.nil0]))), i (.store 1 (l 2) (l 1))] [(8, l 2)])
  (.seq (.reg [i (.load true 1 (e 8)), i (.call 172 [(l 0), (e 6)] false), i (.ext 0 (l 1)), i (.ext 1 (l 1)), i (.box 4 (v (.agg [.int .i64 0, .int .i64 0, .int .u64 0, .str []]))), i (.store 4 (l 4) (l 2))] [(9, l 4), (10, l 3)])
  (.seq (.seq (.reg [i (.bin .neq (e 10) (v (.int .i64 0)))] [(19, l 0)])
  (.cond (e 19) (.seq (.reg [i (.mov (v (.nil0)))] [(3, l 0), (4, (v (.int .i64 140)))])
  .ret) .skip))
  (.reg [i (.load true 4 (e 9)), i (.mkl 4 [(l 0)]), i (.app 4 (e 7) (l 1))] [(7, l 2)])))))
  (.reg [i (.bin .add (e 17) (v (.int .i64 1)))] [(17, l 0)]))))
def l_exec_run_project_1 : ACode :=
  (.seq (.reg [i (.bin .lss (e 13) (e 12))] [(14, l 0)])
  (.seq (.cond (e 14) .skip (.exit 0))
  (.seq (.blk 1 (.seq (.reg [i (.idxs 1 (e 11) (e 13)), i (.load false 1 (l 0))] [(6, l 1)])
  (.seq (.reg [i (.mknil 4)] [(7, l 0)])
  (.seq (.seq (.reg [i (.fld 9 (e 2)), i (.load false 1 (l 0)), i (.len (l 1))] [(15, l 1), (16, l 2), (17, (v (.int .i64 0)))])
  (.blk 2 (.loop [3, 4, 8, 9, 10, 18, 19] l_exec_run_project_0)))
  (.reg [i (.mkl 1 [(e 7)]), i (.app 1 (e 5) (l 0))] [(5, l 1)])))))
  (.reg [i (.bin .add (e 13) (v (.int .i64 1)))] [(13, l 0)]))))
def b_exec_run_project : ACode :=
  (.seq (.reg [i (.box 12 (e 1)), i (.mov (v (.nil0)))] [(2, l 0), (3, l 1), (4, (v (.int .i64 0)))])
  (.seq (.reg [i (.mknil 1)] [(5, l 0)])
  (.seq (.seq (.reg [i (.nilck (e 0)), i (.fld 7 (l 0)), i (.load false 1 (l 1)), i (.fld 1 (e 2)), i (.load false 1 (l 3)), i (.idxs 1 (l 2) (l 4)), i (.load false 1 (l 5)), i (.len (l 6))] [(11, l 6), (12, l 7), (13, (v (.int .i64 0)))])
  (.blk 0 (.loop [3, 4, 6, 7, 8, 9, 10, 14, 15, 16, 17, 18, 19] l_exec_run_project_1)))
  (.seq (.reg [i (.call 191 [(e 5)] false), i (.ext 0 (l 0)), i (.ext 1 (l 0))] [(3, l 1), (4, l 2)])
  .ret))))
def f_exec_run_project : AFunc := ⟨20, 2, .pure, [.env 3, .env 4], b_exec_run_project⟩
def b_exec_run_group : ACode :=
  (.seq (.reg [i (.box 12 (e 1)), i (.mov (v (.nil0)))] [(2, l 0), (3, l 1), (4, (v (.int .i64 0)))])
  (.seq (.reg [i (.nilck (e 0)), i (.fld 7 (l 0)), i (.load false 1 (l 1)), i (.fld 1 (e 2)), i (.load false 1 (l 3)), i (.idxs 1 (l 2) (l 4)), i (.load false 1 (l 5)), i (.load true 12 (e 2)), i (.call 119 [(l 6), (l 7), (v (.bool true)), (v (.fn 195 [] []))] false), i (.ext 0 (l 8)), i (.ext 1 (l 8))] [(3, l 9), (4, l 10)])
  .ret))
def f_exec_run_group : AFunc := ⟨5, 2, .pure, [.env 3, .env 4], b_exec_run_group⟩
def b_exec_run_partial : ACode :=
  (.seq (.reg [i (.box 12 (e 1)), i (.mov (v (.nil0)))] [(2, l 0), (3, l 1), (4, (v (.int .i64 0)))])
  (.seq (.reg [i (.load true 12 (e 2)), i (.nilck (e 0)), i (.fld 7 (l 1)), i (.load false 1 (l 2)), i (.fld 1 (e 2)), i (.load false 1 (l 4)), i (.idxs 1 (l 3) (l 5)), i (.load false 1 (l 6)), i (.call 50 [(l 0), (l 7)] false), i (.ext 0 (l 8)), i (.ext 1 (l 8))] [(3, l 9), (4, l 10)])
  .ret))
def f_exec_run_partial : AFunc := ⟨5, 2, .pure, [.env 3, .env 4], b_exec_run_partial⟩
def b_exec_run_final : ACode :=
  (.seq (.reg [i (.box 12 (e 1)), i (.mov (v (.nil0)))] [(2, l 0), (3, l 1), (4, (v (.int .i64 0)))])
  (.seq (.reg [i (.load true 12 (e 2)), i (.nilck (e 0)), i (.fld 7 (l 1)), i (.load false 1 (l 2)), i (.fld 1 (e 2)), i (.load false 1 (l 4)), i (.idxs 1 (l 3) (l 5)), i (.load false 1 (l 6)), i (.call 52 [(l 0), (l 7)] false), i (.ext 0 (l 8)), i (.ext 1 (l 8))] [(3, l 9), (4, l 10)])
  .ret))
def f_exec_run_final : AFunc := ⟨5, 2, .pure, [.env 3, .env 4], b_exec_run_final⟩
def b_exec_run_distinct : ACode :=
  (.seq (.reg [i (.box 12 (e 1)), i (.mov (v (.nil0)))] [(2, l 0), (3, l 1), (4, (v (.int .i64 0)))])
  (.seq (.reg [i (.nilck (e 0)), i (.fld 7 (l 0)), i (.load false 1 (l 1)), i (.fld 1 (e 2)), i (.load false 1 (l 3)), i (.idxs 1 (l 2) (l 4)), i (.load false 1 (l 5)), i (.call 173 [(l 6)] false), i (.ext 0 (l 7)), i (.ext 1 (l 7))] [(3, l 8), (4, l 9)])
  .ret))
def f_exec_run_distinct : AFunc := ⟨5, 2, .pure, [.env 3, .env 4], b_exec_run_distinct⟩
def b_exec_run_union : ACode :=
  (.seq (.reg [i (.box 12 (e 1)), i (.mov (v (.nil0)))] [(2, l 0), (3, l 1), (4, (v (.int .i64 0)))])
  (.seq (.reg [i (.nilck (e 0)), i (.fld 7 (l 0)), i (.load false 1 (l 1)), i (.fld 1 (e 2)), i (.load false 1 (l 3)), i (.idxs 1 (l 2) (l 4)), i (.load false 1 (l 5)), i (.nilck (e 0)), i (.fld 7 (l 7)), i (.load false 1 (l 8)), i (.fld 2 (e 2)), i (.load false 1 (l 10)), i (.idxs 1 (l 9) (l 11)), i (.load false 1 (l 12)), i (.mkl 1 [(l 6), (l 13)]), i (.call 78 [(l 14)] false), i (.call 191 [(l 15)] false), i (.ext 0 (l 16)), i (.ext 1 (l 16))] [(3, l 17), (4, l 18)])
  .ret))
def f_exec_run_union : AFunc := ⟨5, 2, .pure, [.env 3, .env 4], b_exec_run_union⟩
def b_exec_run_sort : ACode :=
  (.seq (.reg [i (.box 12 (e 1)), i (.mov (v (.nil0)))] [(2, l 0), (3, l 1), (4, (v (.int .i64 0)))])
  (.seq (.reg [i (.nilck (e 0)), i (.fld 7 (l 0)), i (.load false 1 (l 1)), i (.fld 1 (e 2)), i (.load false 1 (l 3)), i (.idxs 1 (l 2) (l 4)), i (.load false 1 (l 5)), i (.fld 10 (e 2)), i (.load false 1 (l 7)), i (.fld 11 (e 2)), i (.load false 1 (l 9)), i (.call 8 [(l 6), (l 8), (l 10)] false), i (.ext 0 (l 11)), i (.ext 1 (l 11))] [(3, l 12), (4, l 13)])
  .ret))
def f_exec_run_sort : AFunc := ⟨5, 2, .pure, [.env 3, .env 4], b_exec_run_sort⟩
def b_slices_ContainsFunc_api_Ord_api_Ord : ACode :=
  (.seq (.reg [] [(2, (v (.bool false)))])
  (.seq (.reg [i (.call 196 [(e 0), (e 1)] false), i (.bin .geq (l 0) (v (.int .i64 0)))] [(2, l 1)])
  .ret))
def f_slices_ContainsFunc_api_Ord_api_Ord : AFunc := ⟨3, 2, .pure, [.env 2], b_slices_ContainsFunc_api_Ord_api_Ord⟩
def b_denote_has_1 : ACode :=
  (.seq (.reg [i (.box 2 (e 0))] [(2, l 0), (3, (v (.bool false)))])
  (.seq (.reg [i (.fld 0 (e 2)), i (.load false 1 (l 0)), i (.bin .lss (l 1) (v (.int .i64 0))), g (l 2) false (.fld 0 (e 2)), g (l 2) false (.load false 1 (l 3)), g (l 2) false (.load false 1 (e 1)), g (l 2) false (.len (l 5)), g (l 2) false (.bin .geq (l 4) (l 6)), i (.pick (l 2) (v (.bool true)) (l 7))] [(3, l 8)])
  .ret))
def f_denote_has_1 : AFunc := ⟨4, 2, .pure, [.env 3], b_denote_has_1⟩
def b_denote_right_1 : ACode :=
  (.seq (.reg [] [(1, (v (.bool false)))])
  (.seq (.reg [i (.call 197 [(e 0)] false), i (.bin .neq (l 0) (v (.int .i64 0)))] [(1, l 1)])
  .ret))
def f_denote_right_1 : AFunc := ⟨2, 1, .pure, [.env 1], b_denote_right_1⟩
def b_row_Check : ACode :=
  (.seq (.reg [] [(1, (v (.int .i64 0)))])
  (.seq (.seq (.reg [i (.call 163 [(e 0)] false), i (.una .not (l 0))] [(2, l 1)])
  (.cond (e 2) (.seq (.reg [] [(1, (v (.int .i64 150)))])
  .ret) .skip))
  (.seq (.reg [] [(1, (v (.int .i64 0)))])
  .ret)))
def f_row_Check : AFunc := ⟨3, 1, .pure, [.env 1], b_row_Check⟩
def l_slices_IndexFunc_api_Row_api_Row_0 : ACode :=
  (.seq (.reg [i (.bin .lss (e 5) (e 4))] [(6, l 0)])
  (.seq (.cond (e 6) .skip (.exit 0))
  (.seq (.blk 1 (.seq (.reg [] [(3, e 5)])
  (.seq (.reg [i (.idxs 1 (e 0) (e 3)), i (.load false 1 (l 0)), i (.callv (e 1) [(l 1)])] [(7, l 2)])
  (.cond (e 7) (.seq (.reg [] [(2, e 3)])
  .ret) .skip))))
  (.reg [i (.bin .add (e 5) (v (.int .i64 1)))] [(5, l 0)]))))
def b_slices_IndexFunc_api_Row_api_Row : ACode :=
  (.seq (.reg [] [(2, (v (.int .i64 0)))])
  (.seq (.seq (.reg [i (.len (e 0))] [(4, l 0), (5, (v (.int .i64 0)))])
  (.blk 0 (.loop [2, 3, 6, 7] l_slices_IndexFunc_api_Row_api_Row_0)))
  (.seq (.reg [] [(2, (v (.int .i64 (-1))))])
  .ret)))
def f_slices_IndexFunc_api_Row_api_Row : AFunc := ⟨8, 2, .pure, [.env 2], b_slices_IndexFunc_api_Row_api_Row⟩
def b_slices_Clone_api_Row_api_Value : ACode :=
  (.seq (.reg [i (.mov (v (.nil0)))] [(1, l 0)])
  (.seq (.seq (.reg [i (.nils false (e 0))] [(2, l 0)])
  (.cond (e 2) (.seq (.reg [i (.mov (v (.nil0)))] [(1, l 0)])
  .ret) .skip))
  (.seq (.reg [i (.mov (v .nil0)), i (.app 4 (l 0) (e 0))] [(1, l 1)])
  .ret)))
def f_slices_Clone_api_Row_api_Value : AFunc := ⟨3, 1, .fresh 4, [.env 1], b_slices_Clone_api_Row_api_Value⟩
def b_denote_by : ACode :=
  (.seq (.reg [i (.box 1 (e 0))] [(1, l 0), (2, (v (.nilf)))])
  (.seq (.reg [i (.mkfn 198 [] [(e 1)])] [(2, l 0)])
  .ret))
def f_denote_by : AFunc := ⟨3, 1, .pure, [.env 2], b_denote_by⟩
def l_slices_EqualFunc_api_Row_api_Row_api_Row_api_Row_0 : ACode :=
  (.seq (.reg [i (.bin .lss (e 10) (e 9))] [(11, l 0)])
  (.seq (.cond (e 11) .skip (.exit 0))
  (.seq (.blk 1 (.seq (.reg [i (.idxs 1 (e 8) (e 10)), i (.load false 1 (l 0))] [(4, e 10), (5, l 1)])
  (.seq (.reg [i (.idxs 1 (e 1) (e 4)), i (.load false 1 (l 0))] [(6, l 1)])
  (.seq (.reg [i (.callv (e 2) [(e 5), (e 6)]), i (.una .not (l 0))] [(12, l 1)])
  (.cond (e 12) (.seq (.reg [] [(3, (v (.bool false)))])
  .ret) .skip)))))
  (.reg [i (.bin .add (e 10) (v (.int .i64 1)))] [(10, l 0)]))))
def b_slices_EqualFunc_api_Row_api_Row_api_Row_api_Row : ACode :=
  (.seq (.reg [] [(3, (v (.bool false)))])
  (.seq (.seq (.reg [i (.len (e 0)), i (.len (e 1)), i (.bin .neq (l 0) (l 1))] [(7, l 2)])
  (.cond (e 7) (.seq (.reg [] [(3, (v (.bool false)))])
  .ret) .skip))
  (.seq (.seq (.reg [i (.len (e 0))] [(8, e 0), (9, l 0), (10, (v (.int .i64 0)))])
  (.blk 0 (.loop [3, 4, 5, 6, 11, 12] l_slices_EqualFunc_api_Row_api_Row_api_Row_api_Row_0)))
  (.seq (.reg [] [(3, (v (.bool true)))])
  .ret))))
def f_slices_EqualFunc_api_Row_api_Row_api_Row_api_Row : AFunc := ⟨13, 3, .pure, [.env 3], b_slices_EqualFunc_api_Row_api_Row_api_Row_api_Row⟩
def b_blaw20_cut_api_ENode : ACode :=
  (.seq (.reg [i (.mov (v (.nil0)))] [(2, l 0)])
  (.seq (.reg [i (.mknil 8), i (.len (e 0)), i (.mins (l 1) [(e 1)]), i (.slice 8 (e 0) none (some (l 2))), i (.app 8 (l 0) (l 3))] [(2, l 4)])
  .ret))
def f_blaw20_cut_api_ENode : AFunc := ⟨3, 2, .fresh 8, [.env 2], b_blaw20_cut_api_ENode⟩
def b_exec_asked_1 : ACode :=
  (.seq (.reg [] [(2, (v (.bool false)))])
  (.seq (.reg [i (.load false 1 (e 1)), i (.len (e 0)), i (.bin .lss (l 0) (l 1)), g (l 2) true (.mov (e 0)), g (l 2) true (.load false 1 (e 1)), g (l 2) true (.idxs 4 (l 3) (l 4)), g (l 2) true (.fld 0 (l 5)), g (l 2) true (.load false 1 (l 6)), g (l 2) true (.bin .neq (l 7) (v (.int .i64 0))), i (.pick (l 2) (l 8) (v (.bool false)))] [(2, l 9)])
  .ret))
def f_exec_asked_1 : AFunc := ⟨3, 2, .pure, [.env 2], b_exec_asked_1⟩
def l_exec_grouped_0 : ACode :=
  (.seq (.reg [i (.bin .lss (e 19) (e 18))] [(20, l 0)])
  (.seq (.cond (e 20) .skip (.exit 2))
  (.seq (.blk 3 (.seq (.reg [i (.idxs 2 (e 17) (e 19)), i (.load true 2 (l 0)), i (.box 2 (v (.agg [.int .i64 0, .nil0]))), i (.store 2 (l 2) (l 1))] [(12, l 2), (11, e 19)])
  (.seq (.reg [i (.load false 1 (e 5)), i (.load true 2 (e 12)), i (.fld 1 (e 9)), i (.load false 1 (l 2)), i (.callv (l 0) [(e 11), (l 1), (l 3)]), i (.ext 0 (l 4)), i (.ext 1 (l 4)), i (.box 4 (v (.agg [.int .i64 0, .int .i64 0, .int .u64 0, .str []]))), i (.store 4 (l 7) (l 5))] [(13, l 7), (14, l 6)])
  (.seq (.seq (.reg [i (.bin .neq (e 14) (v (.int .i64 0)))] [(21, l 0)])
  (.cond (e 21) (.seq (.reg [i (.store 1 (e 6) (v (.nil0))), i (.store 1 (e 7) (v (.int .i64 140)))] [])
  .ret) .skip))
  (.reg [i (.load true 4 (e 13)), i (.mkl 4 [(l 0)]), i (.app 4 (e 10) (l 1))] [(10, l 2)])))))
  (.reg [i (.bin .add (e 19) (v (.int .i64 1)))] [(19, l 0)]))))
def q_exec_grouped_0 : ACode :=
  (.blk 1 (.seq (.reg [i (.fld 0 (e 9)), i (.load false 1 (l 0)), i (.call 114 [(l 1)] true)] [(10, l 2)])
  (.seq (.seq (.reg [i (.fld 8 (e 4)), i (.load false 1 (l 0)), i (.len (l 1))] [(17, l 1), (18, l 2), (19, (v (.int .i64 0)))])
  (.blk 2 (.loop [20] l_exec_grouped_0)))
  (.reg [i (.load false 1 (e 8)), i (.mkl 1 [(e 10)]), i (.app 1 (l 0) (l 1)), i (.store 1 (e 8) (l 2))] []))))
def q_exec_grouped_0p : ACode :=
  (.reg [i (.box 2 (v (.agg [.nil0, .nil0]))), i (.store 2 (l 0) (e 16))] [(9, l 0)])
def b_exec_grouped : ACode :=
  (.seq (.reg [i (.box 12 (e 1)), i (.box 1 (e 3)), i (.box 1 (v (.nil0))), i (.box 1 (v (.int .i64 0)))] [(4, l 0), (5, l 1), (6, l 2), (7, l 3)])
  (.seq (.reg [i (.box 1 (v (.nil0)))] [(8, l 0)])
  (.seq (.seq (.lift 8 0 1 (.reg [i (.fld 7 (e 4)), i (.load false 1 (l 0)), i (.call 200 [(e 0), (l 1), (e 2)] false)] [(15, l 2)]))
  (.blk 0 (.rng 22 (e 15) 199)))
  (.seq (.reg [i (.load false 1 (e 8)), i (.call 191 [(l 0)] false), i (.ext 0 (l 1)), i (.ext 1 (l 1)), i (.store 1 (e 6) (l 2)), i (.store 1 (e 7) (l 3))] [])
  .ret))))
def f_exec_grouped : AFunc := ⟨22, 4, .pure, [.cell false 1 6, .cell false 1 7], b_exec_grouped⟩
def r_exec_grouped_0 : ARound := ⟨22, [16], q_exec_grouped_0p, q_exec_grouped_0⟩
def l_exec_partial_1_0 : ACode :=
  (.seq (.reg [i (.bin .lss (e 13) (e 12))] [(14, l 0)])
  (.seq (.cond (e 14) .skip (.exit 0))
  (.seq (.blk 1 (.seq (.reg [i (.idxs 1 (e 11) (e 13)), i (.load false 1 (l 0))] [(7, l 1)])
  (.seq (.reg [i (.fld 1 (e 3)), i (.load true 1 (l 0)), i (.call 172 [(l 1), (e 7)] false), i (.ext 0 (l 2)), i (.ext 1 (l 2)), i (.box 4 (v (.agg [.int .i64 0, .int .i64 0, .int .u64 0, .str []]))), i (.store 4 (l 5) (l 3))] [(8, l 5), (9, l 4)])
  (.seq (.seq (.reg [i (.bin .eql (e 9) (v (.int .i64 0)))] [(15, l 0)])
  (.cond (e 15) (.reg [i (.load true 4 (e 6)), i (.load true 4 (e 8)), i (.call 201 [(l 0), (l 1)] false), i (.ext 0 (l 2)), i (.ext 1 (l 2)), i (.store 4 (e 6) (l 3))] [(9, l 4)]) .skip))
  (.seq (.reg [i (.bin .neq (e 9) (v (.int .i64 0)))] [(16, l 0)])
  (.cond (e 16) (.seq (.reg [i (.load true 4 (e 6)), i (.store 4 (e 4) (l 0))] [(5, e 9)])
  .ret) .skip))))))
  (.reg [i (.bin .add (e 13) (v (.int .i64 1)))] [(13, l 0)]))))
def b_exec_partial_1 : ACode :=
  (.seq (.reg [i (.box 2 (e 1)), i (.box 4 (v (.agg [.int .i64 0, .int .i64 0, .int .u64 0, .str []])))] [(3, l 0), (4, l 1), (5, (v (.int .i64 0)))])
  (.seq (.seq (.reg [i (.fld 0 (e 3)), i (.load false 1 (l 0)), i (.bin .neq (l 1) (v (.int .i64 3)))] [(10, l 2)])
  (.cond (e 10) (.seq (.reg [i (.load true 2 (e 3)), i (.call 19 [(l 0), (e 2)] false), i (.ext 0 (l 1)), i (.ext 1 (l 1)), i (.store 4 (e 4) (l 2))] [(5, l 3)])
  .ret) .skip))
  (.seq (.reg [i (.call 202 [] false), i (.box 4 (v (.agg [.int .i64 0, .int .i64 0, .int .u64 0, .str []]))), i (.store 4 (l 1) (l 0))] [(6, l 1)])
  (.seq (.seq (.reg [i (.len (e 2))] [(11, e 2), (12, l 0), (13, (v (.int .i64 0)))])
  (.blk 0 (.loop [5, 7, 8, 9, 14, 15, 16] l_exec_partial_1_0)))
  (.seq (.reg [i (.load true 4 (e 6)), i (.store 4 (e 4) (l 0))] [(5, (v (.int .i64 0)))])
  .ret)))))
def f_exec_partial_1 : AFunc := ⟨17, 3, .pure, [.cell true 4 4, .env 5], b_exec_partial_1⟩
def b_value_Null : ACode :=
  (.seq (.reg [i (.box 4 (v (.agg [.int .i64 0, .int .i64 0, .int .u64 0, .str []])))] [(0, l 0)])
  (.seq (.reg [i (.build [.int .i64 0, .int .i64 0, .int .u64 0, .str []] []), i (.store 4 (e 0) (l 0))] [])
  .ret))
def f_value_Null : AFunc := ⟨1, 0, .pure, [.cell true 4 0], b_value_Null⟩
def l_expr_Eval_0 : ACode :=
  (.seq (.reg [i (.bin .lss (e 12) (e 11))] [(13, l 0)])
  (.seq (.cond (e 13) .skip (.exit 0))
  (.seq (.blk 1 (.seq (.reg [i (.idxs 1 (e 10) (e 12)), i (.load false 1 (l 0))] [(7, l 1)])
  (.seq (.reg [i (.load false 1 (e 3)), i (.len (l 0)), i (.bin .geq (e 7) (l 1)), g (l 2) false (.load false 1 (e 3)), g (l 2) false (.mov (e 7)), g (l 2) false (.idxs 4 (l 3) (l 4)), g (l 2) false (.load true 4 (l 5)), g (l 2) false (.call 206 [(l 6)] false), g (l 2) false (.una .not (l 7)), i (.pick (l 2) (v (.bool true)) (l 8))] [(14, l 9)])
  (.cond (e 14) (.seq (.reg [i (.build [.int .i64 0, .int .i64 0, .int .u64 0, .str []] []), i (.store 4 (e 4) (l 0))] [(5, (v (.int .i64 2)))])
  .ret) .skip))))
  (.reg [i (.bin .add (e 12) (v (.int .i64 1)))] [(12, l 0)]))))
def b_expr_Eval : ACode :=
  (.seq (.reg [i (.box 1 (e 0)), i (.box 1 (e 1)), i (.box 4 (v (.agg [.int .i64 0, .int .i64 0, .int .u64 0, .str []])))] [(2, l 0), (3, l 1), (4, l 2), (5, (v (.int .i64 0)))])
  (.seq (.seq (.reg [i (.load true 1 (e 2)), i (.call 71 [(l 0)] false)] [(6, l 1)])
  (.seq (.reg [i (.bin .neq (e 6) (v (.int .i64 0)))] [(9, l 0)])
  (.cond (e 9) (.seq (.reg [i (.build [.int .i64 0, .int .i64 0, .int .u64 0, .str []] []), i (.store 4 (e 4) (l 0))] [(5, e 6)])
  .ret) .skip)))
  (.seq (.seq (.reg [i (.load true 1 (e 2)), i (.call 207 [(l 0)] false), i (.len (l 1))] [(10, l 1), (11, l 2), (12, (v (.int .i64 0)))])
  (.blk 0 (.loop [5, 7, 13, 14] l_expr_Eval_0)))
  (.seq (.reg [i (.call 205 [] false), i (.box 1 (v (.nilm))), i (.store 1 (l 1) (l 0))] [(8, l 1)])
  (.seq (.reg [i (.load true 1 (e 2)), i (.mkfn 203 [] [(e 3), (e 8)]), i (.call 204 [(l 0), (l 1)] false), i (.ext 0 (l 2)), i (.ext 1 (l 2)), i (.store 4 (e 4) (l 3))] [(5, l 4)])
  .ret)))))
def f_expr_Eval : AFunc := ⟨15, 2, .pure, [.cell true 4 4, .env 5], b_expr_Eval⟩
def b_arith_Sum : ACode :=
  (.seq (.reg [i (.box 4 (e 0)), i (.box 4 (e 1)), i (.box 4 (v (.agg [.int .i64 0, .int .i64 0, .int .u64 0, .str []])))] [(2, l 0), (3, l 1), (4, l 2), (5, (v (.int .i64 0)))])
  (.seq (.seq (.reg [i (.load true 4 (e 2)), i (.mkl 4 [(l 0)]), i (.call 210 [(v (.int .i64 4)), (l 1)] false), i (.load true 4 (e 3)), i (.mkl 4 [(l 3)]), i (.call 210 [(v (.int .i64 2)), (l 4)] false)] [(6, l 2), (7, l 5)])
  (.blk 0 (.seq (.reg [i (.bin .eql (e 6) (v (.int .i64 120))), g (l 0) false (.mov (e 7)), g (l 0) false (.bin .eql (l 1) (v (.int .i64 120))), i (.pick (l 0) (v (.bool true)) (l 2))] [(8, l 3)])
  (.cond (e 8) (.seq (.reg [i (.build [.int .i64 0, .int .i64 0, .int .u64 0, .str []] []), i (.store 4 (e 4) (l 0))] [(5, (v (.int .i64 120)))])
  .ret) (.seq (.reg [i (.bin .neq (e 6) (v (.int .i64 0))), g (l 0) false (.mov (e 7)), g (l 0) false (.bin .neq (l 1) (v (.int .i64 0))), i (.pick (l 0) (v (.bool true)) (l 2))] [(9, l 3)])
  (.cond (e 9) (.seq (.reg [i (.build [.int .i64 0, .int .i64 0, .int .u64 0, .str []] []), i (.store 4 (e 4) (l 0))] [(5, (v (.int .i64 2)))])
  .ret) (.seq (.reg [i (.fld 0 (e 3)), i (.load false 1 (l 0)), i (.bin .eql (l 1) (v (.int .i64 0)))] [(10, l 2)])
  (.cond (e 10) (.seq (.reg [i (.load true 4 (e 2)), i (.store 4 (e 4) (l 0))] [(5, (v (.int .i64 0)))])
  .ret) (.seq (.reg [i (.fld 0 (e 2)), i (.load false 1 (l 0)), i (.bin .eql (l 1) (v (.int .i64 0)))] [(11, l 2)])
  (.cond (e 11) (.seq (.reg [i (.load true 4 (e 3)), i (.call 208 [(l 0)] false), i (.store 4 (e 4) (l 1))] [(5, (v (.int .i64 0)))])
  .ret) .skip))))))))))
  (.seq (.reg [i (.load true 4 (e 2)), i (.load true 4 (e 3)), i (.call 208 [(l 1)] false), i (.call 209 [(l 0), (l 2)] false), i (.ext 0 (l 3)), i (.ext 1 (l 3)), i (.store 4 (e 4) (l 4))] [(5, l 5)])
  .ret)))
def f_arith_Sum : AFunc := ⟨12, 2, .pure, [.cell true 4 4, .env 5], b_arith_Sum⟩
def l_exec_final_1_0 : ACode :=
  (.seq (.reg [i (.bin .lss (e 13) (e 12))] [(14, l 0)])
  (.seq (.cond (e 14) .skip (.exit 0))
  (.seq (.blk 1 (.seq (.reg [i (.idxs 1 (e 11) (e 13)), i (.load false 1 (l 0))] [(8, l 1)])
  (.seq (.reg [i (.fld 7 (e 3)), i (.load false 1 (l 0)), i (.len (l 1)), i (.bin .add (l 2) (e 0)), i (.idxs 4 (e 8) (l 3)), i (.load true 4 (l 4)), i (.box 4 (v (.agg [.int .i64 0, .int .i64 0, .int .u64 0, .str []]))), i (.store 4 (l 6) (l 5))] [(9, l 6)])
  (.seq (.reg [i (.fld 0 (e 9)), i (.load false 1 (l 0)), i (.bin .neq (l 1) (v (.int .i64 0)))] [(15, l 2)])
  (.cond (e 15) (.reg [i (.load true 4 (e 9)), i (.mkl 4 [(l 0)]), i (.app 4 (e 7) (l 1))] [(7, l 2)]) .skip)))))
  (.reg [i (.bin .add (e 13) (v (.int .i64 1)))] [(13, l 0)]))))
def b_exec_final_1 : ACode :=
  (.seq (.reg [i (.box 2 (e 1)), i (.box 4 (v (.agg [.int .i64 0, .int .i64 0, .int .u64 0, .str []])))] [(4, l 0), (5, l 1), (6, (v (.int .i64 0)))])
  (.seq (.reg [i (.mknil 4)] [(7, l 0)])
  (.seq (.seq (.reg [i (.len (e 2))] [(11, e 2), (12, l 0), (13, (v (.int .i64 0)))])
  (.blk 0 (.loop [8, 9, 14, 15] l_exec_final_1_0)))
  (.seq (.reg [i (.mov (v (.fn 213 [] [])))] [(10, l 0)])
  (.seq (.blk 2 (.seq (.reg [i (.fld 0 (e 4)), i (.load false 1 (l 0)), i (.bin .eql (l 1) (v (.int .i64 3)))] [(16, l 2)])
  (.cond (e 16) (.seq (.reg [i (.call 211 [(e 7), (v (.fn 212 [] []))] false), i (.ext 0 (l 0)), i (.ext 1 (l 0)), i (.store 4 (e 5) (l 1))] [(6, l 2)])
  .ret) (.seq (.reg [i (.fld 0 (e 4)), i (.load false 1 (l 0)), i (.bin .eql (l 1) (v (.int .i64 1))), g (l 2) false (.fld 0 (e 4)), g (l 2) false (.load false 1 (l 3)), g (l 2) false (.bin .eql (l 4) (v (.int .i64 2))), i (.pick (l 2) (v (.bool true)) (l 5))] [(17, l 6)])
  (.cond (e 17) (.seq (.reg [i (.call 149 [(v (.int .i64 0))] false), i (.mkl 4 [(l 0)]), i (.app 4 (e 7) (l 1)), i (.call 211 [(l 2), (v (.fn 201 [] []))] false), i (.ext 0 (l 3)), i (.ext 1 (l 3)), i (.store 4 (e 5) (l 4))] [(6, l 5)])
  .ret) (.seq (.reg [i (.len (e 7)), i (.bin .eql (l 0) (v (.int .i64 0)))] [(18, l 1)])
  (.cond (e 18) (.seq (.reg [i (.call 202 [] false), i (.store 4 (e 5) (l 0))] [(6, (v (.int .i64 0)))])
  .ret) (.seq (.reg [i (.fld 0 (e 4)), i (.load false 1 (l 0)), i (.bin .eql (l 1) (v (.int .i64 4)))] [(19, l 2)])
  (.cond (e 19) (.seq (.reg [i (.call 151 [(e 7), (e 10)] false), i (.store 4 (e 5) (l 0))] [(6, (v (.int .i64 0)))])
  .ret) .skip)))))))))
  (.seq (.reg [i (.call 147 [(e 7), (e 10)] false), i (.store 4 (e 5) (l 0))] [(6, (v (.int .i64 0)))])
  .ret))))))
def f_exec_final_1 : AFunc := ⟨20, 4, .pure, [.cell true 4 5, .env 6], b_exec_final_1⟩
def b_exec_final_1_1 : ACode :=
  (.seq (.reg [i (.box 4 (e 0)), i (.box 4 (e 1))] [(2, l 0), (3, l 1), (4, (v (.int .i64 0)))])
  (.seq (.reg [i (.load true 4 (e 2)), i (.mkl 4 [(l 0)]), i (.load true 4 (e 3)), i (.mkl 4 [(l 2)]), i (.call 214 [(l 1), (l 3)] false)] [(4, l 4)])
  .ret))
def f_exec_final_1_1 : AFunc := ⟨5, 2, .pure, [.env 4], b_exec_final_1_1⟩
def b_row_Compare : ACode :=
  (.seq (.reg [] [(2, (v (.int .i64 0)))])
  (.seq (.seq (.reg [i (.call 163 [(e 0)] false), i (.una .not (l 0)), g (l 1) false (.mov (e 1)), g (l 1) false (.call 163 [(l 2)] false), g (l 1) false (.una .not (l 3)), i (.pick (l 1) (v (.bool true)) (l 4))] [(3, l 5)])
  (.cond (e 3) (.seq (.reg [] [(2, (v (.int .i64 0)))])
  .ret) .skip))
  (.seq (.reg [i (.call 140 [(e 0), (e 1)] false)] [(2, l 0)])
  .ret)))
def f_row_Compare : AFunc := ⟨4, 2, .pure, [.env 2], b_row_Compare⟩
def l_exec_summed_0 : ACode :=
  (.seq (.reg [i (.bin .lss (e 10) (e 9))] [(11, l 0)])
  (.seq (.cond (e 11) .skip (.exit 0))
  (.seq (.blk 1 (.seq (.reg [i (.idxs 4 (e 8) (e 10)), i (.load true 4 (l 0)), i (.box 4 (v (.agg [.int .i64 0, .int .i64 0, .int .u64 0, .str []]))), i (.store 4 (l 2) (l 1))] [(5, l 2)])
  (.seq (.reg [i (.load true 4 (e 4)), i (.load true 4 (e 5)), i (.callv (e 1) [(l 0), (l 1)]), i (.ext 0 (l 2)), i (.ext 1 (l 2)), i (.box 4 (v (.agg [.int .i64 0, .int .i64 0, .int .u64 0, .str []]))), i (.store 4 (l 5) (l 3))] [(6, l 5), (7, l 4)])
  (.seq (.seq (.reg [i (.bin .neq (e 7) (v (.int .i64 0)))] [(12, l 0)])
  (.cond (e 12) (.seq (.reg [i (.load true 4 (e 6)), i (.store 4 (e 2) (l 0))] [(3, e 7)])
  .ret) .skip))
  (.reg [i (.load true 4 (e 6)), i (.store 4 (e 4) (l 0))] [])))))
  (.reg [i (.bin .add (e 10) (v (.int .i64 1)))] [(10, l 0)]))))
def b_exec_summed : ACode :=
  (.seq (.reg [i (.box 4 (v (.agg [.int .i64 0, .int .i64 0, .int .u64 0, .str []])))] [(2, l 0), (3, (v (.int .i64 0)))])
  (.seq (.reg [i (.call 202 [] false), i (.box 4 (v (.agg [.int .i64 0, .int .i64 0, .int .u64 0, .str []]))), i (.store 4 (l 1) (l 0))] [(4, l 1)])
  (.seq (.seq (.reg [i (.len (e 0))] [(8, e 0), (9, l 0), (10, (v (.int .i64 0)))])
  (.blk 0 (.loop [3, 5, 6, 7, 11, 12] l_exec_summed_0)))
  (.seq (.reg [i (.load true 4 (e 4)), i (.call 215 [(l 0)] false), i (.ext 0 (l 1)), i (.ext 1 (l 1)), i (.store 4 (e 2) (l 2))] [(3, l 3)])
  .ret))))
def f_exec_summed : AFunc := ⟨13, 2, .pure, [.cell true 4 2, .env 3], b_exec_summed⟩
def b_arith_Join : ACode :=
  (.seq (.reg [i (.box 4 (e 0)), i (.box 4 (e 1)), i (.box 4 (v (.agg [.int .i64 0, .int .i64 0, .int .u64 0, .str []])))] [(2, l 0), (3, l 1), (4, l 2), (5, (v (.int .i64 0)))])
  (.seq (.seq (.reg [i (.load true 4 (e 2)), i (.load true 4 (e 3)), i (.mkl 4 [(l 0), (l 1)]), i (.call 210 [(v (.int .i64 4)), (l 2)] false)] [(6, l 3)])
  (.blk 0 (.seq (.reg [i (.bin .neq (e 6) (v (.int .i64 0)))] [(7, l 0)])
  (.cond (e 7) (.seq (.reg [i (.build [.int .i64 0, .int .i64 0, .int .u64 0, .str []] []), i (.store 4 (e 4) (l 0))] [(5, e 6)])
  .ret) (.seq (.reg [i (.fld 0 (e 2)), i (.load false 1 (l 0)), i (.bin .eql (l 1) (v (.int .i64 0)))] [(8, l 2)])
  (.cond (e 8) (.seq (.reg [i (.load true 4 (e 3)), i (.store 4 (e 4) (l 0))] [(5, (v (.int .i64 0)))])
  .ret) (.seq (.reg [i (.fld 0 (e 3)), i (.load false 1 (l 0)), i (.bin .eql (l 1) (v (.int .i64 0)))] [(9, l 2)])
  (.cond (e 9) (.seq (.reg [i (.load true 4 (e 2)), i (.store 4 (e 4) (l 0))] [(5, (v (.int .i64 0)))])
  .ret) .skip))))))))
  (.seq (.reg [i (.load true 4 (e 2)), i (.load true 4 (e 3)), i (.call 209 [(l 0), (l 1)] false), i (.ext 0 (l 2)), i (.ext 1 (l 2)), i (.store 4 (e 4) (l 3))] [(5, l 4)])
  .ret)))
def f_arith_Join : AFunc := ⟨10, 2, .pure, [.cell true 4 4, .env 5], b_arith_Join⟩
def b_value_Int : ACode :=
  (.seq (.reg [i (.box 4 (v (.agg [.int .i64 0, .int .i64 0, .int .u64 0, .str []])))] [(1, l 0)])
  (.seq (.reg [i (.build [.int .i64 0, .int .i64 0, .int .u64 0, .str []] [(0, 1, (v (.int .i64 2))), (1, 1, (e 0))]), i (.store 4 (e 1) (l 0))] [])
  .ret))
def f_value_Int : AFunc := ⟨2, 1, .pure, [.cell true 4 1], b_value_Int⟩
def l_slices_MinFunc_api_Value_api_Value_0 : ACode :=
  (.seq (.seq (.reg [i (.len (e 0)), i (.bin .lss (e 4) (l 0))] [(6, l 1)])
  (.cond (e 6) .skip (.exit 0)))
  (.seq (.blk 1 (.seq (.reg [i (.idxs 4 (e 0) (e 4)), i (.load true 4 (l 0)), i (.load true 4 (e 3)), i (.callv (e 1) [(l 1), (l 2)]), i (.bin .lss (l 3) (v (.int .i64 0)))] [(7, l 4)])
  (.cond (e 7) (.reg [i (.idxs 4 (e 0) (e 4)), i (.load true 4 (l 0)), i (.store 4 (e 3) (l 1))] []) .skip)))
  (.reg [i (.bin .add (e 4) (v (.int .i64 1)))] [(4, l 0)])))
def b_slices_MinFunc_api_Value_api_Value : ACode :=
  (.seq (.reg [i (.box 4 (v (.agg [.int .i64 0, .int .i64 0, .int .u64 0, .str []])))] [(2, l 0)])
  (.seq (.seq (.reg [i (.len (e 0)), i (.bin .lss (l 0) (v (.int .i64 1)))] [(5, l 1)])
  (.cond (e 5) (.reg [i (.bad), i (.bad)] []) .skip))
  (.seq (.reg [i (.idxs 4 (e 0) (v (.int .i64 0))), i (.load true 4 (l 0)), i (.box 4 (v (.agg [.int .i64 0, .int .i64 0, .int .u64 0, .str []]))), i (.store 4 (l 2) (l 1))] [(3, l 2)])
  (.seq (.seq (.reg [] [(4, (v (.int .i64 1)))])
  (.blk 0 (.loop [6, 7] l_slices_MinFunc_api_Value_api_Value_0)))
  (.seq (.reg [i (.load true 4 (e 3)), i (.store 4 (e 2) (l 0))] [])
  .ret)))))
def f_slices_MinFunc_api_Value_api_Value : AFunc := ⟨8, 2, .pure, [.cell true 4 2], b_slices_MinFunc_api_Value_api_Value⟩
def l_slices_MaxFunc_api_Value_api_Value_0 : ACode :=
  (.seq (.seq (.reg [i (.len (e 0)), i (.bin .lss (e 4) (l 0))] [(6, l 1)])
  (.cond (e 6) .skip (.exit 0)))
  (.seq (.blk 1 (.seq (.reg [i (.idxs 4 (e 0) (e 4)), i (.load true 4 (l 0)), i (.load true 4 (e 3)), i (.callv (e 1) [(l 1), (l 2)]), i (.bin .gtr (l 3) (v (.int .i64 0)))] [(7, l 4)])
  (.cond (e 7) (.reg [i (.idxs 4 (e 0) (e 4)), i (.load true 4 (l 0)), i (.store 4 (e 3) (l 1))] []) .skip)))
  (.reg [i (.bin .add (e 4) (v (.int .i64 1)))] [(4, l 0)])))
def b_slices_MaxFunc_api_Value_api_Value : ACode :=
  (.seq (.reg [i (.box 4 (v (.agg [.int .i64 0, .int .i64 0, .int .u64 0, .str []])))] [(2, l 0)])
  (.seq (.seq (.reg [i (.len (e 0)), i (.bin .lss (l 0) (v (.int .i64 1)))] [(5, l 1)])
  (.cond (e 5) (.reg [i (.bad), i (.bad)] []) .skip))
  (.seq (.reg [i (.idxs 4 (e 0) (v (.int .i64 0))), i (.load true 4 (l 0)), i (.box 4 (v (.agg [.int .i64 0, .int .i64 0, .int .u64 0, .str []]))), i (.store 4 (l 2) (l 1))] [(3, l 2)])
  (.seq (.seq (.reg [] [(4, (v (.int .i64 1)))])
  (.blk 0 (.loop [6, 7] l_slices_MaxFunc_api_Value_api_Value_0)))
  (.seq (.reg [i (.load true 4 (e 3)), i (.store 4 (e 2) (l 0))] [])
  .ret)))))
def f_slices_MaxFunc_api_Value_api_Value : AFunc := ⟨8, 2, .pure, [.cell true 4 2], b_slices_MaxFunc_api_Value_api_Value⟩
def b_bref05_Value : ACode :=
  (.seq (.reg [i (.box 4 (e 0)), i (.box 4 (e 1))] [(2, l 0), (3, l 1), (4, (v (.int .i64 0)))])
  (.seq (.seq (.reg [i (.fld 0 (e 2)), i (.load false 1 (l 0)), i (.fld 0 (e 3)), i (.load false 1 (l 2)), i (.bin .neq (l 1) (l 3))] [(5, l 4)])
  (.cond (e 5) (.seq (.reg [i (.fld 0 (e 2)), i (.load false 1 (l 0)), i (.fld 0 (e 3)), i (.load false 1 (l 2)), i (.bin .lss (l 1) (l 3)), i (.call 137 [(l 4)] false)] [(4, l 5)])
  .ret) .skip))
  (.seq (.seq (.reg [i (.fld 1 (e 2)), i (.load false 1 (l 0)), i (.fld 1 (e 3)), i (.load false 1 (l 2)), i (.bin .neq (l 1) (l 3))] [(6, l 4)])
  (.cond (e 6) (.seq (.reg [i (.fld 1 (e 2)), i (.load false 1 (l 0)), i (.fld 1 (e 3)), i (.load false 1 (l 2)), i (.bin .lss (l 1) (l 3)), i (.call 137 [(l 4)] false)] [(4, l 5)])
  .ret) .skip))
  (.seq (.seq (.reg [i (.fld 2 (e 2)), i (.load false 1 (l 0)), i (.fld 2 (e 3)), i (.load false 1 (l 2)), i (.bin .neq (l 1) (l 3))] [(7, l 4)])
  (.cond (e 7) (.seq (.reg [i (.fld 2 (e 2)), i (.load false 1 (l 0)), i (.fld 2 (e 3)), i (.load false 1 (l 2)), i (.bin .lss (l 1) (l 3)), i (.call 137 [(l 4)] false)] [(4, l 5)])
  .ret) .skip))
  (.seq (.seq (.reg [i (.fld 3 (e 2)), i (.load false 1 (l 0)), i (.fld 3 (e 3)), i (.load false 1 (l 2)), i (.bin .neq (l 1) (l 3))] [(8, l 4)])
  (.cond (e 8) (.seq (.reg [i (.fld 3 (e 2)), i (.load false 1 (l 0)), i (.fld 3 (e 3)), i (.load false 1 (l 2)), i (.bin .lss (l 1) (l 3)), i (.call 137 [(l 4)] false)] [(4, l 5)])
  .ret) .skip))
  (.seq (.reg [] [(4, (v (.int .i64 0)))])
  .ret))))))
def f_bref05_Value : AFunc := ⟨9, 2, .pure, [.env 4], b_bref05_Value⟩
def b_bref05_sign : ACode :=
  (.seq (.reg [] [(1, (v (.int .i64 0)))])
  (.seq (.seq (.reg [] [(2, e 0)])
  (.cond (e 2) (.seq (.reg [] [(1, (v (.int .i64 (-1))))])
  .ret) .skip))
  (.seq (.reg [] [(1, (v (.int .i64 1)))])
  .ret)))
def f_bref05_sign : AFunc := ⟨3, 1, .pure, [.env 1], b_bref05_sign⟩
def b_row_asked_1 : ACode :=
  (.seq (.reg [] [(1, (v (.bool false)))])
  (.seq (.reg [i (.bin .lss (e 0) (v (.int .i64 0)))] [(1, l 0)])
  .ret))
def f_row_asked_1 : AFunc := ⟨2, 1, .pure, [.env 1], b_row_asked_1⟩
def b_row_has : ACode :=
  (.seq (.reg [i (.box 1 (e 0))] [(2, l 0), (3, (v (.bool false)))])
  (.seq (.reg [i (.mkfn 230 [] [(e 2)])] [(4, l 0)])
  (.seq (.reg [i (.len (e 1)), i (.bin .leq (l 0) (v (.int .i64 16))), g (l 1) true (.mov (e 1)), g (l 1) true (.mov (e 4)), g (l 1) true (.call 77 [(l 2), (l 3)] false), g (l 1) true (.una .not (l 4)), i (.pick (l 1) (l 5) (v (.bool false)))] [(3, l 6)])
  .ret)))
def f_row_has : AFunc := ⟨5, 2, .pure, [.env 3], b_row_has⟩
def l_slices_CompareFunc_api_Row_api_Row_api_Value_api_Value_0 : ACode :=
  (.seq (.reg [i (.bin .lss (e 10) (e 9))] [(11, l 0)])
  (.seq (.cond (e 11) .skip (.exit 0))
  (.seq (.blk 1 (.seq (.reg [i (.idxs 4 (e 8) (e 10)), i (.load true 4 (l 0)), i (.box 4 (v (.agg [.int .i64 0, .int .i64 0, .int .u64 0, .str []]))), i (.store 4 (l 2) (l 1))] [(5, l 2), (4, e 10)])
  (.seq (.seq (.reg [i (.len (e 1)), i (.bin .geq (e 4) (l 0))] [(12, l 1)])
  (.cond (e 12) (.seq (.reg [] [(3, (v (.int .i64 1)))])
  .ret) .skip))
  (.seq (.reg [i (.idxs 4 (e 1) (e 4)), i (.load true 4 (l 0)), i (.box 4 (v (.agg [.int .i64 0, .int .i64 0, .int .u64 0, .str []]))), i (.store 4 (l 2) (l 1))] [(6, l 2)])
  (.seq (.reg [i (.load true 4 (e 5)), i (.load true 4 (e 6)), i (.callv (e 2) [(l 0), (l 1)])] [(7, l 2)])
  (.seq (.reg [i (.bin .neq (e 7) (v (.int .i64 0)))] [(13, l 0)])
  (.cond (e 13) (.seq (.reg [] [(3, e 7)])
  .ret) .skip)))))))
  (.reg [i (.bin .add (e 10) (v (.int .i64 1)))] [(10, l 0)]))))
def b_slices_CompareFunc_api_Row_api_Row_api_Value_api_Value : ACode :=
  (.seq (.reg [] [(3, (v (.int .i64 0)))])
  (.seq (.seq (.reg [i (.len (e 0))] [(8, e 0), (9, l 0), (10, (v (.int .i64 0)))])
  (.blk 0 (.loop [3, 4, 5, 6, 7, 11, 12, 13] l_slices_CompareFunc_api_Row_api_Row_api_Value_api_Value_0)))
  (.seq (.seq (.reg [i (.len (e 0)), i (.len (e 1)), i (.bin .lss (l 0) (l 1))] [(14, l 2)])
  (.cond (e 14) (.seq (.reg [] [(3, (v (.int .i64 (-1))))])
  .ret) .skip))
  (.seq (.reg [] [(3, (v (.int .i64 0)))])
  .ret))))
def f_slices_CompareFunc_api_Row_api_Row_api_Value_api_Value : AFunc := ⟨15, 3, .pure, [.env 3], b_slices_CompareFunc_api_Row_api_Row_api_Value_api_Value⟩
def b_row_values : ACode :=
  (.seq (.reg [i (.box 4 (e 0)), i (.box 4 (e 1))] [(2, l 0), (3, l 1), (4, (v (.int .i64 0)))])
  (.seq (.reg [i (.fld 0 (e 2)), i (.load false 1 (l 0)), i (.fld 0 (e 3)), i (.load false 1 (l 2)), i (.call 242 [(l 1), (l 3)] false), i (.fld 1 (e 2)), i (.load false 1 (l 5)), i (.fld 1 (e 3)), i (.load false 1 (l 7)), i (.call 243 [(l 6), (l 8)] false), i (.fld 2 (e 2)), i (.load false 1 (l 10)), i (.fld 2 (e 3)), i (.load false 1 (l 12)), i (.call 244 [(l 11), (l 13)] false), i (.fld 3 (e 2)), i (.load false 1 (l 15)), i (.fld 3 (e 3)), i (.load false 1 (l 17)), i (.call 245 [(l 16), (l 18)] false), i (.mkl 1 [(l 4), (l 9), (l 14), (l 19)]), i (.call 141 [(l 20)] false)] [(4, l 21)])
  .ret))
def f_row_values : AFunc := ⟨5, 2, .pure, [.env 4], b_row_values⟩
def l_slices_Equal_api_Row_api_Value_0 : ACode :=
  (.seq (.reg [i (.bin .lss (e 6) (e 5))] [(7, l 0)])
  (.seq (.cond (e 7) .skip (.exit 0))
  (.seq (.blk 1 (.seq (.reg [] [(3, e 6)])
  (.seq (.reg [i (.idxs 4 (e 0) (e 3)), i (.load true 4 (l 0)), i (.idxs 4 (e 1) (e 3)), i (.load true 4 (l 2)), i (.eqa true [0, 0, 0, 2] (l 1) (l 3))] [(8, l 4)])
  (.cond (e 8) (.seq (.reg [] [(2, (v (.bool false)))])
  .ret) .skip))))
  (.reg [i (.bin .add (e 6) (v (.int .i64 1)))] [(6, l 0)]))))
def b_slices_Equal_api_Row_api_Value : ACode :=
  (.seq (.reg [] [(2, (v (.bool false)))])
  (.seq (.seq (.reg [i (.len (e 0)), i (.len (e 1)), i (.bin .neq (l 0) (l 1))] [(4, l 2)])
  (.cond (e 4) (.seq (.reg [] [(2, (v (.bool false)))])
  .ret) .skip))
  (.seq (.seq (.reg [i (.len (e 0))] [(5, l 0), (6, (v (.int .i64 0)))])
  (.blk 0 (.loop [2, 3, 7, 8] l_slices_Equal_api_Row_api_Value_0)))
  (.seq (.reg [] [(2, (v (.bool true)))])
  .ret))))
def f_slices_Equal_api_Row_api_Value : AFunc := ⟨9, 2, .pure, [.env 2], b_slices_Equal_api_Row_api_Value⟩
def l_row_runs_1_0 : ACode :=
  (.seq (.seq (.reg [i (.load false 1 (e 1)), i (.len (l 0)), i (.bin .lss (e 3) (l 1)), g (l 2) true (.load false 1 (e 2)), g (l 2) true (.load false 1 (e 1)), g (l 2) true (.idxs 1 (l 4) (v (.int .i64 0))), g (l 2) true (.load false 1 (l 5)), g (l 2) true (.load false 1 (e 1)), g (l 2) true (.mov (e 3)), g (l 2) true (.idxs 1 (l 7) (l 8)), g (l 2) true (.load false 1 (l 9)), g (l 2) true (.callv (l 3) [(l 6), (l 10)]), i (.pick (l 2) (l 11) (v (.bool false)))] [(5, l 12)])
  (.cond (e 5) .skip (.exit 2)))
  (.blk 3 (.reg [i (.bin .add (e 3) (v (.int .i64 1)))] [(3, l 0)])))
def l_row_runs_1_1 : ACode :=
  (.seq (.seq (.reg [i (.load false 1 (e 1)), i (.len (l 0)), i (.bin .gtr (l 1) (v (.int .i64 0)))] [(4, l 2)])
  (.cond (e 4) .skip (.exit 0)))
  (.blk 1 (.seq (.reg [] [(3, (v (.int .i64 1)))])
  (.seq (.blk 2 (.loop [5] l_row_runs_1_0))
  (.seq (.seq (.reg [i (.load false 1 (e 1)), i (.slice 1 (l 0) none (some (e 3))), i (.callv (e 0) [(l 1)]), i (.una .not (l 2))] [(6, l 3)])
  (.cond (e 6) .ret .skip))
  (.reg [i (.load false 1 (e 1)), i (.slice 1 (l 0) (some (e 3)) none), i (.store 1 (e 1) (l 1))] []))))))
def b_row_runs_1 : ACode :=
  (.blk 0 (.loop [3, 4, 5, 6] l_row_runs_1_1))
def f_row_runs_1 : AFunc := ⟨7, 3, .keep, [], b_row_runs_1⟩
def l_expr_firsts_0 : ACode :=
  (.seq (.reg [i (.bin .lss (e 21) (e 20))] [(22, l 0)])
  (.seq (.cond (e 22) .skip (.exit 2))
  (.seq (.blk 3 (.seq (.reg [i (.idxs 1 (e 19) (e 21)), i (.load false 1 (l 0))] [(12, e 21), (13, l 1)])
  (.regd [i (.idxs 1 (e 4) (e 13)), i (.load false 1 (l 0)), i (.mins (e 11) [(l 1)]), i (.idxa 2 1 (e 10) (e 12)), i (.store 1 (l 3) (e 13))] [(11, l 2)] [(0, 5), (1, 5)])))
  (.reg [i (.bin .add (e 21) (v (.int .i64 1)))] [(21, l 0)]))))
def l_expr_firsts_1 : ACode :=
  (.seq (.reg [i (.bin .lss (e 16) (e 15))] [(17, l 0)])
  (.seq (.cond (e 17) .skip (.exit 0))
  (.seq (.blk 1 (.seq (.reg [i (.idxs 8 (e 14) (e 16)), i (.load true 8 (l 0)), i (.box 8 (v (.agg [.int .i64 0, .int .i64 0, .int .i64 0, .int .i64 0, .int .i64 0, .int .i64 0, .int .u64 0, .str []]))), i (.store 8 (l 2) (l 1))] [(7, l 2), (6, e 16)])
  (.seq (.reg [i (.fld 0 (e 7)), i (.load false 1 (l 0)), i (.call 247 [(l 1)] false)] [(8, l 2)])
  (.seq (.seq (.reg [i (.bin .lss (e 8) (v (.int .i64 0))), g (l 0) false (.mov (e 8)), g (l 0) false (.mov (e 5)), g (l 0) false (.len (l 2)), g (l 0) false (.bin .gtr (l 1) (l 3)), i (.pick (l 0) (v (.bool true)) (l 4)), g (l 5) false (.load true 8 (e 7)), g (l 5) false (.call 246 [(l 6)] false), g (l 5) false (.una .not (l 7)), i (.pick (l 5) (v (.bool true)) (l 8))] [(18, l 9)])
  (.cond (e 18) (.seq (.reg [i (.mov (v (.nil0)))] [(2, l 0), (3, (v (.bool false)))])
  .ret) .skip))
  (.seq (.reg [i (.len (e 5)), i (.bin .sub (l 0) (e 8)), i (.slice 1 (e 5) (some (l 1)) none)] [(9, l 2)])
  (.seq (.reg [i (.build [.int .i64 0, .int .i64 0] [(0, 1, (v (.int .i64 (-1)))), (1, 1, (v (.int .i64 (-1))))]), i (.box 2 (v (.agg [.int .i64 0, .int .i64 0]))), i (.store 2 (l 1) (l 0))] [(10, l 1)])
  (.seq (.reg [] [(11, e 6)])
  (.seq (.seq (.reg [i (.len (e 9))] [(19, e 9), (20, l 0), (21, (v (.int .i64 0)))])
  (.blk 2 (.loop [12, 13, 22] l_expr_firsts_0)))
  (.seq (.seq (.reg [i (.load true 2 (e 10)), i (.fld 1 (e 7)), i (.load false 1 (l 1)), i (.fld 2 (e 7)), i (.load false 1 (l 3)), i (.build [.int .i64 0, .int .i64 0] [(0, 1, (l 2)), (1, 1, (l 4))]), i (.eqa true [0, 0] (l 0) (l 5))] [(23, l 6)])
  (.cond (e 23) (.seq (.reg [i (.mov (v (.nil0)))] [(2, l 0), (3, (v (.bool false)))])
  .ret) .skip))
  (.seq (.reg [i (.mkl 1 [(e 11)]), i (.app 1 (e 4) (l 0))] [(4, l 1)])
  (.reg [i (.len (e 5)), i (.bin .sub (l 0) (e 8)), i (.slice 1 (e 5) none (some (l 1))), i (.mkl 1 [(e 6)]), i (.app 1 (l 2) (l 3))] [(5, l 4)])))))))))))
  (.reg [i (.bin .add (e 16) (v (.int .i64 1)))] [(16, l 0)]))))
def b_expr_firsts : ACode :=
  (.seq (.reg [i (.box 1 (e 0)), i (.mov (v (.nil0)))] [(1, l 0), (2, l 1), (3, (v (.bool false)))])
  (.seq (.reg [i (.mknil 1), i (.mknil 1)] [(4, l 0), (5, l 1)])
  (.seq (.seq (.reg [i (.fld 0 (e 1)), i (.load false 1 (l 0)), i (.len (l 1))] [(14, l 1), (15, l 2), (16, (v (.int .i64 0)))])
  (.blk 0 (.loop [2, 3, 6, 7, 8, 9, 10, 11, 12, 13, 17, 18, 19, 20, 21, 22, 23] l_expr_firsts_1)))
  (.seq (.reg [i (.len (e 5)), i (.bin .eql (l 0) (v (.int .i64 1))), g (l 1) true (.mov (e 4)), g (l 1) true (.len (l 2)), g (l 1) true (.bin .leq (l 3) (v (.int .i64 1000))), i (.pick (l 1) (l 4) (v (.bool false)))] [(2, e 4), (3, l 5)])
  .ret))))
def f_expr_firsts : AFunc := ⟨24, 1, .pure, [.env 2, .env 3], b_expr_firsts⟩
def l_denote_args_0 : ACode :=
  (.seq (.reg [i (.bin .lss (e 12) (e 11))] [(13, l 0)])
  (.seq (.cond (e 13) .skip (.exit 0))
  (.seq (.blk 1 (.seq (.reg [i (.idxs 1 (e 10) (e 12)), i (.load false 1 (l 0))] [(7, l 1)])
  (.seq (.reg [i (.fld 1 (e 2)), i (.load true 1 (l 0)), i (.call 172 [(l 1), (e 7)] false), i (.ext 0 (l 2)), i (.ext 1 (l 2)), i (.box 4 (v (.agg [.int .i64 0, .int .i64 0, .int .u64 0, .str []]))), i (.store 4 (l 5) (l 3))] [(8, l 5), (9, l 4)])
  (.blk 2 (.seq (.reg [i (.bin .eql (e 9) (v (.int .i64 140)))] [(14, l 0)])
  (.cond (e 14) (.reg [] [(6, e 9)]) (.seq (.reg [i (.bin .neq (e 9) (v (.int .i64 0)))] [(15, l 0)])
  (.cond (e 15) (.seq (.reg [i (.mov (v (.nil0)))] [(3, l 0), (4, (v (.int .i64 2)))])
  .ret) (.seq (.reg [i (.fld 0 (e 8)), i (.load false 1 (l 0)), i (.bin .neq (l 1) (v (.int .i64 0)))] [(16, l 2)])
  (.cond (e 16) (.reg [i (.load true 4 (e 8)), i (.mkl 4 [(l 0)]), i (.app 4 (e 5) (l 1))] [(5, l 2)]) .skip))))))))))
  (.reg [i (.bin .add (e 12) (v (.int .i64 1)))] [(12, l 0)]))))
def b_denote_args : ACode :=
  (.seq (.reg [i (.box 2 (e 0)), i (.mov (v (.nil0)))] [(2, l 0), (3, l 1), (4, (v (.int .i64 0)))])
  (.seq (.reg [i (.mknil 4)] [(5, l 0)])
  (.seq (.reg [] [(6, (v (.int .i64 0)))])
  (.seq (.seq (.reg [i (.len (e 1))] [(10, e 1), (11, l 0), (12, (v (.int .i64 0)))])
  (.blk 0 (.loop [3, 4, 7, 8, 9, 13, 14, 15, 16] l_denote_args_0)))
  (.seq (.reg [] [(3, e 5), (4, e 6)])
  .ret)))))
def f_denote_args : AFunc := ⟨17, 2, .pure, [.env 3, .env 4], b_denote_args⟩
def b_denote_aggregate_1 : ACode :=
  (.seq (.reg [i (.box 4 (e 0))] [(1, l 0), (2, (v (.bool false)))])
  (.seq (.reg [i (.fld 0 (e 1)), i (.load false 1 (l 0)), i (.bin .neq (l 1) (v (.int .i64 2)))] [(2, l 2)])
  .ret))
def f_denote_aggregate_1 : AFunc := ⟨3, 1, .pure, [.env 2], b_denote_aggregate_1⟩
def b_slices_ContainsFunc_api_Value_api_Value : ACode :=
  (.seq (.reg [] [(2, (v (.bool false)))])
  (.seq (.reg [i (.call 248 [(e 0), (e 1)] false), i (.bin .geq (l 0) (v (.int .i64 0)))] [(2, l 1)])
  .ret))
def f_slices_ContainsFunc_api_Value_api_Value : AFunc := ⟨3, 2, .pure, [.env 2], b_slices_ContainsFunc_api_Value_api_Value⟩
def l_arith_All_0 : ACode :=
  (.seq (.reg [i (.bin .lss (e 10) (e 9))] [(11, l 0)])
  (.seq (.cond (e 11) .skip (.exit 0))
  (.seq (.blk 1 (.seq (.reg [i (.idxs 4 (e 8) (e 10)), i (.load true 4 (l 0)), i (.box 4 (v (.agg [.int .i64 0, .int .i64 0, .int .u64 0, .str []]))), i (.store 4 (l 2) (l 1))] [(4, l 2)])
  (.seq (.reg [i (.load true 4 (e 3)), i (.load true 4 (e 4)), i (.call 201 [(l 0), (l 1)] false), i (.ext 0 (l 2)), i (.ext 1 (l 2)), i (.box 4 (v (.agg [.int .i64 0, .int .i64 0, .int .u64 0, .str []]))), i (.store 4 (l 5) (l 3))] [(5, l 5), (6, l 4)])
  (.seq (.seq (.reg [i (.bin .neq (e 6) (v (.int .i64 0)))] [(12, l 0)])
  (.cond (e 12) (.seq (.reg [i (.load true 4 (e 5)), i (.store 4 (e 1) (l 0))] [(2, e 6)])
  .ret) .skip))
  (.reg [i (.load true 4 (e 5)), i (.store 4 (e 3) (l 0))] [])))))
  (.reg [i (.bin .add (e 10) (v (.int .i64 1)))] [(10, l 0)]))))
def b_arith_All : ACode :=
  (.seq (.reg [i (.box 4 (v (.agg [.int .i64 0, .int .i64 0, .int .u64 0, .str []])))] [(1, l 0), (2, (v (.int .i64 0)))])
  (.seq (.seq (.reg [i (.len (e 0)), i (.bin .gtr (l 0) (v (.int .i64 1048576)))] [(7, l 1)])
  (.cond (e 7) (.seq (.reg [i (.build [.int .i64 0, .int .i64 0, .int .u64 0, .str []] []), i (.store 4 (e 1) (l 0))] [(2, (v (.int .i64 3)))])
  .ret) .skip))
  (.seq (.reg [i (.call 202 [] false), i (.box 4 (v (.agg [.int .i64 0, .int .i64 0, .int .u64 0, .str []]))), i (.store 4 (l 1) (l 0))] [(3, l 1)])
  (.seq (.seq (.reg [i (.len (e 0))] [(8, e 0), (9, l 0), (10, (v (.int .i64 0)))])
  (.blk 0 (.loop [2, 4, 5, 6, 11, 12] l_arith_All_0)))
  (.seq (.reg [i (.load true 4 (e 3)), i (.call 215 [(l 0)] false), i (.ext 0 (l 1)), i (.ext 1 (l 1)), i (.store 4 (e 1) (l 2))] [(2, l 3)])
  .ret)))))
def f_arith_All : AFunc := ⟨13, 1, .pure, [.cell true 4 1, .env 2], b_arith_All⟩
def b_denote_values : ACode :=
  (.seq (.reg [i (.box 4 (e 0)), i (.box 4 (e 1))] [(2, l 0), (3, l 1), (4, (v (.int .i64 0)))])
  (.seq (.reg [i (.load true 4 (e 2)), i (.mkl 4 [(l 0)]), i (.load true 4 (e 3)), i (.mkl 4 [(l 2)]), i (.call 214 [(l 1), (l 3)] false)] [(4, l 4)])
  .ret))
def f_denote_values : AFunc := ⟨5, 2, .pure, [.env 4], b_denote_values⟩
def l_slices_IndexFunc_int_int_0 : ACode :=
  (.seq (.reg [i (.bin .lss (e 5) (e 4))] [(6, l 0)])
  (.seq (.cond (e 6) .skip (.exit 0))
  (.seq (.blk 1 (.seq (.reg [] [(3, e 5)])
  (.seq (.reg [i (.idxs 1 (e 0) (e 3)), i (.load false 1 (l 0)), i (.callv (e 1) [(l 1)])] [(7, l 2)])
  (.cond (e 7) (.seq (.reg [] [(2, e 3)])
  .ret) .skip))))
  (.reg [i (.bin .add (e 5) (v (.int .i64 1)))] [(5, l 0)]))))
def b_slices_IndexFunc_int_int : ACode :=
  (.seq (.reg [] [(2, (v (.int .i64 0)))])
  (.seq (.seq (.reg [i (.len (e 0))] [(4, l 0), (5, (v (.int .i64 0)))])
  (.blk 0 (.loop [2, 3, 6, 7] l_slices_IndexFunc_int_int_0)))
  (.seq (.reg [] [(2, (v (.int .i64 (-1))))])
  .ret)))
def f_slices_IndexFunc_int_int : AFunc := ⟨8, 2, .pure, [.env 2], b_slices_IndexFunc_int_int⟩
end Go.AM.P
