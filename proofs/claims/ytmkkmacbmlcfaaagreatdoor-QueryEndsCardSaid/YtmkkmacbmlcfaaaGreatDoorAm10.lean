/- PRINTED BY gen.py: the functions' code for the abstract machine. -/
import Derived.Test.YtmkkmacbmlcfaaaGreatDoorAm09
set_option linter.unusedVariables false
set_option linter.unusedSimpArgs false
set_option linter.unusedSectionVars false
namespace Go.AM.P
def f_parse_reader_must : AFunc := ⟨5, 3, .keep, [.cell true 4 3], b_parse_reader_must⟩
def b_parse_reader_takes : ACode :=
  (.seq (.reg [] [(3, (v (.bool false)))])
  (.seq (.seq (.reg [i (.mkl 1 [(e 2)]), i (.call 13 [(e 0), (e 1), (l 0)] false), i (.una .not (l 1))] [(4, l 2)])
  (.cond (e 4) (.seq (.reg [] [(3, (v (.bool false)))])
  .ret) .skip))
  (.seq (.reg [i (.call 88 [(e 0)] false)] [])
  (.seq (.reg [] [(3, (v (.bool true)))])
  .ret))))
def f_parse_reader_takes : AFunc := ⟨5, 3, .keep, [.env 3], b_parse_reader_takes⟩
def b_slices_ContainsFunc_api_Select_api_Select : ACode :=
  (.seq (.reg [] [(2, (v (.bool false)))])
  (.seq (.reg [i (.call 171 [(e 0), (e 1)] false), i (.bin .geq (l 0) (v (.int .i64 0)))] [(2, l 1)])
  .ret))
def f_slices_ContainsFunc_api_Select_api_Select : AFunc := ⟨3, 2, .pure, [.env 2], b_slices_ContainsFunc_api_Select_api_Select⟩
def b_ast_Check_1 : ACode :=
  (.seq (.reg [i (.box 9 (e 0))] [(1, l 0), (2, (v (.bool false)))])
  (.seq (.reg [i (.load true 9 (e 1)), i (.call 173 [(l 0)] false), i (.una .not (l 1))] [(2, l 2)])
  .ret))
def f_ast_Check_1 : AFunc := ⟨3, 1, .pure, [.env 2], b_ast_Check_1⟩
def l_ast_selects_0 : ACode :=
  (.seq (.reg [i (.bin .lss (e 22) (v (.int .i64 2)))] [(23, l 0)])
  (.seq (.cond (e 23) .skip (.exit 6))
  (.seq (.blk 7 (.seq (.reg [i (.idxv true 2 1 (e 21) (e 22)), i (.box 1 (v (.agg [.nil0]))), i (.store 1 (l 1) (l 0))] [(7, l 1)])
  (.reg [g (e 3) true (.fld 0 (e 7)), g (e 3) true (.load false 1 (l 0)), g (e 3) true (.len (l 1)), g (e 3) true (.bin .eql (l 2) (v (.int .i64 0))), g (e 3) true (.mov (l 3)), g (l 4) false (.load true 1 (e 7)), g (l 4) false (.mkl 1 [(l 5)]), g (l 4) false (.call 175 [(l 6)] false), g (e 3) true (.pick (l 4) (v (.bool true)) (l 7)), i (.pick (e 3) (l 8) (v (.bool false)))] [(3, l 9)])))
  (.reg [i (.bin .add (e 22) (v (.int .i64 1)))] [(22, l 0)]))))
def l_ast_selects_1 : ACode :=
  (.seq (.reg [i (.bin .lss (e 19) (e 18))] [(20, l 0)])
  (.seq (.cond (e 20) .skip (.exit 4))
  (.seq (.blk 5 (.seq (.reg [i (.idxs 2 (e 17) (e 19)), i (.load true 2 (l 0)), i (.box 2 (v (.agg [.str [], .str []]))), i (.store 2 (l 2) (l 1))] [(6, l 2)])
  (.reg [g (e 3) true (.fld 1 (e 6)), g (e 3) true (.load false 1 (l 0)), g (e 3) true (.call 19 [(l 1)] false), i (.pick (e 3) (l 2) (v (.bool false))), g (l 3) true (.fld 0 (e 6)), g (l 3) true (.load false 1 (l 4)), g (l 3) true (.call 90 [(l 5)] false), i (.pick (l 3) (l 6) (v (.bool false)))] [(3, l 7)])))
  (.reg [i (.bin .add (e 19) (v (.int .i64 1)))] [(19, l 0)]))))
def l_ast_selects_2 : ACode :=
  (.seq (.reg [i (.bin .lss (e 15) (e 14))] [(16, l 0)])
  (.seq (.cond (e 16) .skip (.exit 2))
  (.seq (.blk 3 (.seq (.reg [i (.idxs 4 (e 13) (e 15)), i (.load true 4 (l 0)), i (.box 4 (v (.agg [.bool false, .str [], .str [], .nil0]))), i (.store 4 (l 2) (l 1))] [(5, l 2)])
  (.reg [g (e 3) true (.fld 3 (e 5)), g (e 3) true (.load true 1 (l 0)), g (e 3) true (.mkl 1 [(l 1)]), g (e 3) true (.call 175 [(l 2)] false), i (.pick (e 3) (l 3) (v (.bool false))), g (l 4) true (.fld 1 (e 5)), g (l 4) true (.load true 2 (l 5)), g (l 4) true (.call 174 [(l 6)] false), i (.pick (l 4) (l 7) (v (.bool false)))] [(3, l 8)])))
  (.reg [i (.bin .add (e 15) (v (.int .i64 1)))] [(15, l 0)]))))
def l_ast_selects_3 : ACode :=
  (.seq (.reg [i (.bin .lss (e 11) (e 10))] [(12, l 0)])
  (.seq (.cond (e 12) .skip (.exit 0))
  (.seq (.blk 1 (.seq (.reg [i (.idxs 2 (e 9) (e 11)), i (.load true 2 (l 0)), i (.box 2 (v (.agg [.nil0, .str []]))), i (.store 2 (l 2) (l 1))] [(4, l 2)])
  (.reg [g (e 3) true (.fld 0 (e 4)), g (e 3) true (.load true 1 (l 0)), g (e 3) true (.mkl 1 [(l 1)]), g (e 3) true (.call 175 [(l 2)] false), i (.pick (e 3) (l 3) (v (.bool false))), g (l 4) true (.fld 1 (e 4)), g (l 4) true (.load false 1 (l 5)), g (l 4) true (.call 90 [(l 6)] false), i (.pick (l 4) (l 7) (v (.bool false)))] [(3, l 8)])))
  (.reg [i (.bin .add (e 11) (v (.int .i64 1)))] [(11, l 0)]))))
def b_ast_selects : ACode :=
  (.seq (.reg [i (.box 9 (e 0))] [(1, l 0), (2, (v (.bool false)))])
  (.seq (.seq (.reg [i (.fld 1 (e 1)), i (.load false 1 (l 0)), i (.fld 2 (e 1)), i (.load false 1 (l 2)), i (.len (l 3)), i (.bin .eql (l 4) (v (.int .i64 0))), i (.eqb true (l 1) (l 5)), g (l 6) false (.fld 2 (e 1)), g (l 6) false (.load false 1 (l 7)), g (l 6) false (.len (l 8)), g (l 6) false (.bin .gtr (l 9) (v (.int .i64 6))), i (.pick (l 6) (v (.bool true)) (l 10)), g (l 11) false (.fld 5 (e 1)), g (l 11) false (.load false 1 (l 12)), g (l 11) false (.len (l 13)), g (l 11) false (.bin .gtr (l 14) (v (.int .i64 2))), i (.pick (l 11) (v (.bool true)) (l 15)), g (l 16) false (.fld 8 (e 1)), g (l 16) false (.load false 1 (l 17)), g (l 16) false (.len (l 18)), g (l 16) false (.bin .gtr (l 19) (v (.int .i64 3))), i (.pick (l 16) (v (.bool true)) (l 20))] [(8, l 21)])
  (.cond (e 8) (.seq (.reg [] [(2, (v (.bool false)))])
  .ret) .skip))
  (.seq (.reg [i (.fld 3 (e 1)), i (.load true 2 (l 0)), i (.call 174 [(l 1)] false)] [(3, l 2)])
  (.seq (.seq (.reg [i (.fld 2 (e 1)), i (.load false 1 (l 0)), i (.len (l 1))] [(9, l 1), (10, l 2), (11, (v (.int .i64 0)))])
  (.blk 0 (.loop [4, 12] l_ast_selects_3)))
  (.seq (.seq (.reg [i (.fld 5 (e 1)), i (.load false 1 (l 0)), i (.len (l 1))] [(13, l 1), (14, l 2), (15, (v (.int .i64 0)))])
  (.blk 2 (.loop [5, 16] l_ast_selects_2)))
  (.seq (.seq (.reg [i (.fld 8 (e 1)), i (.load false 1 (l 0)), i (.len (l 1))] [(17, l 1), (18, l 2), (19, (v (.int .i64 0)))])
  (.blk 4 (.loop [6, 20] l_ast_selects_1)))
  (.seq (.seq (.reg [i (.fld 6 (e 1)), i (.load true 1 (l 0)), i (.fld 7 (e 1)), i (.load true 1 (l 2)), i (.build [.nil0, .nil0] [(0, 1, (l 1)), (1, 1, (l 3))])] [(21, l 4), (22, (v (.int .i64 0)))])
  (.blk 6 (.loop [7, 23] l_ast_selects_0)))
  (.seq (.reg [] [(2, e 3)])
  .ret))))))))
def f_ast_selects : AFunc := ⟨24, 1, .pure, [.env 2], b_ast_selects⟩
def b_bind_scope_first : ACode :=
  (.seq (.reg [] [(1, (v (.int .i64 0)))])
  (.seq (.reg [i (.nilck (e 0)), i (.fld 24 (l 0)), i (.store 1 (l 1) (v (.int .i64 0)))] [])
  (.seq (.reg [i (.nilck (e 0)), i (.fld 1 (l 0)), i (.fld 3 (l 1)), i (.load true 2 (l 2)), i (.call 181 [(e 0), (l 3)] false)] [(1, l 4)])
  .ret)))
def f_bind_scope_first : AFunc := ⟨2, 1, .keep, [.env 1], b_bind_scope_first⟩
def l_bind_scope_joins_0 : ACode :=
  (.seq (.reg [i (.bin .lss (e 8) (e 7))] [(9, l 0)])
  (.seq (.cond (e 9) .skip (.exit 0))
  (.seq (.blk 1 (.seq (.reg [i (.idxs 4 (e 6) (e 8)), i (.load true 4 (l 0)), i (.box 4 (v (.agg [.bool false, .str [], .str [], .nil0]))), i (.store 4 (l 2) (l 1))] [(2, l 2)])
  (.seq (.seq (.reg [i (.fld 1 (e 2)), i (.load true 2 (l 0)), i (.call 181 [(e 0), (l 1)] false)] [(3, l 2)])
  (.seq (.reg [i (.bin .neq (e 3) (v (.int .i64 0)))] [(10, l 0)])
  (.cond (e 10) (.seq (.reg [] [(1, e 3)])
  .ret) .skip)))
  (.seq (.reg [i (.fld 3 (e 2)), i (.load true 1 (l 0)), i (.call 270 [(e 0), (l 1), (v (.bool false))] false), i (.ext 0 (l 2)), i (.ext 1 (l 2)), i (.box 1 (v (.agg [.nil0]))), i (.store 1 (l 5) (l 3))] [(4, l 5), (5, l 4)])
  (.seq (.seq (.reg [i (.bin .neq (e 5) (v (.int .i64 0)))] [(11, l 0)])
  (.cond (e 11) (.seq (.reg [] [(1, e 5)])
  .ret) .skip))
  (.reg [i (.nilck (e 0)), i (.fld 10 (l 0)), i (.fld 1 (l 1)), i (.load false 1 (l 2)), i (.fld 0 (e 2)), i (.load false 1 (l 4)), i (.load true 1 (e 4)), i (.build [.bool false, .nil0] [(0, 1, (l 5)), (1, 1, (l 6))]), i (.mkl 2 [(l 7)]), i (.app 2 (l 3) (l 8)), i (.nilck (e 0)), i (.fld 10 (l 10)), i (.fld 1 (l 11)), i (.store 1 (l 12) (l 9))] []))))))
  (.reg [i (.bin .add (e 8) (v (.int .i64 1)))] [(8, l 0)]))))
def b_bind_scope_joins : ACode :=
  (.seq (.reg [] [(1, (v (.int .i64 0)))])
  (.seq (.reg [i (.nilck (e 0)), i (.fld 24 (l 0)), i (.store 1 (l 1) (v (.int .i64 1)))] [])
  (.seq (.seq (.reg [i (.nilck (e 0)), i (.fld 1 (l 0)), i (.fld 5 (l 1)), i (.load false 1 (l 2)), i (.len (l 3))] [(6, l 3), (7, l 4), (8, (v (.int .i64 0)))])
  (.blk 0 (.loop [1, 2, 3, 4, 5, 9, 10, 11] l_bind_scope_joins_0)))
  (.seq (.reg [] [(1, (v (.int .i64 0)))])
  .ret))))
def f_bind_scope_joins : AFunc := ⟨12, 1, .keep, [.env 1], b_bind_scope_joins⟩
def b_bind_scope_where : ACode :=
  (.seq (.reg [] [(1, (v (.int .i64 0)))])
  (.seq (.reg [i (.nilck (e 0)), i (.fld 24 (l 0)), i (.store 1 (l 1) (v (.int .i64 2)))] [])
  (.seq (.seq (.reg [i (.nilck (e 0)), i (.fld 1 (l 0)), i (.fld 6 (l 1)), i (.fld 0 (l 2)), i (.load false 1 (l 3)), i (.len (l 4)), i (.bin .gtr (l 5) (v (.int .i64 0)))] [(2, l 6)])
  (.cond (e 2) (.reg [i (.nilck (e 0)), i (.fld 1 (l 0)), i (.fld 6 (l 1)), i (.load true 1 (l 2)), i (.call 270 [(e 0), (l 3), (v (.bool false))] false), i (.ext 0 (l 4)), i (.ext 1 (l 4)), i (.nilck (e 0)), i (.fld 10 (l 7)), i (.fld 2 (l 8)), i (.store 1 (l 9) (l 5))] [(1, l 6)]) .skip))
  (.seq (.reg [] [(1, e 1)])
  .ret))))
def f_bind_scope_where : AFunc := ⟨3, 1, .keep, [.env 1], b_bind_scope_where⟩
def l_bind_scope_group_0 : ACode :=
  (.seq (.reg [i (.bin .lss (e 7) (e 6))] [(8, l 0)])
  (.seq (.cond (e 8) .skip (.exit 0))
  (.seq (.blk 1 (.seq (.reg [i (.idxs 2 (e 5) (e 7)), i (.load true 2 (l 0)), i (.box 2 (v (.agg [.str [], .str []]))), i (.store 2 (l 2) (l 1))] [(2, l 2)])
  (.seq (.reg [i (.load true 2 (e 2)), i (.call 114 [(e 0), (l 0)] false), i (.ext 0 (l 1)), i (.ext 1 (l 1))] [(3, l 2), (4, l 3)])
  (.seq (.seq (.reg [i (.bin .neq (e 4) (v (.int .i64 0)))] [(9, l 0)])
  (.cond (e 9) (.seq (.reg [] [(1, e 4)])
  .ret) .skip))
  (.regd [i (.nilck (e 0)), i (.fld 10 (l 0)), i (.fld 6 (l 1)), i (.load false 1 (l 2)), i (.mkl 1 [(e 3)]), i (.app 1 (l 3) (l 4)), i (.nilck (e 0)), i (.fld 23 (l 6)), i (.load false 1 (l 7)), i (.nilck (e 0)), i (.fld 22 (l 9)), i (.load false 1 (l 10)), i (.idxs 1 (l 11) (e 3)), i (.load false 1 (l 12)), i (.mkl 1 [(l 13)]), i (.app 1 (l 8) (l 14)), i (.nilck (e 0)), i (.fld 10 (l 16)), i (.fld 6 (l 17)), i (.store 1 (l 18) (l 5)), i (.nilck (e 0)), i (.fld 23 (l 20)), i (.store 1 (l 21) (l 15))] [] [(6, 0), (7, 0), (8, 0), (9, 0), (10, 0), (11, 0), (12, 0), (13, 0)])))))
  (.reg [i (.bin .add (e 7) (v (.int .i64 1)))] [(7, l 0)]))))
def b_bind_scope_group : ACode :=
  (.seq (.reg [] [(1, (v (.int .i64 0)))])
  (.seq (.reg [i (.nilck (e 0)), i (.fld 24 (l 0)), i (.store 1 (l 1) (v (.int .i64 3)))] [])
  (.seq (.seq (.reg [i (.nilck (e 0)), i (.fld 1 (l 0)), i (.fld 8 (l 1)), i (.load false 1 (l 2)), i (.len (l 3))] [(5, l 3), (6, l 4), (7, (v (.int .i64 0)))])
  (.blk 0 (.loop [1, 2, 3, 4, 8, 9] l_bind_scope_group_0)))
  (.seq (.reg [] [(1, (v (.int .i64 0)))])
  .ret))))
def f_bind_scope_group : AFunc := ⟨10, 1, .keep, [.env 1], b_bind_scope_group⟩
def l_bind_scope_items_0 : ACode :=
  (.seq (.reg [i (.bin .lss (e 16) (e 15))] [(17, l 0)])
  (.seq (.cond (e 17) .skip (.exit 2))
  (.seq (.blk 3 (.seq (.reg [i (.idxs 2 (e 14) (e 16)), i (.load true 2 (l 0)), i (.box 2 (v (.agg [.nil0, .str []]))), i (.store 2 (l 2) (l 1))] [(5, l 2)])
  (.seq (.regd [i (.fld 0 (e 5)), i (.load true 1 (l 0)), i (.nilck (e 0)), i (.fld 10 (l 2)), i (.fld 4 (l 3)), i (.load false 1 (l 4)), i (.call 112 [(e 0), (l 1), (l 5)] false), i (.ext 0 (l 6)), i (.ext 1 (l 6)), i (.ext 2 (l 6)), i (.box 1 (v (.agg [.nil0]))), i (.store 1 (l 10) (l 7))] [(6, l 10), (7, l 9)] [(0, 11), (1, 11), (2, 11), (3, 11), (4, 11), (5, 11), (6, 11)])
  (.seq (.seq (.reg [i (.bin .neq (e 7) (v (.int .i64 0)))] [(18, l 0)])
  (.cond (e 18) (.seq (.reg [] [(1, e 7)])
  .ret) .skip))
  (.reg [i (.nilck (e 0)), i (.fld 10 (l 0)), i (.fld 8 (l 1)), i (.load false 1 (l 2)), i (.load true 1 (e 6)), i (.mkl 1 [(l 4)]), i (.app 1 (l 3) (l 5)), i (.nilck (e 0)), i (.fld 10 (l 7)), i (.fld 8 (l 8)), i (.store 1 (l 9) (l 6))] [])))))
  (.reg [i (.bin .add (e 16) (v (.int .i64 1)))] [(16, l 0)]))))
def l_bind_scope_items_1 : ACode :=
  (.seq (.reg [i (.bin .lss (e 11) (e 10))] [(12, l 0)])
  (.seq (.cond (e 12) .skip (.exit 0))
  (.seq (.blk 1 (.seq (.reg [] [(2, e 11)])
  (.seq (.reg [i (.build [.int .i64 0, .int .i64 0, .int .i64 0, .int .i64 0, .int .i64 0, .int .i64 0, .int .u64 0, .str []] [(0, 1, (v (.int .i64 2))), (3, 1, (e 2))]), i (.call 116 [(l 0)] false), i (.ext 0 (l 1)), i (.ext 1 (l 1)), i (.box 1 (v (.agg [.nil0]))), i (.store 1 (l 4) (l 2))] [(3, l 4), (4, l 3)])
  (.seq (.seq (.reg [i (.bin .neq (e 4) (v (.int .i64 0)))] [(13, l 0)])
  (.cond (e 13) (.seq (.reg [] [(1, e 4)])
  .ret) .skip))
  (.reg [i (.nilck (e 0)), i (.fld 10 (l 0)), i (.fld 8 (l 1)), i (.load false 1 (l 2)), i (.load true 1 (e 3)), i (.mkl 1 [(l 4)]), i (.app 1 (l 3) (l 5)), i (.nilck (e 0)), i (.fld 10 (l 7)), i (.fld 8 (l 8)), i (.store 1 (l 9) (l 6))] [])))))
  (.reg [i (.bin .add (e 11) (v (.int .i64 1)))] [(11, l 0)]))))
def b_bind_scope_items : ACode :=
  (.seq (.reg [] [(1, (v (.int .i64 0)))])
  (.seq (.reg [i (.nilck (e 0)), i (.fld 24 (l 0)), i (.store 1 (l 1) (v (.int .i64 4)))] [])
  (.seq (.reg [i (.nilck (e 0)), i (.fld 1 (l 0)), i (.fld 0 (l 1)), i (.load false 1 (l 2)), i (.nilck (e 0)), i (.fld 1 (l 4)), i (.load true 9 (l 5)), i (.call 188 [(l 6)] false), i (.nilck (e 0)), i (.fld 10 (l 8)), i (.fld 5 (l 9)), i (.store 1 (l 10) (l 3)), i (.nilck (e 0)), i (.fld 10 (l 12)), i (.fld 4 (l 13)), i (.store 1 (l 14) (l 7))] [])
  (.seq (.seq (.reg [i (.nilck (e 0)), i (.fld 1 (l 0)), i (.fld 1 (l 1)), i (.load false 1 (l 2)), g (l 3) true (.mov (e 0)), g (l 3) true (.nilck (l 4)), g (l 3) true (.fld 10 (l 5)), g (l 3) true (.fld 4 (l 6)), g (l 3) true (.load false 1 (l 7)), i (.pick (l 3) (l 8) (v (.bool false)))] [(8, l 9)])
  (.cond (e 8) (.seq (.reg [] [(1, (v (.int .i64 227)))])
  .ret) .skip))
  (.seq (.seq (.reg [i (.nilck (e 0)), i (.fld 1 (l 0)), i (.fld 1 (l 1)), i (.load false 1 (l 2))] [(9, l 3)])
  (.cond (e 9) (.seq (.reg [i (.nilck (e 0)), i (.fld 22 (l 0)), i (.load false 1 (l 1)), i (.len (l 2))] [(10, l 3), (11, (v (.int .i64 0)))])
  (.blk 0 (.loop [1, 2, 3, 4, 12, 13] l_bind_scope_items_1))) .skip))
  (.seq (.seq (.reg [i (.nilck (e 0)), i (.fld 1 (l 0)), i (.fld 2 (l 1)), i (.load false 1 (l 2)), i (.len (l 3))] [(14, l 3), (15, l 4), (16, (v (.int .i64 0)))])
  (.blk 2 (.loop [1, 5, 6, 7, 17, 18] l_bind_scope_items_0)))
  (.seq (.reg [] [(1, (v (.int .i64 0)))])
  .ret)))))))
def f_bind_scope_items : AFunc := ⟨19, 1, .keep, [.env 1], b_bind_scope_items⟩
def b_bind_scope_having : ACode :=
  (.seq (.reg [] [(1, (v (.int .i64 0)))])
  (.seq (.reg [i (.nilck (e 0)), i (.fld 24 (l 0)), i (.store 1 (l 1) (v (.int .i64 5)))] [])
  (.seq (.seq (.reg [i (.nilck (e 0)), i (.fld 1 (l 0)), i (.fld 7 (l 1)), i (.fld 0 (l 2)), i (.load false 1 (l 3)), i (.len (l 4)), i (.bin .gtr (l 5) (v (.int .i64 0)))] [(2, l 6)])
  (.cond (e 2) (.reg [i (.nilck (e 0)), i (.fld 1 (l 0)), i (.fld 7 (l 1)), i (.load true 1 (l 2)), i (.call 270 [(e 0), (l 3), (v (.bool true))] false), i (.ext 0 (l 4)), i (.ext 1 (l 4)), i (.nilck (e 0)), i (.fld 10 (l 7)), i (.fld 3 (l 8)), i (.store 1 (l 9) (l 5))] [(1, l 6)]) .skip))
  (.seq (.reg [] [(1, e 1)])
  .ret))))
def f_bind_scope_having : AFunc := ⟨3, 1, .keep, [.env 1], b_bind_scope_having⟩
def l_expr_Kind_0 : ACode :=
  (.seq (.reg [i (.bin .lss (e 17) (e 16))] [(18, l 0)])
  (.seq (.cond (e 18) .skip (.exit 2))
  (.seq (.blk 3 (.seq (.reg [i (.idxs 1 (e 15) (e 17)), i (.load false 1 (l 0))] [(8, l 1)])
  (.seq (.reg [i (.load false 1 (e 3)), i (.len (l 0)), i (.bin .geq (e 8) (l 1))] [(19, l 2)])
  (.cond (e 19) (.seq (.reg [] [(4, (v (.int .i64 0))), (5, (v (.int .i64 2)))])
  .ret) .skip))))
  (.reg [i (.bin .add (e 17) (v (.int .i64 1)))] [(17, l 0)]))))
def l_expr_Kind_1 : ACode :=
  (.seq (.reg [i (.bin .lss (e 12) (e 11))] [(13, l 0)])
  (.seq (.cond (e 13) .skip (.exit 0))
  (.seq (.blk 1 (.seq (.reg [i (.idxs 1 (e 10) (e 12)), i (.load false 1 (l 0))] [(7, l 1)])
  (.seq (.reg [i (.bin .lss (e 7) (v (.int .i64 0))), g (l 0) false (.mov (e 7)), g (l 0) false (.bin .gtr (l 1) (v (.int .i64 3))), i (.pick (l 0) (v (.bool true)) (l 2))] [(14, l 3)])
  (.cond (e 14) (.seq (.reg [] [(4, (v (.int .i64 0))), (5, (v (.int .i64 2)))])
  .ret) .skip))))
  (.reg [i (.bin .add (e 12) (v (.int .i64 1)))] [(12, l 0)]))))
def b_expr_Kind : ACode :=
  (.seq (.reg [i (.box 1 (e 0)), i (.box 1 (e 1))] [(2, l 0), (3, l 1), (4, (v (.int .i64 0))), (5, (v (.int .i64 0)))])
  (.seq (.seq (.reg [i (.load true 1 (e 2)), i (.call 9 [(l 0)] false)] [(6, l 1)])
  (.seq (.reg [i (.bin .neq (e 6) (v (.int .i64 0)))] [(9, l 0)])
  (.cond (e 9) (.seq (.reg [] [(4, (v (.int .i64 0))), (5, e 6)])
  .ret) .skip)))
  (.seq (.seq (.reg [i (.load false 1 (e 3)), i (.len (l 0))] [(10, l 0), (11, l 1), (12, (v (.int .i64 0)))])
  (.blk 0 (.loop [4, 5, 7, 13, 14] l_expr_Kind_1)))
  (.seq (.seq (.reg [i (.load true 1 (e 2)), i (.call 33 [(l 0)] false), i (.len (l 1))] [(15, l 1), (16, l 2), (17, (v (.int .i64 0)))])
  (.blk 2 (.loop [4, 5, 8, 18, 19] l_expr_Kind_0)))
  (.seq (.reg [i (.load true 1 (e 2)), i (.mkfn 42 [] [(e 3)]), i (.call 40 [(l 0), (l 1)] false), i (.ext 0 (l 2)), i (.ext 1 (l 2))] [(4, l 3), (5, l 4)])
  .ret)))))
def f_expr_Kind : AFunc := ⟨20, 2, .pure, [.env 4, .env 5], b_expr_Kind⟩
def l_slices_Index_string_string_0 : ACode :=
  (.seq (.reg [i (.bin .lss (e 5) (e 4))] [(6, l 0)])
  (.seq (.cond (e 6) .skip (.exit 0))
  (.seq (.blk 1 (.seq (.reg [] [(3, e 5)])
  (.seq (.reg [i (.idxs 1 (e 0) (e 3)), i (.load false 1 (l 0)), i (.bin .eql (e 1) (l 1))] [(7, l 2)])
  (.cond (e 7) (.seq (.reg [] [(2, e 3)])
  .ret) .skip))))
  (.reg [i (.bin .add (e 5) (v (.int .i64 1)))] [(5, l 0)]))))
def b_slices_Index_string_string : ACode :=
  (.seq (.reg [] [(2, (v (.int .i64 0)))])
  (.seq (.seq (.reg [i (.len (e 0))] [(4, l 0), (5, (v (.int .i64 0)))])
  (.blk 0 (.loop [2, 3, 6, 7] l_slices_Index_string_string_0)))
  (.seq (.reg [] [(2, (v (.int .i64 (-1))))])
  .ret)))
def f_slices_Index_string_string : AFunc := ⟨8, 2, .pure, [.env 2], b_slices_Index_string_string⟩
def b_lower_builder_takes : ACode :=
  (.seq (.reg [i (.box 1 (e 1))] [(3, l 0)])
  (.seq (.reg [i (.nilck (e 0)), i (.fld 11 (l 0)), i (.load false 1 (l 1)), g (l 2) false (.mov (e 2)), g (l 2) false (.bin .neq (l 3) (v (.int .i64 0))), i (.pick (l 2) (v (.bool true)) (l 4)), i (.nilck (e 0)), i (.fld 11 (l 6)), i (.store 1 (l 7) (l 5))] [])
  (.reg [i (.load true 1 (e 3)), i (.nilck (e 0)), i (.fld 10 (l 1)), i (.store 1 (l 2) (l 0))] [])))
def f_lower_builder_takes : AFunc := ⟨4, 3, .keep, [], b_lower_builder_takes⟩
def l_lower_builder_reads_0 : ACode :=
  (.seq (.reg [i (.bin .lss (e 9) (e 8))] [(10, l 0)])
  (.seq (.cond (e 10) .skip (.exit 0))
  (.seq (.blk 1 (.seq (.reg [i (.idxs 2 (e 7) (e 9)), i (.load true 2 (l 0)), i (.box 2 (v (.agg [.bool false, .nil0]))), i (.store 2 (l 2) (l 1))] [(3, l 2), (2, e 9)])
  (.seq (.reg [i (.bin .add (e 2) (v (.int .i64 1))), i (.idxs 1 (e 1) (l 0)), i (.load false 1 (l 1)), i (.call 201 [(e 0), (l 2)] false), i (.ext 0 (l 3)), i (.ext 1 (l 3)), i (.box 1 (v (.agg [.nil0]))), i (.store 1 (l 6) (l 4))] [(4, l 6), (5, l 5)])
  (.seq (.reg [i (.nilck (e 0)), i (.fld 11 (l 0)), i (.load false 1 (l 1)), g (l 2) false (.mov (e 5)), g (l 2) false (.bin .neq (l 3) (v (.int .i64 0))), i (.pick (l 2) (v (.bool true)) (l 4)), i (.nilck (e 0)), i (.fld 11 (l 6)), i (.store 1 (l 7) (l 5))] [])
  (.reg [i (.fld 0 (e 3)), i (.load false 1 (l 0)), i (.fld 1 (e 3)), i (.load true 1 (l 2)), i (.build [.int .i64 0, .int .i64 0, .int .i64 0, .int .i64 0, .nil0, .bool false, .nil0, .nil0, .nil0, .nil0, .nil0, .int .i64 0] [(0, 1, (v (.int .i64 2))), (5, 1, (l 1)), (6, 1, (l 3))]), i (.load true 1 (e 4)), i (.mkl 1 [(l 5)]), i (.call 121 [(e 0), (l 4), (l 6)] false)] [])))))
  (.reg [i (.bin .add (e 9) (v (.int .i64 1)))] [(9, l 0)]))))
def b_lower_builder_reads : ACode :=
  (.seq (.reg [i (.nilck (e 0)), i (.fld 1 (l 0)), i (.fld 0 (l 1)), i (.load false 1 (l 2))] [(1, l 3)])
  (.seq (.seq (.reg [i (.len (e 1)), i (.bin .lss (l 0) (v (.int .i64 1))), g (l 1) false (.mov (e 1)), g (l 1) false (.len (l 2)), g (l 1) false (.bin .gtr (l 3) (v (.int .i64 3))), i (.pick (l 1) (v (.bool true)) (l 4)), g (l 5) false (.mov (e 0)), g (l 5) false (.nilck (l 6)), g (l 5) false (.fld 1 (l 7)), g (l 5) false (.fld 1 (l 8)), g (l 5) false (.load false 1 (l 9)), g (l 5) false (.len (l 10)), g (l 5) false (.mov (e 1)), g (l 5) false (.len (l 12)), g (l 5) false (.bin .sub (l 13) (v (.int .i64 1))), g (l 5) false (.bin .neq (l 11) (l 14)), i (.pick (l 5) (v (.bool true)) (l 15)), i (.nilck (e 0)), i (.fld 11 (l 17)), i (.store 1 (l 18) (l 16))] [])
  (.seq (.reg [i (.nilck (e 0)), i (.fld 11 (l 0)), i (.load false 1 (l 1))] [(6, l 2)])
  (.cond (e 6) .ret .skip)))
  (.seq (.reg [i (.idxs 1 (e 1) (v (.int .i64 0))), i (.load false 1 (l 0)), i (.call 201 [(e 0), (l 1)] false), i (.ext 0 (l 2)), i (.ext 1 (l 2)), i (.call 96 [(e 0), (l 3), (l 4)] false)] [])
  (.seq (.reg [i (.nilck (e 0)), i (.fld 1 (l 0)), i (.fld 1 (l 1)), i (.load false 1 (l 2)), i (.len (l 3))] [(7, l 3), (8, l 4), (9, (v (.int .i64 0)))])
  (.blk 0 (.loop [2, 3, 4, 5, 10] l_lower_builder_reads_0))))))
def f_lower_builder_reads : AFunc := ⟨11, 1, .keep, [], b_lower_builder_reads⟩
def b_lower_builder_filters : ACode :=
  (.reg [i (.nilck (e 0)), i (.fld 1 (l 0)), i (.fld 2 (l 1)), i (.fld 0 (l 2)), i (.load false 1 (l 3)), i (.len (l 4)), i (.bin .gtr (l 5) (v (.int .i64 0))), i (.nilck (e 0)), i (.fld 1 (l 7)), i (.fld 2 (l 8)), i (.load true 1 (l 9)), i (.build [.int .i64 0, .int .i64 0, .int .i64 0, .int .i64 0, .nil0, .bool false, .nil0, .nil0, .nil0, .nil0, .nil0, .int .i64 0] [(0, 1, (v (.int .i64 3))), (6, 1, (l 10))]), i (.call 120 [(e 0), (l 6), (l 11)] false)] [])
def f_lower_builder_filters : AFunc := ⟨1, 1, .keep, [], b_lower_builder_filters⟩
def b_lower_builder_groups : ACode :=
  (.seq (.reg [i (.nilck (e 0)), i (.fld 1 (l 0)), i (.load true 9 (l 1)), i (.box 9 (v (.agg [.nil0, .nil0, .nil0, .nil0, .bool false, .bool false, .nil0, .nil0, .nil0]))), i (.store 9 (l 3) (l 2))] [(1, l 3)])
  (.seq (.reg [i (.fld 6 (e 1)), i (.load false 1 (l 0)), i (.len (l 1)), i (.fld 7 (e 1)), i (.load false 1 (l 3)), i (.len (l 4)), i (.bin .add (l 2) (l 5)), i (.bin .gtr (l 6) (v (.int .i64 0)))] [(2, l 7)])
  (.seq (.reg [i (.fld 3 (e 1)), i (.fld 0 (l 0)), i (.load false 1 (l 1)), i (.len (l 2)), i (.bin .gtr (l 3) (v (.int .i64 0)))] [(3, l 4)])
  (.seq (.seq (.reg [i (.fld 4 (e 1)), i (.load false 1 (l 0)), i (.una .not (l 1))] [(5, l 2)])
  (.cond (e 5) (.seq (.reg [i (.nilck (e 0)), i (.fld 11 (l 0)), i (.load false 1 (l 1)), g (l 2) false (.mov (e 2)), i (.pick (l 2) (v (.bool true)) (l 3)), g (l 4) false (.mov (e 3)), i (.pick (l 4) (v (.bool true)) (l 5)), i (.nilck (e 0)), i (.fld 11 (l 7)), i (.store 1 (l 8) (l 6))] [])
  .ret) .skip))
  (.seq (.reg [i (.fld 6 (e 1)), i (.load false 1 (l 0)), i (.fld 7 (e 1)), i (.load false 1 (l 2)), i (.build [.int .i64 0, .int .i64 0, .int .i64 0, .int .i64 0, .nil0, .bool false, .nil0, .nil0, .nil0, .nil0, .nil0, .int .i64 0] [(0, 1, (v (.int .i64 4))), (7, 1, (l 1)), (8, 1, (l 3))]), i (.box 12 (v (.agg [.int .i64 0, .int .i64 0, .int .i64 0, .int .i64 0, .nil0, .bool false, .nil0, .nil0, .nil0, .nil0, .nil0, .int .i64 0]))), i (.store 12 (l 5) (l 4))] [(4, l 5)])
  (.seq (.seq (.reg [i (.una .not (e 2))] [(6, l 0)])
  (.cond (e 6) (.reg [i (.build [.int .i64 0, .nil0] [(0, 1, (v (.int .i64 1)))]), i (.mkl 2 [(l 0)]), i (.fld 8 (e 4)), i (.store 1 (l 2) (l 1))] []) .skip))
  (.seq (.reg [i (.load true 12 (e 4)), i (.call 121 [(e 0), (l 0), (v (.nil0))] false)] [])
  (.reg [i (.fld 3 (e 1)), i (.load true 1 (l 0)), i (.build [.int .i64 0, .int .i64 0, .int .i64 0, .int .i64 0, .nil0, .bool false, .nil0, .nil0, .nil0, .nil0, .nil0, .int .i64 0] [(0, 1, (v (.int .i64 3))), (6, 1, (l 1))]), i (.call 120 [(e 0), (e 3), (l 2)] false)] []))))))))
def f_lower_builder_groups : AFunc := ⟨7, 1, .keep, [], b_lower_builder_groups⟩
def b_lower_builder_projects : ACode :=
  (.seq (.reg [i (.nilck (e 0)), i (.fld 1 (l 0)), i (.fld 8 (l 1)), i (.load false 1 (l 2)), i (.build [.int .i64 0, .int .i64 0, .int .i64 0, .int .i64 0, .nil0, .bool false, .nil0, .nil0, .nil0, .nil0, .nil0, .int .i64 0] [(0, 1, (v (.int .i64 5))), (9, 1, (l 3))]), i (.call 121 [(e 0), (l 4), (v (.nil0))] false)] [])
  (.reg [i (.nilck (e 0)), i (.fld 1 (l 0)), i (.fld 5 (l 1)), i (.load false 1 (l 2)), i (.build [.int .i64 0, .int .i64 0, .int .i64 0, .int .i64 0, .nil0, .bool false, .nil0, .nil0, .nil0, .nil0, .nil0, .int .i64 0] [(0, 1, (v (.int .i64 6)))]), i (.call 120 [(e 0), (l 3), (l 4)] false)] []))
def f_lower_builder_projects : AFunc := ⟨1, 1, .keep, [], b_lower_builder_projects⟩
def b_logic_checker_all : ACode :=
  (.seq (.reg [i (.box 1 (e 0))] [(1, l 0), (2, (v (.nilf)))])
  (.seq (.lift 0 1 1 (.lift 0 2 1 (.reg [i (.mkfn 28 [] [(e 1)])] [(2, l 0)])))
  .ret))
def f_logic_checker_all : AFunc := ⟨3, 1, .keep, [.env 2], b_logic_checker_all⟩
def l_logic_laid_0 : ACode :=
  (.seq (.reg [i (.bin .lss (e 19) (e 18))] [(20, l 0)])
  (.seq (.cond (e 20) .skip (.exit 2))
  (.seq (.blk 3 (.seq (.reg [i (.idxs 12 (e 17) (e 19)), i (.load true 12 (l 0)), i (.box 12 (v (.agg [.int .i64 0, .int .i64 0, .int .i64 0, .int .i64 0, .nil0, .bool false, .nil0, .nil0, .nil0, .nil0, .nil0, .int .i64 0]))), i (.store 12 (l 2) (l 1))] [(10, l 2)])
  (.reg [i (.fld 0 (e 5)), i (.load false 1 (l 0)), i (.load true 12 (e 10)), i (.call 22 [(l 2), (e 9)] false), i (.mkl 12 [(l 3)]), i (.app 12 (l 1) (l 4)), i (.fld 0 (e 5)), i (.store 1 (l 6) (l 5))] [])))
  (.reg [i (.bin .add (e 19) (v (.int .i64 1)))] [(19, l 0)]))))
def l_logic_laid_1 : ACode :=
  (.seq (.reg [i (.bin .lss (e 14) (e 13))] [(15, l 0)])
  (.seq (.cond (e 15) .skip (.exit 0))
  (.seq (.blk 1 (.seq (.reg [i (.idxs 1 (e 12) (e 14)), i (.load true 1 (l 0)), i (.box 1 (v (.agg [.nil0]))), i (.store 1 (l 2) (l 1))] [(7, l 2), (6, e 14)])
  (.seq (.seq (.reg [i (.load true 1 (e 7)), i (.call 51 [(l 0)] false), i (.ext 0 (l 1)), i (.ext 1 (l 1))] [(8, l 3)])
  (.seq (.reg [i (.bin .neq (e 8) (v (.int .i64 0)))] [(16, l 0)])
  (.cond (e 16) (.seq (.reg [i (.build [.nil0] []), i (.store 1 (e 3) (l 0))] [(4, e 8)])
  .ret) .skip)))
  (.seq (.reg [i (.fld 0 (e 5)), i (.load false 1 (l 0)), i (.len (l 1))] [(9, l 2)])
  (.seq (.seq (.reg [i (.fld 0 (e 7)), i (.load false 1 (l 0)), i (.len (l 1))] [(17, l 1), (18, l 2), (19, (v (.int .i64 0)))])
  (.blk 2 (.loop [10, 20] l_logic_laid_0)))
  (.seq (.reg [i (.bin .eql (e 6) (v (.int .i64 0)))] [(21, l 0)])
  (.cond (e 21) (.reg [i (.fld 0 (e 5)), i (.load false 1 (l 0)), i (.len (l 1)), i (.bin .sub (l 2) (v (.int .i64 1))), i (.fld 1 (e 2)), i (.store 1 (l 4) (l 3))] []) (.reg [i (.fld 0 (e 5)), i (.load false 1 (l 0)), i (.len (l 1)), i (.bin .sub (l 2) (v (.int .i64 1))), i (.fld 2 (e 2)), i (.store 1 (l 4) (l 3))] []))))))))
  (.reg [i (.bin .add (e 14) (v (.int .i64 1)))] [(14, l 0)]))))
def b_logic_laid : ACode :=
  (.seq (.reg [i (.box 12 (e 0)), i (.box 1 (v (.agg [.nil0])))] [(2, l 0), (3, l 1), (4, (v (.int .i64 0)))])
  (.seq (.reg [i (.fld 1 (e 2)), i (.store 1 (l 0) (v (.int .i64 (-1)))), i (.fld 2 (e 2)), i (.store 1 (l 2) (v (.int .i64 (-1))))] [])
  (.seq (.reg [i (.box 1 (v (.agg [.nil0])))] [(5, l 0)])
  (.seq (.seq (.lift 5 0 12 (.reg [i (.len (e 1))] [(12, e 1), (13, l 0), (14, (v (.int .i64 0)))]))
  (.blk 0 (.loop [4, 6, 7, 8, 9, 10, 15, 16, 17, 18, 19, 20, 21] l_logic_laid_1)))
  (.seq (.reg [i (.fld 0 (e 5)), i (.load false 1 (l 0)), i (.load true 12 (e 2)), i (.call 22 [(l 2), (v (.int .i64 0))] false), i (.mkl 12 [(l 3)]), i (.app 12 (l 1) (l 4)), i (.fld 0 (e 5)), i (.store 1 (l 6) (l 5))] [])
  (.seq (.seq (.reg [i (.load true 1 (e 5)), i (.call 51 [(l 0)] false), i (.ext 0 (l 1)), i (.ext 1 (l 1))] [(11, l 3)])
  (.seq (.reg [i (.bin .neq (e 11) (v (.int .i64 0)))] [(22, l 0)])
  (.cond (e 22) (.seq (.reg [i (.build [.nil0] []), i (.store 1 (e 3) (l 0))] [(4, e 11)])
  .ret) .skip)))
  (.seq (.reg [i (.load true 1 (e 5)), i (.store 1 (e 3) (l 0))] [(4, (v (.int .i64 0)))])
  .ret)))))))
def f_logic_laid : AFunc := ⟨23, 2, .pure, [.cell true 1 3, .env 4], b_logic_laid⟩
def b_rewrite_rules : ACode :=
  (.seq (.reg [] [(0, (v (.nilm)))])
  (.seq (.reg [i (.mkmap), i (.mput (l 0) (v (.int .i64 3)) (v (.fn 271 [] []))), i (.mput (l 0) (v (.int .i64 5)) (v (.fn 211 [] []))), i (.mput (l 0) (v (.int .i64 6)) (v (.fn 272 [] [])))] [(0, l 0)])
  .ret))
def f_rewrite_rules : AFunc := ⟨1, 0, .pure, [.env 0], b_rewrite_rules⟩
def b_slices_Clone_api_Ord_api_Ord : ACode :=
  (.seq (.reg [i (.mov (v (.nil0)))] [(1, l 0)])
  (.seq (.seq (.reg [i (.nils false (e 0))] [(2, l 0)])
  (.cond (e 2) (.seq (.reg [i (.mov (v (.nil0)))] [(1, l 0)])
  .ret) .skip))
  (.seq (.reg [i (.mov (v .nil0)), i (.app 2 (l 0) (e 0))] [(1, l 1)])
  .ret)))
def f_slices_Clone_api_Ord_api_Ord : AFunc := ⟨3, 1, .fresh 2, [.env 1], b_slices_Clone_api_Ord_api_Ord⟩
def b_slices_Clone_api_ENode_api_ENode : ACode :=
  (.seq (.reg [i (.mov (v (.nil0)))] [(1, l 0)])
  (.seq (.seq (.reg [i (.nils false (e 0))] [(2, l 0)])
  (.cond (e 2) (.seq (.reg [i (.mov (v (.nil0)))] [(1, l 0)])
  .ret) .skip))
  (.seq (.reg [i (.mov (v .nil0)), i (.app 8 (l 0) (e 0))] [(1, l 1)])
  .ret)))
def f_slices_Clone_api_ENode_api_ENode : AFunc := ⟨3, 1, .fresh 8, [.env 1], b_slices_Clone_api_ENode_api_ENode⟩
def b_slices_Clone_api_Agg_api_Agg : ACode :=
  (.seq (.reg [i (.mov (v (.nil0)))] [(1, l 0)])
  (.seq (.seq (.reg [i (.nils false (e 0))] [(2, l 0)])
  (.cond (e 2) (.seq (.reg [i (.mov (v (.nil0)))] [(1, l 0)])
  .ret) .skip))
  (.seq (.reg [i (.mov (v .nil0)), i (.app 2 (l 0) (e 0))] [(1, l 1)])
  .ret)))
def f_slices_Clone_api_Agg_api_Agg : AFunc := ⟨3, 1, .fresh 2, [.env 1], b_slices_Clone_api_Agg_api_Agg⟩
def b_slices_Clone_api_Expr_api_Expr : ACode :=
  (.seq (.reg [i (.mov (v (.nil0)))] [(1, l 0)])
  (.seq (.seq (.reg [i (.nils false (e 0))] [(2, l 0)])
  (.cond (e 2) (.seq (.reg [i (.mov (v (.nil0)))] [(1, l 0)])
  .ret) .skip))
  (.seq (.reg [i (.mov (v .nil0)), i (.app 1 (l 0) (e 0))] [(1, l 1)])
  .ret)))
def f_slices_Clone_api_Expr_api_Expr : AFunc := ⟨3, 1, .fresh 1, [.env 1], b_slices_Clone_api_Expr_api_Expr⟩
def l_plan_over_0 : ACode :=
  (.seq (.reg [i (.bin .lss (e 16) (e 15))] [(17, l 0)])
  (.seq (.cond (e 17) .skip (.exit 2))
  (.seq (.blk 3 (.seq (.reg [i (.idxs 12 (e 14) (e 16)), i (.load true 12 (l 0)), i (.box 12 (v (.agg [.int .i64 0, .int .i64 0, .int .i64 0, .int .i64 0, .nil0, .bool false, .nil0, .nil0, .nil0, .nil0, .nil0, .int .i64 0]))), i (.store 12 (l 2) (l 1))] [(9, l 2)])
  (.seq (.seq (.reg [i (.fld 1 (e 9)), i (.load false 1 (l 0)), i (.bin .geq (l 1) (v (.int .i64 0)))] [(18, l 2)])
  (.cond (e 18) (.reg [i (.fld 1 (e 9)), i (.load false 1 (l 0)), i (.bin .add (l 1) (e 8)), i (.fld 1 (e 9)), i (.store 1 (l 3) (l 2))] []) .skip))
  (.seq (.seq (.reg [i (.fld 2 (e 9)), i (.load false 1 (l 0)), i (.bin .geq (l 1) (v (.int .i64 0)))] [(19, l 2)])
  (.cond (e 19) (.reg [i (.fld 2 (e 9)), i (.load false 1 (l 0)), i (.bin .add (l 1) (e 8)), i (.fld 2 (e 9)), i (.store 1 (l 3) (l 2))] []) .skip))
  (.reg [i (.fld 0 (e 5)), i (.load false 1 (l 0)), i (.load true 12 (e 9)), i (.mkl 12 [(l 2)]), i (.app 12 (l 1) (l 3)), i (.fld 0 (e 5)), i (.store 1 (l 5) (l 4))] [])))))
  (.reg [i (.bin .add (e 16) (v (.int .i64 1)))] [(16, l 0)]))))
def l_plan_over_1 : ACode :=
  (.seq (.reg [i (.bin .lss (e 12) (e 11))] [(13, l 0)])
  (.seq (.cond (e 13) .skip (.exit 0))
  (.seq (.blk 1 (.seq (.reg [i (.idxs 4 (e 10) (e 12)), i (.load true 4 (l 0)), i (.box 4 (v (.agg [.nil0, .nil0, .int .i64 0, .nil0]))), i (.store 4 (l 2) (l 1))] [(7, l 2), (6, e 12)])
  (.seq (.reg [i (.fld 0 (e 5)), i (.load false 1 (l 0)), i (.len (l 1))] [(8, l 2)])
  (.seq (.seq (.reg [i (.fld 0 (e 7)), i (.load false 1 (l 0)), i (.call 100 [(l 1)] false), i (.len (l 2))] [(14, l 2), (15, l 3), (16, (v (.int .i64 0)))])
  (.blk 2 (.loop [9, 17, 18, 19] l_plan_over_0)))
  (.seq (.reg [i (.bin .eql (e 6) (v (.int .i64 0)))] [(20, l 0)])
  (.cond (e 20) (.reg [i (.fld 0 (e 5)), i (.load false 1 (l 0)), i (.len (l 1)), i (.bin .sub (l 2) (v (.int .i64 1))), i (.fld 1 (e 3)), i (.store 1 (l 4) (l 3))] []) (.reg [i (.fld 0 (e 5)), i (.load false 1 (l 0)), i (.len (l 1)), i (.bin .sub (l 2) (v (.int .i64 1))), i (.fld 2 (e 3)), i (.store 1 (l 4) (l 3))] [])))))))
  (.reg [i (.bin .add (e 12) (v (.int .i64 1)))] [(12, l 0)]))))
def b_plan_over : ACode :=
  (.seq (.reg [i (.box 12 (e 0)), i (.box 4 (v (.agg [.nil0, .nil0, .int .i64 0, .nil0])))] [(3, l 0), (4, l 1)])
  (.seq (.reg [i (.fld 1 (e 3)), i (.store 1 (l 0) (v (.int .i64 (-1)))), i (.fld 2 (e 3)), i (.store 1 (l 2) (v (.int .i64 (-1))))] [])
  (.seq (.reg [i (.idxs 4 (e 2) (v (.int .i64 0))), i (.fld 2 (l 0)), i (.load false 1 (l 1)), i (.build [.nil0, .nil0, .int .i64 0, .nil0] [(1, 1, (e 1)), (2, 1, (l 2))]), i (.box 4 (v (.agg [.nil0, .nil0, .int .i64 0, .nil0]))), i (.store 4 (l 4) (l 3))] [(5, l 4)])
  (.seq (.seq (.lift 5 0 12 (.reg [i (.len (e 2))] [(10, e 2), (11, l 0), (12, (v (.int .i64 0)))]))
  (.blk 0 (.loop [6, 7, 8, 9, 13, 14, 15, 16, 17, 18, 19, 20] l_plan_over_1)))
  (.seq (.reg [i (.fld 0 (e 5)), i (.load false 1 (l 0)), i (.load true 12 (e 3)), i (.mkl 12 [(l 2)]), i (.app 12 (l 1) (l 3)), i (.fld 0 (e 5)), i (.store 1 (l 5) (l 4))] [])
  (.seq (.reg [i (.load true 4 (e 5)), i (.store 4 (e 4) (l 0))] [])
  .ret))))))
def f_plan_over : AFunc := ⟨21, 3, .keep, [.cell true 4 4], b_plan_over⟩
def b_plan_side_with : ACode :=
  (.seq (.reg [i (.box 4 (e 0)), i (.box 4 (v (.agg [.nil0, .nil0, .int .i64 0, .nil0])))] [(2, l 0), (3, l 1)])
  (.seq (.reg [i (.fld 3 (e 2)), i (.store 1 (l 0) (e 1))] [])
  (.seq (.reg [i (.load true 4 (e 2)), i (.store 4 (e 3) (l 0))] [])
  .ret)))
def f_plan_side_with : AFunc := ⟨4, 2, .keep, [.cell true 4 3], b_plan_side_with⟩
def l_plan_places_0 : ACode :=
  (.seq (.reg [i (.bin .lss (e 9) (e 8))] [(10, l 0)])
  (.seq (.cond (e 10) .skip (.exit 0))
  (.seq (.blk 1 (.seq (.reg [i (.idxs 1 (e 7) (e 9)), i (.load false 1 (l 0))] [(5, l 1)])
  (.seq (.reg [i (.call 273 [(e 1), (e 5)] false)] [(6, l 0)])
  (.seq (.seq (.reg [i (.bin .lss (e 6) (v (.int .i64 0)))] [(11, l 0)])
  (.cond (e 11) (.seq (.reg [i (.mov (v (.nil0)))] [(2, l 0), (3, (v (.bool false)))])
  .ret) .skip))
  (.reg [i (.mkl 1 [(e 6)]), i (.app 1 (e 4) (l 0))] [(4, l 1)])))))
  (.reg [i (.bin .add (e 9) (v (.int .i64 1)))] [(9, l 0)]))))
def b_plan_places : ACode :=
  (.seq (.reg [i (.mov (v (.nil0)))] [(2, l 0), (3, (v (.bool false)))])
  (.seq (.reg [i (.mknil 1)] [(4, l 0)])
  (.seq (.seq (.reg [i (.len (e 0))] [(7, e 0), (8, l 0), (9, (v (.int .i64 0)))])
  (.blk 0 (.loop [2, 3, 5, 6, 10, 11] l_plan_places_0)))
  (.seq (.reg [i (.len (e 0)), i (.bin .gtr (l 0) (v (.int .i64 0)))] [(2, e 4), (3, l 1)])
  .ret))))
def f_plan_places : AFunc := ⟨12, 2, .pure, [.env 2, .env 3], b_plan_places⟩
def l_slices_Equal_api_Row_api_Value_0 : ACode :=
  (.seq (.reg [i (.bin .lss (e 6) (e 5))] [(7, l 0)])
  (.seq (.cond (e 7) .skip (.exit 0))
  (.seq (.blk 1 (.seq (.reg [] [(3, e 6)])
  (.seq (.reg [i (.idxs 4 (e 0) (e 3)), i (.load true 4 (l 0)), i (.idxs 4 (e 1) (e 3)), i (.load true 4 (l 2)), i (.eqa true [0, 0, 0, 2] (l 1) (l 3))] [(8, l 4)])
  (.cond (e 8) (.seq (.reg [] [(2, (v (.bool false)))])
  .ret) .skip))))
  (.reg [i (.bin .add (e 6) (v (.int .i64 1)))] [(6, l 0)]))))
def b_slices_Equal_api_Row_api_Value : ACode :=
  (.seq (.reg [] [(2, (v (.bool false)))])
  (.seq (.seq (.reg [i (.len (e 0)), i (.len (e 1)), i (.bin .neq (l 0) (l 1))] [(4, l 2)])
  (.cond (e 4) (.seq (.reg [] [(2, (v (.bool false)))])
  .ret) .skip))
  (.seq (.seq (.reg [i (.len (e 0))] [(5, l 0), (6, (v (.int .i64 0)))])
  (.blk 0 (.loop [2, 3, 7, 8] l_slices_Equal_api_Row_api_Value_0)))
  (.seq (.reg [] [(2, (v (.bool true)))])
  .ret))))
def f_slices_Equal_api_Row_api_Value : AFunc := ⟨9, 2, .pure, [.env 2], b_slices_Equal_api_Row_api_Value⟩
def b_math_bits_Len64 : ACode :=
  (.seq (.reg [] [(1, (v (.int .i64 0)))])
  (.seq (.seq (.reg [i (.bin .geq (e 0) (v (.int .u64 4294967296)))] [(2, l 0)])
  (.cond (e 2) (.seq (.reg [i (.bin .shr (e 0) (v (.int .u64 32)))] [(0, l 0)])
  (.reg [] [(1, (v (.int .i64 32)))])) .skip))
  (.seq (.seq (.reg [i (.bin .geq (e 0) (v (.int .u64 65536)))] [(3, l 0)])
  (.cond (e 3) (.seq (.reg [i (.bin .shr (e 0) (v (.int .u64 16)))] [(0, l 0)])
  (.reg [i (.bin .add (e 1) (v (.int .i64 16)))] [(1, l 0)])) .skip))
  (.seq (.seq (.reg [i (.bin .geq (e 0) (v (.int .u64 256)))] [(4, l 0)])
  (.cond (e 4) (.seq (.reg [i (.bin .shr (e 0) (v (.int .u64 8)))] [(0, l 0)])
  (.reg [i (.bin .add (e 1) (v (.int .i64 8)))] [(1, l 0)])) .skip))
  (.seq (.reg [i (.conv .u8 (e 0)), i (.idxt (v (.str [0, 1, 2, 2, 3, 3, 3, 3, 4, 4, 4, 4, 4, 4, 4, 4, 5, 5, 5, 5, 5, 5, 5, 5, 5, 5, 5, 5, 5, 5, 5, 5, 6, 6, 6, 6, 6, 6, 6, 6, 6, 6, 6, 6, 6, 6, 6, 6, 6, 6, 6, 6, 6, 6, 6, 6, 6, 6, 6, 6, 6, 6, 6, 6, 7, 7, 7, 7, 7, 7, 7, 7, 7, 7, 7, 7, 7, 7, 7, 7, 7, 7, 7, 7, 7, 7, 7, 7, 7, 7, 7, 7, 7, 7, 7, 7, 7, 7, 7, 7, 7, 7, 7, 7, 7, 7, 7, 7, 7, 7, 7, 7, 7, 7, 7, 7, 7, 7, 7, 7, 7, 7, 7, 7, 7, 7, 7, 7, 8, 8, 8, 8, 8, 8, 8, 8, 8, 8, 8, 8, 8, 8, 8, 8, 8, 8, 8, 8, 8, 8, 8, 8, 8, 8, 8, 8, 8, 8, 8, 8, 8, 8, 8, 8, 8, 8, 8, 8, 8, 8, 8, 8, 8, 8, 8, 8, 8, 8, 8, 8, 8, 8, 8, 8, 8, 8, 8, 8, 8, 8, 8, 8, 8, 8, 8, 8, 8, 8, 8, 8, 8, 8, 8, 8, 8, 8, 8, 8, 8, 8, 8, 8, 8, 8, 8, 8, 8, 8, 8, 8, 8, 8, 8, 8, 8, 8, 8, 8, 8, 8, 8, 8, 8, 8, 8, 8, 8, 8, 8, 8, 8, 8, 8, 8, 8, 8, 8, 8, 8, 8, 8, 8, 8, 8, 8, 8])) (l 0)), i (.conv .i64 (l 1)), i (.bin .add (e 1) (l 2))] [(1, l 3)])
  .ret)))))
def f_math_bits_Len64 : AFunc := ⟨5, 1, .pure, [.env 1], b_math_bits_Len64⟩
def b_lex_all : ACode :=
  (.seq (.reg [i (.box 1 (e 0))] [(1, l 0), (2, (v (.nilf)))])
  (.seq (.reg [i (.mkfn 149 [] [(e 1)])] [(2, l 0)])
  .ret))
def f_lex_all : AFunc := ⟨3, 1, .pure, [.env 2], b_lex_all⟩
def l_parse_list_api_Item_0 : ACode :=
  (.seq (.seq (.reg [i (.mkl 1 [(v (.str [44]))]), i (.call 13 [(e 0), (v (.int .i64 5)), (l 0)] false)] [(5, l 1)])
  (.cond (e 5) .skip (.exit 0)))
  (.blk 1 (.seq (.seq (.reg [i (.len (e 4)), i (.bin .eql (l 0) (e 1))] [(6, l 1)])
  (.cond (e 6) (.seq (.reg [i (.call 155 [(e 0)] false), i (.call 264 [(e 0), (v (.int .i64 191)), (l 0)] false)] [])
  (.exit 0)) .skip))
  (.seq (.reg [i (.call 88 [(e 0)] false)] [])
  (.reg [i (.callv (e 2) []), i (.mkl 2 [(l 0)]), i (.app 2 (e 4) (l 1))] [(4, l 2)])))))
def b_parse_list_api_Item : ACode :=
  (.seq (.reg [i (.mov (v (.nil0)))] [(3, l 0)])
  (.seq (.reg [i (.callv (e 2) []), i (.mksl 2 [(l 0)])] [(4, l 1)])
  (.seq (.blk 0 (.loop [5, 6] l_parse_list_api_Item_0))
  (.seq (.reg [] [(3, e 4)])
  .ret))))
def f_parse_list_api_Item : AFunc := ⟨7, 3, .keep, [.env 3], b_parse_list_api_Item⟩
def b_parse_reader_item : ACode :=
  (.seq (.reg [i (.box 2 (v (.agg [.nil0, .str []])))] [(1, l 0)])
  (.seq (.reg [i (.call 154 [(e 0)] false), i (.build [.nil0, .str []] [(0, 1, (l 0))]), i (.box 2 (v (.agg [.nil0, .str []]))), i (.store 2 (l 2) (l 1))] [(2, l 2)])
  (.seq (.seq (.reg [i (.call 46 [(e 0), (v (.int .i64 1)), (v (.str [65, 83]))] false)] [(3, l 0)])
  (.cond (e 3) (.reg [i (.call 87 [(e 0), (v (.int .i64 2)), (v (.nil0))] false), i (.fldv false 1 2 (l 0)), i (.fld 1 (e 2)), i (.store 1 (l 2) (l 1))] []) .skip))
  (.seq (.reg [i (.load true 2 (e 2)), i (.store 2 (e 1) (l 0))] [])
  .ret))))
def f_parse_reader_item : AFunc := ⟨4, 1, .keep, [.cell true 2 1], b_parse_reader_item⟩
def b_parse_reader_source : ACode :=
  (.seq (.reg [i (.box 2 (v (.agg [.str [], .str []])))] [(1, l 0)])
  (.seq (.reg [i (.call 87 [(e 0), (v (.int .i64 2)), (v (.nil0))] false), i (.fldv false 1 2 (l 0)), i (.build [.str [], .str []] [(0, 1, (l 1))]), i (.box 2 (v (.agg [.str [], .str []]))), i (.store 2 (l 3) (l 2))] [(2, l 3)])
  (.seq (.seq (.reg [i (.call 13 [(e 0), (v (.int .i64 2)), (v (.nil0))] false)] [(3, l 0)])
  (.cond (e 3) (.reg [i (.call 88 [(e 0)] false), i (.fldv false 1 2 (l 0)), i (.fld 1 (e 2)), i (.store 1 (l 2) (l 1))] []) .skip))
  (.seq (.reg [i (.load true 2 (e 2)), i (.store 2 (e 1) (l 0))] [])
  .ret))))
def f_parse_reader_source : AFunc := ⟨4, 1, .keep, [.cell true 2 1], b_parse_reader_source⟩
def l_parse_reader_joins_0 : ACode :=
  (.seq (.seq (.reg [i (.mkl 1 [(v (.str [76, 69, 70, 84])), (v (.str [74, 79, 73, 78]))]), i (.call 13 [(e 0), (v (.int .i64 1)), (l 0)] false)] [(4, l 1)])
  (.cond (e 4) .skip (.exit 0)))
  (.blk 1 (.seq (.seq (.reg [i (.len (e 2)), i (.bin .eql (l 0) (v (.int .i64 2)))] [(5, l 1)])
  (.cond (e 5) (.seq (.reg [i (.call 155 [(e 0)] false), i (.call 264 [(e 0), (v (.int .i64 191)), (l 0)] false)] [])
  (.exit 0)) .skip))
  (.seq (.reg [i (.call 46 [(e 0), (v (.int .i64 1)), (v (.str [76, 69, 70, 84]))] false), i (.build [.bool false, .str [], .str [], .nil0] [(0, 1, (l 0))]), i (.box 4 (v (.agg [.bool false, .str [], .str [], .nil0]))), i (.store 4 (l 2) (l 1))] [(3, l 2)])
  (.seq (.reg [i (.mkl 1 [(v (.str [74, 79, 73, 78]))]), i (.call 87 [(e 0), (v (.int .i64 1)), (l 0)] false)] [])
  (.seq (.reg [i (.call 166 [(e 0)] false), i (.fld 1 (e 3)), i (.store 2 (l 1) (l 0))] [])
  (.seq (.reg [i (.mkl 1 [(v (.str [79, 78]))]), i (.call 87 [(e 0), (v (.int .i64 1)), (l 0)] false)] [])
  (.seq (.reg [i (.call 154 [(e 0)] false), i (.fld 3 (e 3)), i (.store 1 (l 1) (l 0))] [])
  (.reg [i (.load true 4 (e 3)), i (.mkl 4 [(l 0)]), i (.app 4 (e 2) (l 1))] [(2, l 2)])))))))))
def b_parse_reader_joins : ACode :=
  (.seq (.reg [i (.mov (v (.nil0)))] [(1, l 0)])
  (.seq (.reg [i (.mknil 4)] [(2, l 0)])
  (.seq (.blk 0 (.loop [3, 4, 5] l_parse_reader_joins_0))
  (.seq (.reg [] [(1, e 2)])
  .ret))))
def f_parse_reader_joins : AFunc := ⟨6, 1, .keep, [.env 1], b_parse_reader_joins⟩
def b_parse_reader_tree : ACode :=
  (.seq (.reg [i (.box 1 (v (.agg [.nil0])))] [(1, l 0)])
  (.seq (.reg [i (.call 155 [(e 0)] false)] [(2, l 0)])
  (.seq (.reg [i (.call 156 [(e 0)] false), i (.build [.nil0] [(0, 1, (l 0))]), i (.box 1 (v (.agg [.nil0]))), i (.store 1 (l 2) (l 1))] [(3, l 2)])
  (.seq (.seq (.reg [i (.nilck (e 0)), i (.fld 3 (l 0)), i (.load false 1 (l 1)), i (.bin .eql (l 2) (v (.int .i64 0))), g (l 3) true (.load true 1 (e 3)), g (l 3) true (.call 108 [(l 4)] false), g (l 3) true (.bin .neq (l 5) (v (.int .i64 0))), i (.pick (l 3) (l 6) (v (.bool false)))] [(4, l 7)])
  (.cond (e 4) (.reg [i (.call 264 [(e 0), (v (.int .i64 192)), (e 2)] false)] []) .skip))
  (.seq (.reg [i (.load true 1 (e 3)), i (.store 1 (e 1) (l 0))] [])
  .ret)))))
def f_parse_reader_tree : AFunc := ⟨5, 1, .keep, [.cell true 1 1], b_parse_reader_tree⟩
def b_parse_reader_name : ACode :=
  (.seq (.reg [i (.box 2 (v (.agg [.str [], .str []])))] [(1, l 0)])
  (.seq (.reg [i (.call 87 [(e 0), (v (.int .i64 2)), (v (.nil0))] false), i (.fldv false 1 2 (l 0)), i (.build [.str [], .str []] [(1, 1, (l 1))]), i (.box 2 (v (.agg [.str [], .str []]))), i (.store 2 (l 3) (l 2))] [(2, l 3)])
  (.seq (.seq (.reg [i (.call 46 [(e 0), (v (.int .i64 5)), (v (.str [46]))] false)] [(3, l 0)])
  (.cond (e 3) (.regd [i (.fld 1 (e 2)), i (.load false 1 (l 0)), i (.call 87 [(e 0), (v (.int .i64 2)), (v (.nil0))] false), i (.fldv false 1 2 (l 2)), i (.fld 0 (e 2)), i (.store 1 (l 4) (l 1)), i (.fld 1 (e 2)), i (.store 1 (l 6) (l 3))] [] [(0, 3), (1, 3), (4, 0)]) .skip))
  (.seq (.reg [i (.load true 2 (e 2)), i (.store 2 (e 1) (l 0))] [])
  .ret))))
def f_parse_reader_name : AFunc := ⟨4, 1, .keep, [.cell true 2 1], b_parse_reader_name⟩
def l_slices_IndexFunc_api_Select_api_Select_0 : ACode :=
  (.seq (.reg [i (.bin .lss (e 5) (e 4))] [(6, l 0)])
  (.seq (.cond (e 6) .skip (.exit 0))
  (.seq (.blk 1 (.seq (.reg [] [(3, e 5)])
  (.seq (.reg [i (.idxs 9 (e 0) (e 3)), i (.load true 9 (l 0)), i (.callv (e 1) [(l 1)])] [(7, l 2)])
  (.cond (e 7) (.seq (.reg [] [(2, e 3)])
  .ret) .skip))))
  (.reg [i (.bin .add (e 5) (v (.int .i64 1)))] [(5, l 0)]))))
def b_slices_IndexFunc_api_Select_api_Select : ACode :=
  (.seq (.reg [] [(2, (v (.int .i64 0)))])
  (.seq (.seq (.reg [i (.len (e 0))] [(4, l 0), (5, (v (.int .i64 0)))])
  (.blk 0 (.loop [2, 3, 6, 7] l_slices_IndexFunc_api_Select_api_Select_0)))
  (.seq (.reg [] [(2, (v (.int .i64 (-1))))])
  .ret)))
def f_slices_IndexFunc_api_Select_api_Select : AFunc := ⟨8, 2, .pure, [.env 2], b_slices_IndexFunc_api_Select_api_Select⟩
def b_ast_source : ACode :=
  (.seq (.reg [i (.box 2 (e 0))] [(1, l 0), (2, (v (.bool false)))])
  (.seq (.reg [i (.fld 0 (e 1)), i (.load false 1 (l 0)), i (.call 19 [(l 1)] false), g (l 2) true (.fld 1 (e 1)), g (l 2) true (.load false 1 (l 3)), g (l 2) true (.call 90 [(l 4)] false), i (.pick (l 2) (l 5) (v (.bool false)))] [(2, l 6)])
  .ret))
def f_ast_source : AFunc := ⟨3, 1, .pure, [.env 2], b_ast_source⟩
def b_ast_trees : ACode :=
  (.seq (.reg [] [(1, (v (.bool false)))])
  (.seq (.reg [i (.call 176 [(e 0), (v (.fn 178 [] []))] false), i (.una .not (l 0))] [(1, l 1)])
  .ret))
def f_ast_trees : AFunc := ⟨2, 1, .pure, [.env 1], b_ast_trees⟩
def b_ast_maybe : ACode :=
  (.seq (.reg [] [(1, (v (.bool false)))])
  (.seq (.reg [i (.bin .eql (e 0) (v (.str []))), g (l 0) false (.mov (e 0)), g (l 0) false (.call 19 [(l 1)] false), i (.pick (l 0) (v (.bool true)) (l 2))] [(1, l 3)])
  .ret))
def f_ast_maybe : AFunc := ⟨2, 1, .pure, [.env 1], b_ast_maybe⟩
def l_bind_scope_source_0 : ACode :=
  (.seq (.reg [i (.bin .lss (e 13) (e 12))] [(14, l 0)])
  (.seq (.cond (e 14) .skip (.exit 1))
  (.seq (.blk 2 (.seq (.reg [i (.idxs 2 (e 11) (e 13)), i (.load true 2 (l 0)), i (.box 2 (v (.agg [.str [], .int .i64 0]))), i (.store 2 (l 2) (l 1))] [(7, l 2)])
  (.seq (.reg [i (.nilck (e 0)), i (.fld 22 (l 0)), i (.load false 1 (l 1)), i (.len (l 2))] [(8, l 3)])
  (.seq (.regd [i (.nilck (e 0)), i (.fld 20 (l 0)), i (.load false 1 (l 1)), i (.fld 0 (e 7)), i (.load false 1 (l 3)), i (.nilck (e 0)), i (.fld 20 (l 5)), i (.load false 1 (l 6)), i (.fld 0 (e 7)), i (.load false 1 (l 8)), i (.lookk [] (.nil0) false (l 7) (l 9)), i (.mkl 1 [(e 8)]), i (.app 1 (l 10) (l 11)), i (.mputk [] (l 2) (l 4) (l 12))] [] [(0, 13), (1, 13), (2, 13), (3, 13), (4, 13)])
  (.seq (.reg [i (.nilck (e 0)), i (.fld 21 (l 0)), i (.load false 1 (l 1)), i (.fld 0 (e 7)), i (.load false 1 (l 3)), i (.build [.str [], .str []] [(0, 1, (e 6)), (1, 1, (l 4))]), i (.mputk [2, 2] (l 2) (l 5) (e 8))] [])
  (.reg [i (.nilck (e 0)), i (.fld 22 (l 0)), i (.load false 1 (l 1)), i (.fld 1 (e 7)), i (.load false 1 (l 3)), i (.mkl 1 [(l 4)]), i (.app 1 (l 2) (l 5)), i (.nilck (e 0)), i (.fld 22 (l 7)), i (.store 1 (l 8) (l 6))] []))))))
  (.reg [i (.bin .add (e 13) (v (.int .i64 1)))] [(13, l 0)]))))
def b_bind_scope_source : ACode :=
  (.seq (.reg [i (.box 2 (e 1))] [(2, l 0), (3, (v (.int .i64 0)))])
  (.seq (.reg [i (.nilck (e 0)), i (.fld 0 (l 0)), i (.load true 1 (l 1)), i (.fld 0 (e 2)), i (.load false 1 (l 3)), i (.call 182 [(l 2), (l 4)] false), i (.ext 0 (l 5)), i (.ext 1 (l 5))] [(4, l 6), (5, l 7)])
  (.seq (.reg [i (.load true 2 (e 2)), i (.call 183 [(l 0)] false)] [(6, l 1)])
  (.seq (.blk 0 (.seq (.reg [i (.una .not (e 5))] [(9, l 0)])
  (.cond (e 9) (.seq (.reg [] [(3, (v (.int .i64 220)))])
  .ret) (.seq (.reg [i (.nilck (e 0)), i (.fld 19 (l 0)), i (.load false 1 (l 1)), i (.lookk [] (.bool false) false (l 2) (e 6))] [(10, l 3)])
  (.cond (e 10) (.seq (.reg [] [(3, (v (.int .i64 221)))])
  .ret) .skip)))))
  (.seq (.reg [i (.nilck (e 0)), i (.fld 19 (l 0)), i (.load false 1 (l 1)), i (.mputk [] (l 2) (e 6) (v (.bool true)))] [])
  (.seq (.reg [i (.nilck (e 0)), i (.fld 10 (l 0)), i (.fld 0 (l 1)), i (.load false 1 (l 2)), i (.mkl 1 [(e 4)]), i (.app 1 (l 3) (l 4)), i (.nilck (e 0)), i (.fld 10 (l 6)), i (.fld 0 (l 7)), i (.store 1 (l 8) (l 5))] [])
  (.seq (.seq (.reg [i (.nilck (e 0)), i (.fld 0 (l 0)), i (.fld 0 (l 1)), i (.load false 1 (l 2)), i (.idxs 3 (l 3) (e 4)), i (.fld 1 (l 4)), i (.load false 1 (l 5)), i (.len (l 6))] [(11, l 6), (12, l 7), (13, (v (.int .i64 0)))])
  (.blk 1 (.loop [7, 8, 14] l_bind_scope_source_0)))
  (.seq (.reg [] [(3, (v (.int .i64 0)))])
  .ret))))))))
def f_bind_scope_source : AFunc := ⟨15, 2, .keep, [.env 3], b_bind_scope_source⟩
def b_bind_scope_column : ACode :=
  (.seq (.reg [i (.box 2 (e 1))] [(2, l 0), (3, (v (.int .i64 0))), (4, (v (.int .i64 0)))])
  (.seq (.seq (.reg [i (.fld 0 (e 2)), i (.load false 1 (l 0)), i (.bin .neq (l 1) (v (.str [])))] [(8, l 2)])
  (.cond (e 8) (.seq (.reg [i (.nilck (e 0)), i (.fld 21 (l 0)), i (.load false 1 (l 1)), i (.load true 2 (e 2)), i (.lookk [2, 2] (.int .i64 0) true (l 2) (l 3)), i (.ext 0 (l 4)), i (.ext 1 (l 4))] [(5, l 5), (6, l 6)])
  (.seq (.seq (.reg [i (.una .not (e 6))] [(9, l 0)])
  (.cond (e 9) (.seq (.reg [] [(3, (v (.int .i64 0))), (4, (v (.int .i64 222)))])
  .ret) .skip))
  (.seq (.reg [] [(3, e 5), (4, (v (.int .i64 0)))])
  .ret))) .skip))
  (.seq (.seq (.reg [i (.nilck (e 0)), i (.fld 20 (l 0)), i (.load false 1 (l 1)), i (.fld 1 (e 2)), i (.load false 1 (l 3)), i (.lookk [] (.nil0) false (l 2) (l 4))] [(7, l 5)])
  (.seq (.reg [i (.len (e 7))] [(10, l 0)])
  (.blk 0 (.seq (.reg [i (.bin .eql (e 10) (v (.int .i64 0)))] [(11, l 0)])
  (.cond (e 11) (.seq (.reg [] [(3, (v (.int .i64 0))), (4, (v (.int .i64 222)))])
  .ret) (.seq (.reg [i (.bin .eql (e 10) (v (.int .i64 1)))] [(12, l 0)])
  (.cond (e 12) (.seq (.reg [i (.idxs 1 (e 7) (v (.int .i64 0))), i (.load false 1 (l 0))] [(3, l 1), (4, (v (.int .i64 0)))])
  .ret) .skip)))))))
  (.seq (.reg [] [(3, (v (.int .i64 0))), (4, (v (.int .i64 223)))])
  .ret))))
def f_bind_scope_column : AFunc := ⟨13, 2, .pure, [.env 3, .env 4], b_bind_scope_column⟩
def b_bind_Grouped : ACode :=
  (.seq (.reg [i (.box 9 (e 0))] [(1, l 0), (2, (v (.bool false)))])
  (.seq (.reg [i (.call 95 [] false), i (.box 1 (v (.nilm))), i (.store 1 (l 1) (l 0))] [(3, l 1)])
  (.seq (.reg [i (.mkfn 191 [] [(e 3)])] [(4, l 0)])
  (.seq (.reg [i (.fld 8 (e 1)), i (.load false 1 (l 0)), i (.len (l 1)), i (.bin .gtr (l 2) (v (.int .i64 0))), g (l 3) false (.fld 7 (e 1)), g (l 3) false (.fld 0 (l 4)), g (l 3) false (.load false 1 (l 5)), g (l 3) false (.len (l 6)), g (l 3) false (.bin .gtr (l 7) (v (.int .i64 0))), i (.pick (l 3) (v (.bool true)) (l 8)), g (l 9) false (.fld 2 (e 1)), g (l 9) false (.load false 1 (l 10)), g (l 9) false (.mov (e 4)), g (l 9) false (.call 189 [(l 11), (l 12)] false), i (.pick (l 9) (v (.bool true)) (l 13))] [(2, l 14)])
  .ret))))
def f_bind_Grouped : AFunc := ⟨5, 1, .pure, [.env 2], b_bind_Grouped⟩
def b_expr_Leaf : ACode :=
  (.seq (.reg [i (.box 8 (e 0)), i (.box 1 (v (.agg [.nil0])))] [(1, l 0), (2, l 1), (3, (v (.int .i64 0)))])
  (.seq (.reg [i (.load true 8 (e 1)), i (.call 117 [(l 0), (v (.nil0))] false), i (.ext 0 (l 1)), i (.ext 1 (l 1)), i (.store 1 (e 2) (l 2))] [(3, l 3)])
  .ret))
def f_expr_Leaf : AFunc := ⟨4, 1, .pure, [.cell true 1 2, .env 3], b_expr_Leaf⟩
def b_bind_scope_bind : ACode :=
  (.seq (.reg [i (.box 1 (e 0)), i (.box 1 (e 1)), i (.box 1 (v (.agg [.nil0])))] [(3, l 0), (4, l 1), (5, l 2), (6, (v (.int .i64 0))), (7, (v (.int .i64 0)))])
  (.seq (.reg [i (.call 95 [] false), i (.box 1 (v (.nilm))), i (.store 1 (l 1) (l 0))] [(8, l 1)])
  (.seq (.reg [i (.box 1 (v (.nilf))), i (.store 1 (l 0) (v (.fn 115 [] [])))] [(9, l 0)])
  (.seq (.reg [i (.mkfn 119 [] [(e 3)]), i (.box 1 (v (.nilf))), i (.store 1 (l 1) (l 0))] [(10, l 1)])
  (.seq (.reg [i (.box 1 (v (.nilf)))] [(11, l 0)])
  (.seq (.reg [i (.mkfn 113 [] [(e 4), (e 9), (e 3), (e 8), (e 11), (e 10)]), i (.store 1 (e 11) (l 0))] [])
  (.seq (.reg [i (.load false 1 (e 11)), i (.fld 0 (e 4)), i (.load false 1 (l 1)), i (.len (l 2)), i (.bin .sub (l 3) (v (.int .i64 1))), i (.callv (l 0) [(l 4), (e 2)]), i (.ext 0 (l 5)), i (.ext 1 (l 5)), i (.box 1 (v (.agg [.nil0]))), i (.store 1 (l 8) (l 6))] [(12, l 8), (13, l 7)])
  (.seq (.seq (.reg [i (.bin .neq (e 13) (v (.int .i64 0)))] [(15, l 0)])
  (.cond (e 15) (.seq (.reg [i (.build [.nil0] []), i (.store 1 (e 5) (l 0))] [(6, (v (.int .i64 0))), (7, e 13)])
  .ret) .skip))
  (.seq (.regd [i (.load true 1 (e 12)), i (.load false 1 (e 10)), i (.callv (l 1) [(e 2)]), i (.call 32 [(l 0), (l 2)] false), i (.ext 0 (l 3)), i (.ext 1 (l 3))] [(14, l 4), (13, l 5)] [(0, 3)])
  (.seq (.reg [i (.load true 1 (e 12)), i (.store 1 (e 5) (l 0))] [(6, e 14), (7, e 13)])
  .ret))))))))))
def f_bind_scope_bind : AFunc := ⟨16, 3, .pure, [.cell true 1 5, .env 6, .env 7], b_bind_scope_bind⟩
def b_expr_Check : ACode :=
  (.seq (.reg [i (.box 1 (e 0))] [(1, l 0), (2, (v (.int .i64 0)))])
  (.seq (.seq (.reg [i (.load true 1 (e 1)), i (.call 10 [(l 0)] false), i (.ext 0 (l 1)), i (.ext 1 (l 1))] [(3, l 3)])
  (.seq (.reg [i (.una .not (e 3))] [(4, l 0)])
  (.cond (e 4) (.seq (.reg [] [(2, (v (.int .i64 200)))])
  .ret) .skip)))
  (.seq (.reg [] [(2, (v (.int .i64 0)))])
  .ret)))
def f_expr_Check : AFunc := ⟨5, 1, .pure, [.env 2], b_expr_Check⟩
def l_expr_Cols_0 : ACode :=
  (.seq (.reg [i (.bin .lss (e 8) (e 7))] [(9, l 0)])
  (.seq (.cond (e 9) .skip (.exit 0))
  (.seq (.blk 1 (.seq (.reg [i (.idxs 8 (e 6) (e 8)), i (.load true 8 (l 0)), i (.box 8 (v (.agg [.int .i64 0, .int .i64 0, .int .i64 0, .int .i64 0, .int .i64 0, .int .i64 0, .int .u64 0, .str []]))), i (.store 8 (l 2) (l 1))] [(4, l 2)])
  (.seq (.reg [i (.fld 0 (e 4)), i (.load false 1 (l 0)), i (.bin .eql (l 1) (v (.int .i64 2)))] [(10, l 2)])
  (.cond (e 10) (.reg [i (.fld 3 (e 4)), i (.load false 1 (l 0)), i (.mkl 1 [(l 1)]), i (.app 1 (e 3) (l 2))] [(3, l 3)]) .skip))))
  (.reg [i (.bin .add (e 8) (v (.int .i64 1)))] [(8, l 0)]))))
def b_expr_Cols : ACode :=
  (.seq (.reg [i (.box 1 (e 0)), i (.mov (v (.nil0)))] [(1, l 0), (2, l 1)])
  (.seq (.seq (.reg [i (.load true 1 (e 1)), i (.call 9 [(l 0)] false), i (.bin .neq (l 1) (v (.int .i64 0)))] [(5, l 2)])
  (.cond (e 5) (.seq (.reg [i (.mov (v (.nil0)))] [(2, l 0)])
  .ret) .skip))
  (.seq (.reg [i (.mknil 1)] [(3, l 0)])
  (.seq (.seq (.reg [i (.fld 0 (e 1)), i (.load false 1 (l 0)), i (.len (l 1))] [(6, l 1), (7, l 2), (8, (v (.int .i64 0)))])
  (.blk 0 (.loop [4, 9, 10] l_expr_Cols_0)))
  (.seq (.reg [i (.call 34 [(e 3)] false)] [])
  (.seq (.reg [i (.call 39 [(e 3)] false)] [(2, l 0)])
  .ret))))))
def f_expr_Cols : AFunc := ⟨11, 1, .pure, [.env 2], b_expr_Cols⟩
def l_expr_over_int_0 : ACode :=
  (.seq (.reg [i (.bin .lss (e 14) (e 13))] [(15, l 0)])
  (.seq (.cond (e 15) .skip (.exit 0))
  (.seq (.blk 1 (.seq (.reg [i (.idxs 8 (e 12) (e 14)), i (.load true 8 (l 0)), i (.box 8 (v (.agg [.int .i64 0, .int .i64 0, .int .i64 0, .int .i64 0, .int .i64 0, .int .i64 0, .int .u64 0, .str []]))), i (.store 8 (l 2) (l 1))] [(9, l 2)])
  (.seq (.regd [i (.load true 8 (e 9)), i (.fld 0 (e 9)), i (.load false 1 (l 1)), i (.call 2 [(l 2)] false), i (.callv (e 7) [(l 3)]), i (.callv (e 1) [(l 0), (l 4)]), i (.ext 0 (l 5)), i (.ext 1 (l 5))] [(10, l 6), (11, l 7)] [(0, 5)])
  (.seq (.seq (.reg [i (.bin .neq (e 11) (v (.int .i64 0)))] [(16, l 0)])
  (.cond (e 16) (.seq (.reg [] [(8, e 11)])
  (.exit 0)) .skip))
  (.reg [i (.load false 1 (e 5)), i (.mkl 1 [(e 10)]), i (.app 1 (l 0) (l 1)), i (.store 1 (e 5) (l 2))] [])))))
  (.reg [i (.bin .add (e 14) (v (.int .i64 1)))] [(14, l 0)]))))
def b_expr_over_int : ACode :=
  (.seq (.reg [i (.box 1 (e 0))] [(2, l 0), (3, (v (.int .i64 0))), (4, (v (.int .i64 0)))])
  (.scope (.seq (.reg [i (.box 1 (v (.nil0)))] [(5, l 0)])
  (.seq (.reg [] [(6, (v (.int .i64 0)))])
  (.seq (.reg [i (.mkfn 41 [] [(e 5)])] [(7, l 0)])
  (.seq (.reg [] [(8, (v (.int .i64 0)))])
  (.seq (.seq (.lift 5 0 1 (.reg [i (.fld 0 (e 2)), i (.load false 1 (l 0)), i (.len (l 1))] [(12, l 1), (13, l 2), (14, (v (.int .i64 0)))]))
  (.blk 0 (.loop [9, 10, 11, 15, 16] l_expr_over_int_0)))
  (.seq (.seq (.reg [i (.bin .neq (e 8) (v (.int .i64 0)))] [(17, l 0)])
  (.cond (e 17) (.seq (.reg [] [(3, e 6), (4, e 8)])
  .ret) .skip))
  (.seq (.reg [i (.load false 1 (e 5)), i (.idxs 1 (l 0) (v (.int .i64 0))), i (.load false 1 (l 1))] [(3, l 2), (4, (v (.int .i64 0)))])
  .ret)))))))))
def f_expr_over_int : AFunc := ⟨18, 2, .pure, [.env 3, .env 4], b_expr_over_int⟩
def l_expr_Kind_1_0 : ACode :=
  (.seq (.reg [i (.bin .lss (e 12) (e 11))] [(13, l 0)])
  (.seq (.cond (e 13) .skip (.exit 0))
  (.seq (.blk 1 (.seq (.reg [i (.idxs 1 (e 10) (e 12)), i (.load false 1 (l 0))] [(7, l 1)])
  (.blk 2 (.seq (.reg [i (.bin .eql (e 7) (v (.int .i64 0))), g (l 0) false (.mov (e 7)), g (l 0) false (.mov (e 6)), g (l 0) false (.bin .eql (l 1) (l 2)), i (.pick (l 0) (v (.bool true)) (l 3))] [(14, l 4)])
  (.cond (e 14) .skip (.seq (.reg [i (.bin .eql (e 6) (v (.int .i64 0)))] [(15, l 0)])
  (.cond (e 15) (.reg [] [(6, e 7)]) (.reg [] [(6, (v (.int .i64 (-1))))]))))))))
  (.reg [i (.bin .add (e 12) (v (.int .i64 1)))] [(12, l 0)]))))
def b_expr_Kind_1 : ACode :=
  (.seq (.reg [i (.box 8 (e 0))] [(3, l 0), (4, (v (.int .i64 0))), (5, (v (.int .i64 0)))])
  (.seq (.reg [] [(6, (v (.int .i64 0)))])
  (.seq (.seq (.reg [i (.len (e 1))] [(10, e 1), (11, l 0), (12, (v (.int .i64 0)))])
  (.blk 0 (.loop [7, 13, 14, 15] l_expr_Kind_1_0)))
  (.seq (.reg [] [(8, e 6)])
  (.seq (.reg [] [(9, (v (.int .i64 1)))])
  (.seq (.blk 3 (.seq (.reg [i (.fld 0 (e 3)), i (.load false 1 (l 0)), i (.bin .eql (l 1) (v (.int .i64 1)))] [(16, l 2)])
  (.cond (e 16) (.seq (.reg [i (.fld 4 (e 3)), i (.fld 0 (l 0)), i (.load false 1 (l 1))] [(4, l 2), (5, (v (.int .i64 0)))])
  .ret) (.seq (.reg [i (.fld 0 (e 3)), i (.load false 1 (l 0)), i (.bin .eql (l 1) (v (.int .i64 2)))] [(17, l 2)])
  (.cond (e 17) (.seq (.reg [i (.load false 1 (e 2)), i (.fld 3 (e 3)), i (.load false 1 (l 1)), i (.idxs 1 (l 0) (l 2)), i (.load false 1 (l 3))] [(4, l 4), (5, (v (.int .i64 0)))])
  .ret) (.seq (.reg [i (.fld 0 (e 3)), i (.load false 1 (l 0)), i (.call 274 [(l 1)] false)] [(18, l 2)])
  (.cond (e 18) (.reg [] [(8, (v (.int .i64 2))), (9, (v (.int .i64 2)))]) (.seq (.reg [i (.fld 0 (e 3)), i (.load false 1 (l 0)), i (.bin .eql (l 1) (v (.int .i64 5))), g (l 2) false (.fld 0 (e 3)), g (l 2) false (.load false 1 (l 3)), g (l 2) false (.bin .eql (l 4) (v (.int .i64 22))), i (.pick (l 2) (v (.bool true)) (l 5)), g (l 6) false (.fld 0 (e 3)), g (l 6) false (.load false 1 (l 7)), g (l 6) false (.bin .eql (l 8) (v (.int .i64 23))), i (.pick (l 6) (v (.bool true)) (l 9))] [(19, l 10)])
  (.cond (e 19) (.reg [] [(8, (v (.int .i64 1)))]) .skip)))))))))
  (.seq (.seq (.reg [i (.bin .eql (e 6) (v (.int .i64 (-1)))), g (l 0) false (.mov (e 6)), g (l 0) false (.bin .neq (l 1) (v (.int .i64 0))), g (l 0) false (.mov (l 2)), g (l 3) true (.mov (e 6)), g (l 3) true (.mov (e 8)), g (l 3) true (.bin .neq (l 4) (l 5)), g (l 0) false (.pick (l 3) (l 6) (v (.bool false))), i (.pick (l 0) (v (.bool true)) (l 7))] [(20, l 8)])
  (.cond (e 20) (.seq (.reg [] [(4, (v (.int .i64 0))), (5, (v (.int .i64 201)))])
  .ret) .skip))
  (.seq (.reg [] [(4, e 9), (5, (v (.int .i64 0)))])
  .ret))))))))
def f_expr_Kind_1 : AFunc := ⟨21, 3, .pure, [.env 4, .env 5], b_expr_Kind_1⟩
def b_lower_builder_scan : ACode :=
  (.seq (.reg [i (.box 1 (v (.agg [.nil0])))] [(2, l 0), (3, (v (.int .i64 0)))])
  (.seq (.reg [i (.nilck (e 0)), i (.fld 0 (l 0)), i (.load true 1 (l 1)), i (.mkl 1 [(e 1)]), i (.call 202 [(l 2), (l 3)] false), i (.ext 0 (l 4)), i (.ext 1 (l 4))] [(4, l 5), (5, l 6)])
  (.seq (.seq (.reg [i (.bin .neq (e 5) (v (.int .i64 0)))] [(6, l 0)])
  (.cond (e 6) (.seq (.reg [i (.build [.nil0] []), i (.store 1 (e 2) (l 0))] [(3, e 5)])
  .ret) .skip))
  (.seq (.reg [i (.build [.int .i64 0, .int .i64 0, .int .i64 0, .int .i64 0, .nil0, .bool false, .nil0, .nil0, .nil0, .nil0, .nil0, .int .i64 0] [(0, 1, (v (.int .i64 1))), (3, 1, (e 1)), (4, 1, (e 4))]), i (.call 205 [(l 0)] false), i (.ext 0 (l 1)), i (.ext 1 (l 1)), i (.store 1 (e 2) (l 2))] [(3, l 3)])
  .ret))))
def f_lower_builder_scan : AFunc := ⟨7, 2, .pure, [.cell true 1 2, .env 3], b_lower_builder_scan⟩
def b_lower_builder_when : ACode :=
  (.seq (.reg [i (.box 12 (e 2))] [(3, l 0)])
  (.seq (.reg [] [(4, e 1)])
  (.cond (e 4) (.reg [i (.load true 12 (e 3)), i (.call 121 [(e 0), (l 0), (v (.nil0))] false)] []) .skip)))
def f_lower_builder_when : AFunc := ⟨5, 3, .keep, [], b_lower_builder_when⟩
def l_logic_checker_all_1_0 : ACode :=
  (.seq (.reg [i (.bin .lss (e 12) (e 11))] [(13, l 0)])
  (.seq (.cond (e 13) .skip (.exit 0))
  (.seq (.blk 1 (.seq (.reg [i (.idxs 12 (e 10) (e 12)), i (.load true 12 (l 0)), i (.box 12 (v (.agg [.int .i64 0, .int .i64 0, .int .i64 0, .int .i64 0, .nil0, .bool false, .nil0, .nil0, .nil0, .nil0, .nil0, .int .i64 0]))), i (.store 12 (l 2) (l 1))] [(4, l 2), (3, e 12)])
  (.seq (.reg [i (.fld 0 (e 4)), i (.load false 1 (l 0)), i (.look (.nilf) true (e 2) (l 1)), i (.ext 0 (l 2)), i (.ext 1 (l 2))] [(5, l 3), (6, l 4)])
  (.seq (.reg [g (e 6) true (.load true 12 (e 4)), g (e 6) true (.call 4 [(l 0)] false), g (e 6) true (.call 5 [(l 1)] false), i (.pick (e 6) (l 2) (v (.bool false)))] [(7, l 3)])
  (.seq (.seq (.reg [] [(14, e 7)])
  (.cond (e 14) (.seq (.reg [] [(8, (v (.int .i64 0)))])
  (.seq (.reg [i (.load false 1 (e 1)), i (.call 6 [(l 0), (e 3)] false), i (.ext 0 (l 1)), i (.ext 1 (l 1))] [(8, l 2), (7, l 3)])
  (.regd [i (.load false 1 (e 1)), i (.load false 1 (e 1)), i (.nilck (l 1)), i (.fld 2 (l 2)), i (.load false 1 (l 3)), i (.mkl 1 [(e 8)]), i (.app 1 (l 4) (l 5)), i (.nilck (l 0)), i (.fld 2 (l 7)), i (.store 1 (l 8) (l 6))] [] [(0, 7)]))) .skip))
  (.seq (.reg [i (.mov (v (.nil0)))] [(9, l 0)])
  (.seq (.seq (.reg [] [(15, e 7)])
  (.cond (e 15) (.reg [i (.load true 12 (e 4)), i (.callv (e 5) [(l 0)]), i (.ext 0 (l 1)), i (.ext 1 (l 1))] [(9, l 2), (7, l 3)]) .skip))
  (.seq (.reg [g (e 7) true (.mov (e 9)), g (e 7) true (.len (l 0)), g (e 7) true (.bin .leq (l 1) (v (.int .i64 16))), i (.pick (e 7) (l 2) (v (.bool false)))] [(7, l 3)])
  (.seq (.regd [i (.load false 1 (e 1)), i (.load false 1 (e 1)), i (.nilck (l 1)), i (.fld 1 (l 2)), i (.load false 1 (l 3)), i (.mkl 1 [(e 9)]), i (.app 1 (l 4) (l 5)), i (.nilck (l 0)), i (.fld 1 (l 7)), i (.store 1 (l 8) (l 6))] [] [(0, 7)])
  (.seq (.reg [i (.callv (e 0) [(e 3), (e 7)]), i (.una .not (l 0)), g (l 1) false (.mov (e 7)), g (l 1) false (.una .not (l 2)), i (.pick (l 1) (v (.bool true)) (l 3))] [(16, l 4)])
  (.cond (e 16) .ret .skip)))))))))))
  (.reg [i (.bin .add (e 12) (v (.int .i64 1)))] [(12, l 0)]))))
def b_logic_checker_all_1 : ACode :=
  (.seq (.reg [i (.mkmap), i (.load false 1 (e 1)), i (.mkfn 29 [(l 1)] []), i (.mput (l 0) (v (.int .i64 1)) (l 2)), i (.load false 1 (e 1)), i (.mkfn 275 [(l 4)] []), i (.mput (l 0) (v (.int .i64 2)) (l 5)), i (.load false 1 (e 1)), i (.mkfn 276 [(l 7)] []), i (.mput (l 0) (v (.int .i64 3)) (l 8)), i (.load false 1 (e 1)), i (.mkfn 277 [(l 10)] []), i (.mput (l 0) (v (.int .i64 4)) (l 11)), i (.load false 1 (e 1)), i (.mkfn 45 [(l 13)] []), i (.mput (l 0) (v (.int .i64 5)) (l 14)), i (.load false 1 (e 1)), i (.mkfn 278 [(l 16)] []), i (.mput (l 0) (v (.int .i64 6)) (l 17)), i (.load false 1 (e 1)), i (.mkfn 279 [(l 19)] []), i (.mput (l 0) (v (.int .i64 7)) (l 20)), i (.load false 1 (e 1)), i (.mkfn 52 [(l 22)] []), i (.mput (l 0) (v (.int .i64 8)) (l 23))] [(2, l 0)])
  (.seq (.reg [i (.load false 1 (e 1)), i (.nilck (l 0)), i (.fld 0 (l 1)), i (.fld 0 (l 2)), i (.load false 1 (l 3)), i (.len (l 4))] [(10, l 4), (11, l 5), (12, (v (.int .i64 0)))])
  (.blk 0 (.loop [3, 4, 5, 6, 7, 8, 9, 13, 14, 15, 16] l_logic_checker_all_1_0))))
def f_logic_checker_all_1 : AFunc := ⟨17, 2, .keep, [], b_logic_checker_all_1⟩
def b_logic_checker_scan : ACode :=
  (.seq (.reg [i (.box 12 (e 1)), i (.mov (v (.nil0)))] [(2, l 0), (3, l 1), (4, (v (.bool false)))])
  (.seq (.reg [i (.mov (v (.fn 30 [] [])))] [(5, l 0)])
  (.seq (.reg [i (.fld 3 (e 2)), i (.load false 1 (l 0)), i (.bin .geq (l 1) (v (.int .i64 0))), g (l 2) true (.fld 3 (e 2)), g (l 2) true (.load false 1 (l 3)), g (l 2) true (.bin .lss (l 4) (v (.int .i64 4))), i (.pick (l 2) (l 5) (v (.bool false))), g (l 6) true (.fld 4 (e 2)), g (l 6) true (.load false 1 (l 7)), g (l 6) true (.len (l 8)), g (l 6) true (.bin .geq (l 9) (v (.int .i64 1))), i (.pick (l 6) (l 10) (v (.bool false))), g (l 11) true (.fld 4 (e 2)), g (l 11) true (.load false 1 (l 12)), g (l 11) true (.len (l 13)), g (l 11) true (.bin .leq (l 14) (v (.int .i64 4))), i (.pick (l 11) (l 15) (v (.bool false)))] [(6, l 16)])
  (.seq (.reg [i (.fld 4 (e 2)), i (.load false 1 (l 0)), g (e 6) true (.fld 4 (e 2)), g (e 6) true (.load false 1 (l 2)), g (e 6) true (.mov (e 5)), g (e 6) true (.call 20 [(l 3), (l 4)] false), g (e 6) true (.una .not (l 5)), i (.pick (e 6) (l 6) (v (.bool false)))] [(3, l 1), (4, l 7)])
  .ret))))
def f_logic_checker_scan : AFunc := ⟨7, 2, .keep, [.env 3, .env 4], b_logic_checker_scan⟩
def l_logic_checker_project_0 : ACode :=
  (.seq (.reg [i (.bin .lss (e 12) (e 11))] [(13, l 0)])
  (.seq (.cond (e 13) .skip (.exit 0))
  (.seq (.blk 1 (.seq (.reg [i (.idxs 1 (e 10) (e 12)), i (.load true 1 (l 0)), i (.box 1 (v (.agg [.nil0]))), i (.store 1 (l 2) (l 1))] [(7, l 2)])
  (.seq (.reg [i (.load true 1 (e 7)), i (.nilck (e 0)), i (.fld 1 (l 1)), i (.load false 1 (l 2)), i (.fld 1 (e 2)), i (.load false 1 (l 4)), i (.idxs 1 (l 3) (l 5)), i (.load false 1 (l 6)), i (.call 32 [(l 0), (l 7)] false), i (.ext 0 (l 8)), i (.ext 1 (l 8))] [(8, l 9), (9, l 10)])
  (.reg [i (.mkl 1 [(e 8)]), i (.app 1 (e 6) (l 0)), g (e 5) true (.mov (e 9)), g (e 5) true (.bin .eql (l 2) (v (.int .i64 0))), i (.pick (e 5) (l 3) (v (.bool false)))] [(6, l 1), (5, l 4)]))))
  (.reg [i (.bin .add (e 12) (v (.int .i64 1)))] [(12, l 0)]))))
def b_logic_checker_project : ACode :=
  (.seq (.reg [i (.box 12 (e 1)), i (.mov (v (.nil0)))] [(2, l 0), (3, l 1), (4, (v (.bool false)))])
  (.seq (.reg [i (.fld 9 (e 2)), i (.load false 1 (l 0)), i (.len (l 1)), i (.bin .geq (l 2) (v (.int .i64 1))), g (l 3) true (.fld 9 (e 2)), g (l 3) true (.load false 1 (l 4)), g (l 3) true (.len (l 5)), g (l 3) true (.bin .leq (l 6) (v (.int .i64 16))), i (.pick (l 3) (l 7) (v (.bool false)))] [(5, l 8)])
  (.seq (.reg [i (.mknil 1)] [(6, l 0)])
  (.seq (.seq (.reg [i (.fld 9 (e 2)), i (.load false 1 (l 0)), i (.len (l 1))] [(10, l 1), (11, l 2), (12, (v (.int .i64 0)))])
  (.blk 0 (.loop [7, 8, 9, 13] l_logic_checker_project_0)))
  (.seq (.reg [] [(3, e 6), (4, e 5)])
  .ret)))))
def f_logic_checker_project : AFunc := ⟨14, 2, .pure, [.env 3, .env 4], b_logic_checker_project⟩
def b_logic_checker_order : ACode :=
  (.seq (.reg [i (.box 12 (e 1)), i (.mov (v (.nil0)))] [(2, l 0), (3, l 1), (4, (v (.bool false)))])
  (.seq (.regd [i (.nilck (e 0)), i (.fld 1 (l 0)), i (.load false 1 (l 1)), i (.fld 1 (e 2)), i (.load false 1 (l 3)), i (.idxs 1 (l 2) (l 4)), i (.load false 1 (l 5)), i (.box 1 (v (.nil0))), i (.store 1 (l 7) (l 6))] [(5, l 7)] [(0, 8), (1, 8), (2, 8), (3, 8), (4, 8), (5, 8), (6, 8)])
  (.seq (.reg [i (.mkfn 280 [] [(e 5)])] [(6, l 0)])
  (.seq (.reg [i (.fld 10 (e 2)), i (.load false 1 (l 0)), i (.len (l 1)), i (.bin .leq (l 2) (v (.int .i64 3))), g (l 3) true (.fld 10 (e 2)), g (l 3) true (.load false 1 (l 4)), g (l 3) true (.mov (e 6)), g (l 3) true (.call 53 [(l 5), (l 6)] false), g (l 3) true (.una .not (l 7)), i (.pick (l 3) (l 8) (v (.bool false))), g (l 9) true (.fld 11 (e 2)), g (l 9) true (.load false 1 (l 10)), g (l 9) true (.bin .geq (l 11) (v (.int .i64 (-1)))), i (.pick (l 9) (l 12) (v (.bool false))), g (l 13) true (.fld 11 (e 2)), g (l 13) true (.load false 1 (l 14)), g (l 13) true (.bin .leq (l 15) (v (.int .i64 2147483647))), i (.pick (l 13) (l 16) (v (.bool false)))] [(7, l 17)])
  (.seq (.reg [i (.load false 1 (e 5)), g (e 7) true (.mov (e 0)), g (e 7) true (.nilck (l 1)), g (e 7) true (.fld 1 (l 2)), g (e 7) true (.load false 1 (l 3)), g (e 7) true (.len (l 4)), g (e 7) true (.mov (e 0)), g (e 7) true (.nilck (l 6)), g (e 7) true (.fld 0 (l 7)), g (e 7) true (.fld 0 (l 8)), g (e 7) true (.load false 1 (l 9)), g (e 7) true (.len (l 10)), g (e 7) true (.bin .sub (l 11) (v (.int .i64 1))), g (e 7) true (.bin .eql (l 5) (l 12)), i (.pick (e 7) (l 13) (v (.bool false)))] [(3, l 0), (4, l 14)])
  .ret)))))
def f_logic_checker_order : AFunc := ⟨8, 2, .keep, [.env 3, .env 4], b_logic_checker_order⟩
def b_logic_zero : ACode :=
  (.seq (.reg [i (.box 12 (e 0))] [(1, l 0), (2, (v (.bool false)))])
  (.seq (.reg [i (.fld 3 (e 1)), i (.load false 1 (l 0)), i (.bin .eql (l 1) (v (.int .i64 0))), g (l 2) true (.fld 4 (e 1)), g (l 2) true (.load false 1 (l 3)), g (l 2) true (.len (l 4)), g (l 2) true (.bin .eql (l 5) (v (.int .i64 0))), i (.pick (l 2) (l 6) (v (.bool false))), g (l 7) true (.fld 5 (e 1)), g (l 7) true (.load false 1 (l 8)), g (l 7) true (.una .not (l 9)), i (.pick (l 7) (l 10) (v (.bool false))), g (l 11) true (.fld 6 (e 1)), g (l 11) true (.fld 0 (l 12)), g (l 11) true (.load false 1 (l 13)), g (l 11) true (.len (l 14)), g (l 11) true (.bin .eql (l 15) (v (.int .i64 0))), i (.pick (l 11) (l 16) (v (.bool false))), g (l 17) true (.fld 7 (e 1)), g (l 17) true (.load false 1 (l 18)), g (l 17) true (.len (l 19)), g (l 17) true (.bin .eql (l 20) (v (.int .i64 0))), i (.pick (l 17) (l 21) (v (.bool false))), g (l 22) true (.fld 8 (e 1)), g (l 22) true (.load false 1 (l 23)), g (l 22) true (.len (l 24)), g (l 22) true (.bin .eql (l 25) (v (.int .i64 0))), i (.pick (l 22) (l 26) (v (.bool false))), g (l 27) true (.fld 9 (e 1)), g (l 27) true (.load false 1 (l 28)), g (l 27) true (.len (l 29)), g (l 27) true (.bin .eql (l 30) (v (.int .i64 0))), i (.pick (l 27) (l 31) (v (.bool false))), g (l 32) true (.fld 10 (e 1)), g (l 32) true (.load false 1 (l 33)), g (l 32) true (.len (l 34)), g (l 32) true (.bin .eql (l 35) (v (.int .i64 0))), i (.pick (l 32) (l 36) (v (.bool false))), g (l 37) true (.fld 11 (e 1)), g (l 37) true (.load false 1 (l 38)), g (l 37) true (.bin .eql (l 39) (v (.int .i64 0))), i (.pick (l 37) (l 40) (v (.bool false)))] [(2, l 41)])
  .ret))
def f_logic_zero : AFunc := ⟨3, 1, .pure, [.env 2], b_logic_zero⟩
def b_logic_bare : ACode :=
  (.seq (.reg [i (.box 12 (e 0)), i (.box 12 (v (.agg [.int .i64 0, .int .i64 0, .int .i64 0, .int .i64 0, .nil0, .bool false, .nil0, .nil0, .nil0, .nil0, .nil0, .int .i64 0])))] [(1, l 0), (2, l 1)])
  (.seq (.seq (.reg [i (.fld 0 (e 1)), i (.load false 1 (l 0))] [(3, l 1)])
  (.blk 0 (.seq (.reg [i (.bin .eql (e 3) (v (.int .i64 1)))] [(4, l 0)])
  (.cond (e 4) (.reg [i (.fld 3 (e 1)), i (.store 1 (l 0) (v (.int .i64 0))), i (.fld 4 (e 1)), i (.store 1 (l 2) (v (.nil0)))] []) (.seq (.reg [i (.bin .eql (e 3) (v (.int .i64 2)))] [(5, l 0)])
  (.cond (e 5) (.reg [i (.build [.nil0] []), i (.fld 5 (e 1)), i (.store 1 (l 1) (v (.bool false))), i (.fld 6 (e 1)), i (.store 1 (l 3) (l 0))] []) (.seq (.reg [i (.bin .eql (e 3) (v (.int .i64 3)))] [(6, l 0)])
  (.cond (e 6) (.reg [i (.build [.nil0] []), i (.fld 6 (e 1)), i (.store 1 (l 1) (l 0))] []) (.seq (.reg [i (.bin .eql (e 3) (v (.int .i64 4)))] [(7, l 0)])
  (.cond (e 7) (.reg [i (.fld 7 (e 1)), i (.store 1 (l 0) (v (.nil0))), i (.fld 8 (e 1)), i (.store 1 (l 2) (v (.nil0)))] []) (.seq (.reg [i (.bin .eql (e 3) (v (.int .i64 5)))] [(8, l 0)])
  (.cond (e 8) (.reg [i (.fld 9 (e 1)), i (.store 1 (l 0) (v (.nil0)))] []) (.seq (.reg [i (.bin .eql (e 3) (v (.int .i64 8)))] [(9, l 0)])
  (.cond (e 9) (.reg [i (.fld 10 (e 1)), i (.store 1 (l 0) (v (.nil0))), i (.fld 11 (e 1)), i (.store 1 (l 2) (v (.int .i64 0)))] []) .skip))))))))))))))
  (.seq (.reg [i (.load true 12 (e 1)), i (.store 12 (e 2) (l 0))] [])
  .ret)))
def f_logic_bare : AFunc := ⟨10, 1, .keep, [.cell true 12 2], b_logic_bare⟩
def b_logic_checker_below : ACode :=
  (.seq (.reg [] [(2, (v (.int .i64 0))), (3, (v (.bool false)))])
  (.seq (.reg [i (.nilck (e 0)), i (.fld 0 (l 0)), i (.fld 0 (l 1)), i (.load false 1 (l 2)), i (.idxs 12 (l 3) (e 1)), i (.load true 12 (l 4)), i (.box 12 (v (.agg [.int .i64 0, .int .i64 0, .int .i64 0, .int .i64 0, .nil0, .bool false, .nil0, .nil0, .nil0, .nil0, .nil0, .int .i64 0]))), i (.store 12 (l 6) (l 5))] [(4, l 6)])
  (.seq (.seq (.reg [i (.fld 0 (e 4)), i (.load false 1 (l 0)), i (.call 7 [(l 1)] false)] [(5, l 2)])
  (.blk 0 (.seq (.reg [i (.bin .eql (e 5) (v (.int .i64 0)))] [(6, l 0)])
  (.cond (e 6) (.seq (.reg [i (.fld 1 (e 4)), i (.load false 1 (l 0)), i (.bin .eql (l 1) (v (.int .i64 (-1)))), g (l 2) true (.fld 2 (e 4)), g (l 2) true (.load false 1 (l 3)), g (l 2) true (.bin .eql (l 4) (v (.int .i64 (-1)))), i (.pick (l 2) (l 5) (v (.bool false)))] [(2, e 1), (3, l 6)])
  .ret) (.seq (.reg [i (.bin .eql (e 5) (v (.int .i64 1)))] [(7, l 0)])
  (.cond (e 7) (.seq (.seq (.reg [i (.fld 1 (e 4)), i (.load false 1 (l 0)), i (.bin .sub (e 1) (v (.int .i64 1))), i (.bin .neq (l 1) (l 2)), g (l 3) false (.fld 2 (e 4)), g (l 3) false (.load false 1 (l 4)), g (l 3) false (.bin .neq (l 5) (v (.int .i64 (-1)))), i (.pick (l 3) (v (.bool true)) (l 6)), g (l 7) false (.mov (e 1)), g (l 7) false (.bin .eql (l 8) (v (.int .i64 0))), i (.pick (l 7) (v (.bool true)) (l 9))] [(8, l 10)])
  (.cond (e 8) (.seq (.reg [] [(2, (v (.int .i64 0))), (3, (v (.bool false)))])
  .ret) .skip))
  (.seq (.reg [i (.nilck (e 0)), i (.fld 2 (l 0)), i (.load false 1 (l 1)), i (.fld 1 (e 4)), i (.load false 1 (l 3)), i (.idxs 1 (l 2) (l 4)), i (.load false 1 (l 5))] [(2, l 6), (3, (v (.bool true)))])
  .ret)) .skip))))))
  (.seq (.seq (.reg [i (.fld 2 (e 4)), i (.load false 1 (l 0)), i (.bin .sub (e 1) (v (.int .i64 1))), i (.bin .neq (l 1) (l 2)), g (l 3) false (.mov (e 1)), g (l 3) false (.bin .eql (l 4) (v (.int .i64 0))), i (.pick (l 3) (v (.bool true)) (l 5)), g (l 6) false (.fld 1 (e 4)), g (l 6) false (.load false 1 (l 7)), g (l 6) false (.mov (e 0)), g (l 6) false (.nilck (l 9)), g (l 6) false (.fld 2 (l 10)), g (l 6) false (.load false 1 (l 11)), g (l 6) false (.fld 2 (e 4)), g (l 6) false (.load false 1 (l 13)), g (l 6) false (.idxs 1 (l 12) (l 14)), g (l 6) false (.load false 1 (l 15)), g (l 6) false (.bin .sub (l 16) (v (.int .i64 1))), g (l 6) false (.bin .neq (l 8) (l 17)), i (.pick (l 6) (v (.bool true)) (l 18)), g (l 19) false (.fld 1 (e 4)), g (l 19) false (.load false 1 (l 20)), g (l 19) false (.bin .lss (l 21) (v (.int .i64 0))), i (.pick (l 19) (v (.bool true)) (l 22))] [(9, l 23)])
  (.cond (e 9) (.seq (.reg [] [(2, (v (.int .i64 0))), (3, (v (.bool false)))])
  .ret) .skip))
  (.seq (.reg [i (.nilck (e 0)), i (.fld 2 (l 0)), i (.load false 1 (l 1)), i (.fld 1 (e 4)), i (.load false 1 (l 3)), i (.idxs 1 (l 2) (l 4)), i (.load false 1 (l 5))] [(2, l 6), (3, (v (.bool true)))])
  .ret)))))
def f_logic_checker_below : AFunc := ⟨10, 2, .pure, [.env 2, .env 3], b_logic_checker_below⟩
def l_rewrite_project_0 : ACode :=
  (.seq (.reg [i (.bin .lss (e 13) (e 12))] [(14, l 0)])
  (.seq (.cond (e 14) .skip (.exit 0))
  (.seq (.blk 1 (.seq (.reg [i (.idxs 1 (e 11) (e 13)), i (.load true 1 (l 0)), i (.box 1 (v (.agg [.nil0]))), i (.store 1 (l 2) (l 1))] [(7, l 2)])
  (.seq (.reg [i (.load true 1 (e 7)), i (.fld 1 (e 5)), i (.fld 9 (l 1)), i (.load false 1 (l 2)), i (.call 282 [(l 0), (l 3)] false), i (.ext 0 (l 4)), i (.ext 1 (l 4)), i (.box 1 (v (.agg [.nil0]))), i (.store 1 (l 7) (l 5))] [(8, l 7), (9, l 6)])
  (.seq (.seq (.reg [i (.bin .neq (e 9) (v (.int .i64 0)))] [(15, l 0)])
  (.cond (e 15) (.seq (.reg [i (.load true 14 (e 2)), i (.store 14 (e 3) (l 0))] [(4, (v (.int .i64 0)))])
  .ret) .skip))
  (.reg [i (.load true 1 (e 8)), i (.mkl 1 [(l 0)]), i (.app 1 (e 6) (l 1))] [(6, l 2)])))))
  (.reg [i (.bin .add (e 13) (v (.int .i64 1)))] [(13, l 0)]))))
def b_rewrite_project : ACode :=
  (.seq (.reg [i (.box 14 (e 0)), i (.box 14 (v (.agg [.nil0, .int .i64 0, .int .i64 0, .int .i64 0, .int .i64 0, .nil0, .bool false, .nil0, .nil0, .nil0, .nil0, .nil0, .int .i64 0, .nil0])))] [(2, l 0), (3, l 1), (4, (v (.int .i64 0)))])
  (.seq (.reg [i (.fld 13 (e 2)), i (.load false 1 (l 0)), i (.idxs 14 (l 1) (v (.int .i64 0))), i (.load true 14 (l 2)), i (.box 14 (v (.agg [.nil0, .int .i64 0, .int .i64 0, .int .i64 0, .int .i64 0, .nil0, .bool false, .nil0, .nil0, .nil0, .nil0, .nil0, .int .i64 0, .nil0]))), i (.store 14 (l 4) (l 3))] [(5, l 4)])
  (.seq (.seq (.reg [i (.fld 1 (e 5)), i (.fld 0 (l 0)), i (.load false 1 (l 1)), i (.bin .neq (l 2) (v (.int .i64 5))), g (l 3) false (.fld 1 (e 5)), g (l 3) false (.fld 9 (l 4)), g (l 3) false (.load false 1 (l 5)), g (l 3) false (.call 283 [(l 6), (v (.fn 284 [] []))] false), i (.pick (l 3) (v (.bool true)) (l 7))] [(10, l 8)])
  (.cond (e 10) (.seq (.reg [i (.load true 14 (e 2)), i (.store 14 (e 3) (l 0))] [(4, (v (.int .i64 0)))])
  .ret) .skip))
  (.seq (.reg [i (.mknil 1)] [(6, l 0)])
  (.seq (.seq (.reg [i (.fld 1 (e 2)), i (.fld 9 (l 0)), i (.load false 1 (l 1)), i (.len (l 2))] [(11, l 2), (12, l 3), (13, (v (.int .i64 0)))])
  (.blk 0 (.loop [4, 7, 8, 9, 14, 15] l_rewrite_project_0)))
  (.seq (.reg [i (.build [.int .i64 0, .int .i64 0, .int .i64 0, .int .i64 0, .nil0, .bool false, .nil0, .nil0, .nil0, .nil0, .nil0, .int .i64 0] [(0, 1, (v (.int .i64 5))), (9, 1, (e 6))]), i (.fld 13 (e 5)), i (.load false 1 (l 1)), i (.idxs 14 (l 2) (v (.int .i64 0))), i (.load true 14 (l 3)), i (.mkl 14 [(l 4)]), i (.call 123 [(l 0), (l 5)] false), i (.ext 0 (l 6)), i (.ext 1 (l 6)), i (.call 281 [(l 7), (l 8)] false), i (.ext 0 (l 9)), i (.ext 1 (l 9)), i (.store 14 (e 3) (l 10))] [(4, l 11)])
  .ret))))))
def f_rewrite_project : AFunc := ⟨16, 2, .trunc, [.cell true 14 3, .env 4], b_rewrite_project⟩
def b_slices_Clone_api_LNode_api_LNode : ACode :=
  (.seq (.reg [i (.mov (v (.nil0)))] [(1, l 0)])
  (.seq (.seq (.reg [i (.nils false (e 0))] [(2, l 0)])
  (.cond (e 2) (.seq (.reg [i (.mov (v (.nil0)))] [(1, l 0)])
  .ret) .skip))
  (.seq (.reg [i (.mknil 12), i (.app 12 (l 0) (e 0))] [(1, l 1)])
  .ret)))
def f_slices_Clone_api_LNode_api_LNode : AFunc := ⟨3, 1, .pure, [.env 1], b_slices_Clone_api_LNode_api_LNode⟩
def b_internal_stringslite_IndexByte : ACode :=
  (.seq (.reg [] [(2, (v (.int .i64 0)))])
  (.seq (.reg [i (.call 61 [(e 0), (e 1)] false)] [(2, l 0)])
  .ret))
def f_internal_stringslite_IndexByte : AFunc := ⟨3, 2, .pure, [.env 2], b_internal_stringslite_IndexByte⟩
def l_lex_all_1_0 : ACode :=
  (.seq (.seq (.reg [i (.load false 1 (e 1)), i (.lent (l 0)), i (.bin .lss (e 2) (l 1))] [(6, l 2)])
  (.cond (e 6) .skip (.exit 0)))
  (.blk 1 (.seq (.seq (.reg [i (.load false 1 (e 1)), i (.idxt (l 0) (e 2)), i (.call 59 [(v (.str [32, 9, 10, 13])), (l 1)] false), i (.bin .geq (l 2) (v (.int .i64 0)))] [(7, l 3)])
  (.cond (e 7) (.seq (.reg [i (.bin .add (e 2) (v (.int .i64 1)))] [(2, l 0)])
  (.exit 1)) .skip))
  (.seq (.reg [i (.load false 1 (e 1)), i (.slicet (l 0) (some (e 2)) none), i (.call 81 [(l 1)] false), i (.ext 0 (l 2)), i (.ext 1 (l 2)), i (.ext 2 (l 2)), i (.box 4 (v (.agg [.int .i64 0, .int .i64 0, .str [], .int .u64 0]))), i (.store 4 (l 6) (l 3))] [(3, l 6), (4, l 4), (5, l 5)])
  (.seq (.reg [i (.fld 1 (e 3)), i (.store 1 (l 0) (e 2))] [])
  (.seq (.seq (.reg [i (.load true 4 (e 3)), i (.callv (e 0) [(l 0), (e 5)]), i (.una .not (l 1)), g (l 2) false (.mov (e 5)), g (l 2) false (.una .not (l 3)), i (.pick (l 2) (v (.bool true)) (l 4))] [(8, l 5)])
  (.cond (e 8) (.exit 0) .skip))
  (.reg [i (.bin .add (e 2) (e 4))] [(2, l 0)])))))))
def b_lex_all_1 : ACode :=
  (.scope (.seq (.reg [] [(2, (v (.int .i64 0)))])
  (.blk 0 (.loop [3, 4, 5, 6, 7, 8] l_lex_all_1_0))))
def f_lex_all_1 : AFunc := ⟨9, 2, .keep, [], b_lex_all_1⟩
def b_strings_IndexByte : ACode :=
  (.seq (.reg [] [(2, (v (.int .i64 0)))])
  (.seq (.reg [i (.call 60 [(e 0), (e 1)] false)] [(2, l 0)])
  .ret))
def f_strings_IndexByte : AFunc := ⟨3, 2, .pure, [.env 2], b_strings_IndexByte⟩
def b_lex_first : ACode :=
  (.seq (.reg [i (.box 1 (e 0)), i (.box 4 (v (.agg [.int .i64 0, .int .i64 0, .str [], .int .u64 0])))] [(1, l 0), (2, l 1), (3, (v (.int .i64 0))), (4, (v (.bool false)))])
  (.seq (.seq (.reg [i (.load false 1 (e 1)), i (.idxt (l 0) (v (.int .i64 0))), i (.bin .eql (l 1) (v (.int .u8 39)))] [(14, l 2)])
  (.cond (e 14) (.seq (.reg [i (.load false 1 (e 1)), i (.call 287 [(l 0)] false), i (.ext 0 (l 1)), i (.ext 1 (l 1)), i (.ext 2 (l 1))] [(5, l 2), (6, l 3), (7, l 4)])
  (.seq (.reg [i (.build [.int .i64 0, .int .i64 0, .str [], .int .u64 0] [(0, 1, (v (.int .i64 4))), (2, 1, (e 5))]), i (.store 4 (e 2) (l 0))] [(3, e 6), (4, e 7)])
  .ret)) .skip))
  (.seq (.seq (.reg [i (.load false 1 (e 1)), i (.call 82 [(l 0)] false)] [(8, l 1)])
  (.seq (.reg [i (.bin .gtr (e 8) (v (.int .i64 0)))] [(15, l 0)])
  (.cond (e 15) (.seq (.reg [i (.load false 1 (e 1)), i (.slicet (l 0) none (some (e 8)))] [(9, l 1)])
  (.seq (.seq (.reg [i (.call 85 [(e 9)] false), i (.ext 0 (l 0)), i (.ext 1 (l 0))] [(10, l 1), (11, l 2)])
  (.seq (.reg [] [(16, e 11)])
  (.cond (e 16) (.seq (.reg [i (.build [.int .i64 0, .int .i64 0, .str [], .int .u64 0] [(0, 1, (v (.int .i64 3))), (3, 1, (e 10))]), i (.store 4 (e 2) (l 0))] [(3, e 8), (4, (v (.bool true)))])
  .ret) .skip)))
  (.seq (.seq (.reg [i (.call 17 [(e 9)] false)] [(12, l 0)])
  (.seq (.reg [i (.call 18 [(e 12)] false)] [(17, l 0)])
  (.cond (e 17) (.seq (.reg [i (.build [.int .i64 0, .int .i64 0, .str [], .int .u64 0] [(0, 1, (v (.int .i64 1))), (2, 1, (e 12))]), i (.store 4 (e 2) (l 0))] [(3, e 8), (4, (v (.bool true)))])
  .ret) .skip)))
  (.seq (.reg [i (.build [.int .i64 0, .int .i64 0, .str [], .int .u64 0] [(0, 1, (v (.int .i64 2))), (2, 1, (e 9))]), i (.call 19 [(e 9)] false), i (.store 4 (e 2) (l 0))] [(3, e 8), (4, l 1)])
  .ret)))) .skip)))
  (.seq (.reg [i (.aslice 14 (v (.cptr false (gl10) 0))), i (.mkfn 285 [] [(e 1)]), i (.call 286 [(l 0), (l 1)] false)] [(13, l 2)])
  (.seq (.seq (.reg [i (.bin .lss (e 13) (v (.int .i64 0)))] [(18, l 0)])
  (.cond (e 18) (.seq (.reg [i (.build [.int .i64 0, .int .i64 0, .str [], .int .u64 0] []), i (.store 4 (e 2) (l 0))] [(3, (v (.int .i64 0))), (4, (v (.bool false)))])
  .ret) .skip))
  (.seq (.regd [i (.idxa 14 1 (v (.cptr false (gl10) 0)) (e 13)), i (.load false 1 (l 0)), i (.build [.int .i64 0, .int .i64 0, .str [], .int .u64 0] [(0, 1, (v (.int .i64 5))), (2, 1, (l 1))]), i (.idxa 14 1 (v (.cptr false (gl10) 0)) (e 13)), i (.load false 1 (l 3)), i (.lent (l 4)), i (.store 4 (e 2) (l 2))] [(3, l 5), (4, (v (.bool true)))] [(3, 7), (4, 7)])
  .ret))))))
def f_lex_first : AFunc := ⟨19, 1, .pure, [.cell true 4 2, .env 3, .env 4], b_lex_first⟩
def b_parse_reader_or : ACode :=
  (.seq (.reg [i (.mov (v (.nil0)))] [(1, l 0)])
  (.seq (.reg [i (.mkmap), i (.mputk [] (l 0) (v (.str [79, 82])) (v (.int .i64 23))), i (.mkfn 157 [(e 0)] []), i (.call 89 [(e 0), (v (.int .i64 1)), (l 0), (l 2)] false)] [(1, l 3)])
  .ret))
def f_parse_reader_or : AFunc := ⟨2, 1, .keep, [.env 1], b_parse_reader_or⟩
def b_ast_CheckTree : ACode :=
  (.seq (.reg [i (.box 1 (e 0))] [(1, l 0), (2, (v (.int .i64 0)))])
  (.seq (.seq (.reg [i (.load true 1 (e 1)), i (.call 109 [(l 0)] false), i (.ext 0 (l 1)), i (.ext 1 (l 1))] [(3, l 3)])
  (.seq (.reg [i (.una .not (e 3))] [(4, l 0)])
  (.cond (e 4) (.seq (.reg [] [(2, (v (.int .i64 180)))])
  .ret) .skip)))
  (.seq (.reg [] [(2, (v (.int .i64 0)))])
  .ret)))
def f_ast_CheckTree : AFunc := ⟨5, 1, .pure, [.env 2], b_ast_CheckTree⟩
def b_slices_ContainsFunc_api_Tree_api_Tree : ACode :=
  (.seq (.reg [] [(2, (v (.bool false)))])
  (.seq (.reg [i (.call 177 [(e 0), (e 1)] false), i (.bin .geq (l 0) (v (.int .i64 0)))] [(2, l 1)])
  .ret))
def f_slices_ContainsFunc_api_Tree_api_Tree : AFunc := ⟨3, 2, .pure, [.env 2], b_slices_ContainsFunc_api_Tree_api_Tree⟩
def b_ast_trees_1 : ACode :=
  (.seq (.reg [i (.box 1 (e 0))] [(1, l 0), (2, (v (.bool false)))])
  (.seq (.reg [i (.load true 1 (e 1)), i (.call 108 [(l 0)] false), i (.bin .neq (l 1) (v (.int .i64 0)))] [(2, l 2)])
  .ret))
def f_ast_trees_1 : AFunc := ⟨3, 1, .pure, [.env 2], b_ast_trees_1⟩
def b_catalog_Find : ACode :=
  (.seq (.reg [i (.box 1 (e 0))] [(2, l 0), (3, (v (.int .i64 0))), (4, (v (.bool false)))])
  (.seq (.reg [i (.fld 0 (e 2)), i (.load false 1 (l 0)), i (.call 57 [(l 1), (v (.fn 43 [] [])), (e 1)] false), i (.ext 0 (l 2)), i (.ext 1 (l 2))] [(3, l 3), (4, l 4)])
  .ret))
def f_catalog_Find : AFunc := ⟨5, 2, .pure, [.env 3, .env 4], b_catalog_Find⟩
def b_bind_called : ACode :=
  (.seq (.reg [i (.box 2 (e 0))] [(1, l 0), (2, (v (.str [])))])
  (.seq (.seq (.reg [i (.fld 1 (e 1)), i (.load false 1 (l 0)), i (.bin .eql (l 1) (v (.str [])))] [(3, l 2)])
  (.cond (e 3) (.seq (.reg [i (.fld 0 (e 1)), i (.load false 1 (l 0))] [(2, l 1)])
  .ret) .skip))
  (.seq (.reg [i (.fld 1 (e 1)), i (.load false 1 (l 0))] [(2, l 1)])
  .ret)))
def f_bind_called : AFunc := ⟨4, 1, .pure, [.env 2], b_bind_called⟩
def b_bind_aggregates : ACode :=
  (.seq (.reg [] [(0, (v (.nilm)))])
  (.seq (.reg [i (.mkmap), i (.mput (l 0) (v (.int .i64 3)) (v (.int .i64 1))), i (.mput (l 0) (v (.int .i64 8)) (v (.int .i64 2))), i (.mput (l 0) (v (.int .i64 9)) (v (.int .i64 3))), i (.mput (l 0) (v (.int .i64 10)) (v (.int .i64 4))), i (.mput (l 0) (v (.int .i64 11)) (v (.int .i64 5)))] [(0, l 0)])
  .ret))
def f_bind_aggregates : AFunc := ⟨1, 0, .pure, [.env 0], b_bind_aggregates⟩
def b_bind_Grouped_1 : ACode :=
  (.seq (.reg [i (.box 2 (e 0))] [(2, l 0), (3, (v (.bool false)))])
  (.seq (.reg [i (.fld 0 (e 2)), i (.fld 0 (l 0)), i (.load false 1 (l 1)), i (.mkfn 194 [] [(e 1)]), i (.call 192 [(l 2), (l 3)] false)] [(3, l 4)])
  .ret))
def f_bind_Grouped_1 : AFunc := ⟨4, 2, .pure, [.env 3], b_bind_Grouped_1⟩
def b_slices_ContainsFunc_api_Node_api_Node : ACode :=
  (.seq (.reg [] [(2, (v (.bool false)))])
  (.seq (.reg [i (.call 193 [(e 0), (e 1)] false), i (.bin .geq (l 0) (v (.int .i64 0)))] [(2, l 1)])
  .ret))
def f_slices_ContainsFunc_api_Node_api_Node : AFunc := ⟨3, 2, .pure, [.env 2], b_slices_ContainsFunc_api_Node_api_Node⟩
def b_bind_Grouped_1_1 : ACode :=
  (.seq (.reg [i (.box 9 (e 0))] [(2, l 0), (3, (v (.bool false)))])
  (.seq (.reg [i (.load false 1 (e 1)), i (.fld 0 (e 2)), i (.load false 1 (l 1)), i (.look (.int .i64 0) false (l 0) (l 2)), i (.bin .gtr (l 3) (v (.int .i64 0)))] [(3, l 4)])
  .ret))
def f_bind_Grouped_1_1 : AFunc := ⟨4, 2, .pure, [.env 3], b_bind_Grouped_1_1⟩
def b_slices_ContainsFunc_api_Item_api_Item : ACode :=
  (.seq (.reg [] [(2, (v (.bool false)))])
  (.seq (.reg [i (.call 190 [(e 0), (e 1)] false), i (.bin .geq (l 0) (v (.int .i64 0)))] [(2, l 1)])
  .ret))
def f_slices_ContainsFunc_api_Item_api_Item : AFunc := ⟨3, 2, .pure, [.env 2], b_slices_ContainsFunc_api_Item_api_Item⟩
def l_expr_made_0 : ACode :=
  (.seq (.reg [i (.bin .lss (e 11) (e 10))] [(12, l 0)])
  (.seq (.cond (e 12) .skip (.exit 0))
  (.seq (.blk 1 (.seq (.reg [i (.idxs 1 (e 9) (e 11)), i (.load true 1 (l 0)), i (.box 1 (v (.agg [.nil0]))), i (.store 1 (l 2) (l 1))] [(5, l 2)])
  (.seq (.reg [i (.load true 1 (e 5)), i (.call 9 [(l 0)] false)] [(6, l 1)])
  (.seq (.reg [i (.bin .neq (e 6) (v (.int .i64 0)))] [(13, l 0)])
  (.cond (e 13) (.seq (.reg [i (.build [.nil0] []), i (.store 1 (e 3) (l 0))] [(4, e 6)])
  .ret) .skip)))))
  (.reg [i (.bin .add (e 11) (v (.int .i64 1)))] [(11, l 0)]))))
def b_expr_made : ACode :=
  (.seq (.reg [i (.box 8 (e 0)), i (.box 1 (v (.agg [.nil0])))] [(2, l 0), (3, l 1), (4, (v (.int .i64 0)))])
  (.seq (.seq (.reg [i (.len (e 1))] [(9, e 1), (10, l 0), (11, (v (.int .i64 0)))])
  (.blk 0 (.loop [4, 5, 6, 12, 13] l_expr_made_0)))
  (.seq (.reg [i (.load true 8 (e 2)), i (.call 118 [(l 0), (e 1)] false), i (.box 1 (v (.agg [.nil0]))), i (.store 1 (l 2) (l 1))] [(7, l 2)])
  (.seq (.seq (.reg [i (.load true 1 (e 7)), i (.call 9 [(l 0)] false)] [(8, l 1)])
  (.seq (.reg [i (.bin .neq (e 8) (v (.int .i64 0)))] [(14, l 0)])
  (.cond (e 14) (.seq (.reg [i (.build [.nil0] []), i (.store 1 (e 3) (l 0))] [(4, e 8)])
  .ret) .skip)))
  (.seq (.reg [i (.load true 1 (e 7)), i (.store 1 (e 3) (l 0))] [(4, (v (.int .i64 0)))])
  .ret)))))
def f_expr_made : AFunc := ⟨15, 2, .pure, [.cell true 1 3, .env 4], b_expr_made⟩
def b_bind_scope_bind_1 : ACode :=
  (.seq (.reg [i (.box 8 (e 0)), i (.box 1 (v (.agg [.nil0])))] [(1, l 0), (2, l 1), (3, (v (.int .i64 0)))])
  (.seq (.reg [i (.load true 8 (e 1)), i (.call 116 [(l 0)] false), i (.ext 0 (l 1)), i (.ext 1 (l 1)), i (.store 1 (e 2) (l 2))] [(3, l 3)])
  .ret))
def f_bind_scope_bind_1 : AFunc := ⟨4, 1, .pure, [.cell true 1 2, .env 3], b_bind_scope_bind_1⟩
def b_bind_scope_bind_2 : ACode :=
  (.seq (.reg [i (.mov (v (.nil0)))] [(2, l 0)])
  (.seq (.seq (.reg [] [(3, e 0)])
  (.cond (e 3) (.seq (.reg [i (.load false 1 (e 1)), i (.nilck (l 0)), i (.fld 23 (l 1)), i (.load false 1 (l 2))] [(2, l 3)])
  .ret) .skip))
  (.seq (.reg [i (.load false 1 (e 1)), i (.nilck (l 0)), i (.fld 22 (l 1)), i (.load false 1 (l 2))] [(2, l 3)])
  .ret)))
def f_bind_scope_bind_2 : AFunc := ⟨4, 2, .pure, [.env 2], b_bind_scope_bind_2⟩
def l_bind_scope_bind_3_0 : ACode :=
  (.seq (.reg [i (.bin .lss (e 29) (v (.int .i64 2)))] [(30, l 0)])
  (.seq (.cond (e 30) .skip (.exit 0))
  (.seq (.blk 1 (.seq (.reg [i (.idxv false 2 1 (e 28) (e 29))] [(15, l 0)])
  (.seq (.seq (.reg [i (.bin .lss (e 15) (v (.int .i64 0)))] [(31, l 0)])
  (.cond (e 31) (.exit 0) .skip))
  (.seq (.reg [i (.load false 1 (e 6)), g (e 1) true (.mov (e 13)), g (e 1) true (.bin .eql (l 1) (v (.int .i64 0))), i (.pick (e 1) (l 2) (v (.bool false))), i (.callv (l 0) [(e 15), (l 3)]), i (.ext 0 (l 4)), i (.ext 1 (l 4)), i (.box 1 (v (.agg [.nil0]))), i (.store 1 (l 7) (l 5))] [(16, l 7), (17, l 6)])
  (.seq (.seq (.reg [i (.bin .neq (e 17) (v (.int .i64 0)))] [(32, l 0)])
  (.cond (e 32) (.seq (.reg [i (.load true 1 (e 16)), i (.store 1 (e 8) (l 0))] [(9, e 17)])
  .ret) .skip))
  (.reg [i (.load true 1 (e 16)), i (.mkl 1 [(l 0)]), i (.app 1 (e 14) (l 1))] [(14, l 2)]))))))
  (.reg [i (.bin .add (e 29) (v (.int .i64 1)))] [(29, l 0)]))))
def b_bind_scope_bind_3 : ACode :=
  (.seq (.reg [i (.box 1 (v (.agg [.nil0])))] [(8, l 0), (9, (v (.int .i64 0)))])
  (.seq (.reg [i (.fld 0 (e 2)), i (.load false 1 (l 0)), i (.idxs 9 (l 1) (e 0)), i (.load true 9 (l 2)), i (.box 9 (v (.agg [.int .i64 0, .int .i64 0, .int .i64 0, .int .i64 0, .int .i64 0, .int .u64 0, .str [], .str [], .str []]))), i (.store 9 (l 4) (l 3))] [(10, l 4)])
  (.seq (.seq (.reg [i (.fld 0 (e 10)), i (.load false 1 (l 0)), i (.bin .eql (l 1) (v (.int .i64 1)))] [(23, l 2)])
  (.cond (e 23) (.seq (.reg [i (.load false 1 (e 3)), i (.fld 3 (e 10)), i (.load true 4 (l 1)), i (.build [.int .i64 0, .int .i64 0, .int .i64 0, .int .i64 0, .int .i64 0, .int .i64 0, .int .u64 0, .str []] [(0, 1, (v (.int .i64 1))), (4, 4, (l 2))]), i (.callv (l 0) [(l 3)]), i (.ext 0 (l 4)), i (.ext 1 (l 4)), i (.store 1 (e 8) (l 5))] [(9, l 6)])
  .ret) .skip))
  (.seq (.seq (.reg [i (.fld 0 (e 10)), i (.load false 1 (l 0)), i (.bin .eql (l 1) (v (.int .i64 2)))] [(24, l 2)])
  (.cond (e 24) (.seq (.reg [i (.load false 1 (e 4)), i (.fld 7 (e 10)), i (.load false 1 (l 1)), i (.fld 8 (e 10)), i (.load false 1 (l 3)), i (.build [.str [], .str []] [(0, 1, (l 2)), (1, 1, (l 4))]), i (.call 114 [(l 0), (l 5)] false), i (.ext 0 (l 6)), i (.ext 1 (l 6))] [(11, l 7), (12, l 8)])
  (.seq (.seq (.reg [i (.bin .eql (e 12) (v (.int .i64 0))), g (l 0) true (.mov (e 1)), i (.pick (l 0) (l 1) (v (.bool false)))] [(25, l 2)])
  (.cond (e 25) (.seq (.reg [i (.load false 1 (e 4)), i (.nilck (l 0)), i (.fld 10 (l 1)), i (.fld 6 (l 2)), i (.load false 1 (l 3)), i (.call 273 [(l 4), (e 11)] false)] [(11, l 5)])
  (.seq (.reg [i (.bin .lss (e 11) (v (.int .i64 0)))] [(26, l 0)])
  (.cond (e 26) (.reg [] [(12, (v (.int .i64 225)))]) .skip))) .skip))
  (.seq (.seq (.reg [i (.bin .neq (e 12) (v (.int .i64 0)))] [(27, l 0)])
  (.cond (e 27) (.seq (.reg [i (.build [.nil0] []), i (.store 1 (e 8) (l 0))] [(9, e 12)])
  .ret) .skip))
  (.seq (.reg [i (.load false 1 (e 3)), i (.build [.int .i64 0, .int .i64 0, .int .i64 0, .int .i64 0, .int .i64 0, .int .i64 0, .int .u64 0, .str []] [(0, 1, (v (.int .i64 2))), (3, 1, (e 11))]), i (.callv (l 0) [(l 1)]), i (.ext 0 (l 2)), i (.ext 1 (l 2)), i (.store 1 (e 8) (l 3))] [(9, l 4)])
  .ret)))) .skip))
  (.seq (.reg [i (.load false 1 (e 5)), i (.fld 0 (e 10)), i (.load false 1 (l 1)), i (.look (.int .i64 0) false (l 0) (l 2))] [(13, l 3)])
  (.seq (.reg [i (.mknil 1)] [(14, l 0)])
  (.seq (.seq (.reg [i (.fld 1 (e 10)), i (.load false 1 (l 0)), i (.fld 2 (e 10)), i (.load false 1 (l 2)), i (.build [.int .i64 0, .int .i64 0] [(0, 1, (l 1)), (1, 1, (l 3))])] [(28, l 4), (29, (v (.int .i64 0)))])
  (.blk 0 (.loop [9, 15, 16, 17, 30, 31, 32] l_bind_scope_bind_3_0)))
  (.seq (.blk 2 (.seq (.reg [i (.bin .gtr (e 13) (v (.int .i64 0))), g (l 0) true (.mov (e 1)), g (l 0) true (.una .not (l 1)), i (.pick (l 0) (l 2) (v (.bool false)))] [(33, l 3)])
  (.cond (e 33) (.seq (.reg [i (.build [.nil0] []), i (.store 1 (e 8) (l 0))] [(9, (v (.int .i64 224)))])
  .ret) (.seq (.reg [i (.bin .gtr (e 13) (v (.int .i64 0)))] [(34, l 0)])
  (.cond (e 34) (.seq (.reg [i (.build [.int .i64 0, .nil0] [(0, 1, (e 13))]), i (.box 2 (v (.agg [.int .i64 0, .nil0]))), i (.store 2 (l 1) (l 0))] [(18, l 1)])
  (.seq (.seq (.reg [i (.len (e 14)), i (.bin .gtr (l 0) (v (.int .i64 0)))] [(35, l 1)])
  (.cond (e 35) (.reg [i (.idxs 1 (e 14) (v (.int .i64 0))), i (.load true 1 (l 0)), i (.fld 1 (e 18)), i (.store 1 (l 2) (l 1))] []) .skip))
  (.seq (.reg [i (.load false 1 (e 4)), i (.load true 2 (e 18)), i (.call 290 [(l 0), (l 1)] false), i (.ext 0 (l 2)), i (.ext 1 (l 2))] [(19, l 3), (20, l 4)])
  (.seq (.seq (.reg [i (.bin .neq (e 20) (v (.int .i64 0)))] [(36, l 0)])
  (.cond (e 36) (.seq (.reg [i (.build [.nil0] []), i (.store 1 (e 8) (l 0))] [(9, e 20)])
  .ret) .skip))
  (.seq (.reg [i (.load false 1 (e 3)), i (.build [.int .i64 0, .int .i64 0, .int .i64 0, .int .i64 0, .int .i64 0, .int .i64 0, .int .u64 0, .str []] [(0, 1, (v (.int .i64 2))), (3, 1, (e 19))]), i (.callv (l 0) [(l 1)]), i (.ext 0 (l 2)), i (.ext 1 (l 2)), i (.store 1 (e 8) (l 3))] [(9, l 4)])
  .ret))))) .skip)))))
  (.seq (.regd [i (.fld 0 (e 10)), i (.load false 1 (l 0)), i (.idxs 1 (e 14) (v (.int .i64 0))), i (.load true 1 (l 2)), i (.call 289 [(l 1), (l 3)] false), i (.ext 0 (l 4)), i (.ext 1 (l 4)), i (.box 1 (v (.agg [.nil0]))), i (.store 1 (l 7) (l 5))] [(21, l 7), (22, l 6)] [(0, 8), (1, 8), (2, 8), (3, 8), (4, 8)])
  (.seq (.seq (.reg [i (.len (e 14)), i (.bin .eql (l 0) (v (.int .i64 2)))] [(37, l 1)])
  (.cond (e 37) (.reg [i (.fld 0 (e 10)), i (.load false 1 (l 0)), i (.idxs 1 (e 14) (v (.int .i64 0))), i (.load true 1 (l 2)), i (.idxs 1 (e 14) (v (.int .i64 1))), i (.load true 1 (l 4)), i (.call 288 [(l 1), (l 3), (l 5)] false), i (.ext 0 (l 6)), i (.ext 1 (l 6)), i (.store 1 (e 21) (l 7))] [(22, l 8)]) .skip))
  (.seq (.seq (.reg [i (.bin .eql (e 22) (v (.int .i64 0)))] [(38, l 0)])
  (.cond (e 38) (.regd [i (.load true 1 (e 21)), i (.load false 1 (e 7)), i (.callv (l 1) [(e 1)]), i (.call 32 [(l 0), (l 2)] false), i (.ext 0 (l 3)), i (.ext 1 (l 3))] [(22, l 5)] [(0, 3)]) .skip))
  (.seq (.reg [i (.load true 1 (e 21)), i (.store 1 (e 8) (l 0))] [(9, e 22)])
  .ret))))))))))))
def f_bind_scope_bind_3 : AFunc := ⟨39, 8, .pure, [.cell true 1 8, .env 9], b_bind_scope_bind_3⟩
def l_expr_firsts_0 : ACode :=
  (.seq (.reg [i (.bin .lss (e 21) (e 20))] [(22, l 0)])
  (.seq (.cond (e 22) .skip (.exit 2))
  (.seq (.blk 3 (.seq (.reg [i (.idxs 1 (e 19) (e 21)), i (.load false 1 (l 0))] [(12, e 21), (13, l 1)])
  (.regd [i (.idxs 1 (e 4) (e 13)), i (.load false 1 (l 0)), i (.mins (e 11) [(l 1)]), i (.idxa 2 1 (e 10) (e 12)), i (.store 1 (l 3) (e 13))] [(11, l 2)] [(0, 5), (1, 5)])))
  (.reg [i (.bin .add (e 21) (v (.int .i64 1)))] [(21, l 0)]))))
def l_expr_firsts_1 : ACode :=
  (.seq (.reg [i (.bin .lss (e 16) (e 15))] [(17, l 0)])
  (.seq (.cond (e 17) .skip (.exit 0))
  (.seq (.blk 1 (.seq (.reg [i (.idxs 8 (e 14) (e 16)), i (.load true 8 (l 0)), i (.box 8 (v (.agg [.int .i64 0, .int .i64 0, .int .i64 0, .int .i64 0, .int .i64 0, .int .i64 0, .int .u64 0, .str []]))), i (.store 8 (l 2) (l 1))] [(7, l 2), (6, e 16)])
  (.seq (.reg [i (.fld 0 (e 7)), i (.load false 1 (l 0)), i (.call 2 [(l 1)] false)] [(8, l 2)])
  (.seq (.seq (.reg [i (.bin .lss (e 8) (v (.int .i64 0))), g (l 0) false (.mov (e 8)), g (l 0) false (.mov (e 5)), g (l 0) false (.len (l 2)), g (l 0) false (.bin .gtr (l 1) (l 3)), i (.pick (l 0) (v (.bool true)) (l 4)), g (l 5) false (.load true 8 (e 7)), g (l 5) false (.call 11 [(l 6)] false), g (l 5) false (.una .not (l 7)), i (.pick (l 5) (v (.bool true)) (l 8))] [(18, l 9)])
  (.cond (e 18) (.seq (.reg [i (.mov (v (.nil0)))] [(2, l 0), (3, (v (.bool false)))])
  .ret) .skip))
  (.seq (.reg [i (.len (e 5)), i (.bin .sub (l 0) (e 8)), i (.slice 1 (e 5) (some (l 1)) none)] [(9, l 2)])
  (.seq (.reg [i (.build [.int .i64 0, .int .i64 0] [(0, 1, (v (.int .i64 (-1)))), (1, 1, (v (.int .i64 (-1))))]), i (.box 2 (v (.agg [.int .i64 0, .int .i64 0]))), i (.store 2 (l 1) (l 0))] [(10, l 1)])
  (.seq (.reg [] [(11, e 6)])
  (.seq (.seq (.reg [i (.len (e 9))] [(19, e 9), (20, l 0), (21, (v (.int .i64 0)))])
  (.blk 2 (.loop [12, 13, 22] l_expr_firsts_0)))
  (.seq (.seq (.reg [i (.load true 2 (e 10)), i (.fld 1 (e 7)), i (.load false 1 (l 1)), i (.fld 2 (e 7)), i (.load false 1 (l 3)), i (.build [.int .i64 0, .int .i64 0] [(0, 1, (l 2)), (1, 1, (l 4))]), i (.eqa true [0, 0] (l 0) (l 5))] [(23, l 6)])
  (.cond (e 23) (.seq (.reg [i (.mov (v (.nil0)))] [(2, l 0), (3, (v (.bool false)))])
  .ret) .skip))
  (.seq (.reg [i (.mkl 1 [(e 11)]), i (.app 1 (e 4) (l 0))] [(4, l 1)])
  (.reg [i (.len (e 5)), i (.bin .sub (l 0) (e 8)), i (.slice 1 (e 5) none (some (l 1))), i (.mkl 1 [(e 6)]), i (.app 1 (l 2) (l 3))] [(5, l 4)])))))))))))
  (.reg [i (.bin .add (e 16) (v (.int .i64 1)))] [(16, l 0)]))))
def b_expr_firsts : ACode :=
  (.seq (.reg [i (.box 1 (e 0)), i (.mov (v (.nil0)))] [(1, l 0), (2, l 1), (3, (v (.bool false)))])
  (.seq (.reg [i (.mknil 1), i (.mknil 1)] [(4, l 0), (5, l 1)])
  (.seq (.seq (.reg [i (.fld 0 (e 1)), i (.load false 1 (l 0)), i (.len (l 1))] [(14, l 1), (15, l 2), (16, (v (.int .i64 0)))])
  (.blk 0 (.loop [2, 3, 6, 7, 8, 9, 10, 11, 12, 13, 17, 18, 19, 20, 21, 22, 23] l_expr_firsts_1)))
  (.seq (.reg [i (.len (e 5)), i (.bin .eql (l 0) (v (.int .i64 1))), g (l 1) true (.mov (e 4)), g (l 1) true (.len (l 2)), g (l 1) true (.bin .leq (l 3) (v (.int .i64 1000))), i (.pick (l 1) (l 4) (v (.bool false)))] [(2, e 4), (3, l 5)])
  .ret))))
def f_expr_firsts : AFunc := ⟨24, 1, .pure, [.env 2, .env 3], b_expr_firsts⟩
def b_slices_Sort_int_int : ACode :=
  (.seq (.reg [i (.len (e 0))] [(1, l 0)])
  (.reg [i (.conv .u64 (e 1)), i (.call 35 [(l 0)] false), i (.call 37 [(e 0), (v (.int .i64 0)), (e 1), (l 1)] false)] []))
def f_slices_Sort_int_int : AFunc := ⟨2, 1, .keep, [], b_slices_Sort_int_int⟩
def l_slices_Compact_int_int_0 : ACode :=
  (.seq (.seq (.reg [i (.len (e 3)), i (.bin .lss (e 4) (l 0))] [(8, l 1)])
  (.cond (e 8) .skip (.exit 2)))
  (.seq (.blk 3 (.seq (.reg [i (.idxs 1 (e 3) (e 4)), i (.load false 1 (l 0)), i (.bin .sub (e 4) (v (.int .i64 1))), i (.idxs 1 (e 3) (l 2)), i (.load false 1 (l 3)), i (.bin .neq (l 1) (l 4))] [(9, l 5)])
  (.cond (e 9) (.seq (.reg [i (.idxs 1 (e 3) (e 4)), i (.load false 1 (l 0)), i (.idxs 1 (e 0) (e 2)), i (.store 1 (l 2) (l 1))] [])
  (.reg [i (.bin .add (e 2) (v (.int .i64 1)))] [(2, l 0)])) .skip)))
  (.reg [i (.bin .add (e 4) (v (.int .i64 1)))] [(4, l 0)])))
def l_slices_Compact_int_int_1 : ACode :=
  (.seq (.seq (.reg [i (.len (e 0)), i (.bin .lss (e 2) (l 0))] [(6, l 1)])
  (.cond (e 6) .skip (.exit 0)))
  (.seq (.blk 1 (.seq (.reg [i (.idxs 1 (e 0) (e 2)), i (.load false 1 (l 0)), i (.bin .sub (e 2) (v (.int .i64 1))), i (.idxs 1 (e 0) (l 2)), i (.load false 1 (l 3)), i (.bin .eql (l 1) (l 4))] [(7, l 5)])
  (.cond (e 7) (.seq (.reg [i (.slice 1 (e 0) (some (e 2)) none)] [(3, l 0)])
  (.seq (.seq (.reg [] [(4, (v (.int .i64 1)))])
  (.blk 2 (.loop [8, 9] l_slices_Compact_int_int_0)))
  (.seq (.reg [i (.slice 1 (e 0) (some (e 2)) none), i (.clr (.int .i64 0) (l 0))] [])
  (.seq (.reg [i (.slice 1 (e 0) none (some (e 2)))] [(1, l 0)])
  .ret)))) .skip)))
  (.reg [i (.bin .add (e 2) (v (.int .i64 1)))] [(2, l 0)])))
def b_slices_Compact_int_int : ACode :=
  (.seq (.reg [i (.mov (v (.nil0)))] [(1, l 0)])
  (.seq (.seq (.reg [i (.len (e 0)), i (.bin .lss (l 0) (v (.int .i64 2)))] [(5, l 1)])
  (.cond (e 5) (.seq (.reg [] [(1, e 0)])
  .ret) .skip))
  (.seq (.seq (.reg [] [(2, (v (.int .i64 1)))])
  (.blk 0 (.loop [1, 3, 4, 6, 7, 8, 9] l_slices_Compact_int_int_1)))
  (.seq (.reg [] [(1, e 0)])
  .ret))))
def f_slices_Compact_int_int : AFunc := ⟨10, 1, .keep, [.env 1], b_slices_Compact_int_int⟩
def b_expr_over_int_1 : ACode :=
  (.seq (.reg [i (.mov (v (.nil0)))] [(2, l 0)])
  (.seq (.reg [i (.load false 1 (e 1)), i (.load false 1 (e 1)), i (.len (l 1)), i (.bin .sub (l 2) (e 0)), i (.slice 1 (l 0) (some (l 3)) none), i (.call 1 [(l 4)] true)] [(3, l 5)])
  (.seq (.reg [i (.load false 1 (e 1)), i (.load false 1 (e 1)), i (.len (l 1)), i (.bin .sub (l 2) (e 0)), i (.slice 1 (l 0) none (some (l 3))), i (.store 1 (e 1) (l 4))] [])
  (.seq (.reg [] [(2, e 3)])
  .ret))))
def f_expr_over_int_1 : AFunc := ⟨4, 2, .keep, [.env 2], b_expr_over_int_1⟩
def b_expr_parts : ACode :=
  (.seq (.reg [] [(1, (v (.int .i64 0)))])
  (.seq (.blk 0 (.seq (.reg [i (.bin .eql (e 0) (v (.int .i64 1))), g (l 0) false (.mov (e 0)), g (l 0) false (.bin .eql (l 1) (v (.int .i64 2))), i (.pick (l 0) (v (.bool true)) (l 2))] [(2, l 3)])
  (.cond (e 2) (.seq (.reg [] [(1, (v (.int .i64 0)))])
  .ret) (.seq (.reg [i (.bin .geq (e 0) (v (.int .i64 4))), g (l 0) true (.mov (e 0)), g (l 0) true (.bin .leq (l 1) (v (.int .i64 7))), i (.pick (l 0) (l 2) (v (.bool false)))] [(3, l 3)])
  (.cond (e 3) (.seq (.reg [] [(1, (v (.int .i64 1)))])
  .ret) (.seq (.reg [i (.bin .geq (e 0) (v (.int .i64 12))), g (l 0) true (.mov (e 0)), g (l 0) true (.bin .leq (l 1) (v (.int .i64 23))), i (.pick (l 0) (l 2) (v (.bool false)))] [(4, l 3)])
  (.cond (e 4) (.seq (.reg [] [(1, (v (.int .i64 2)))])
  .ret) .skip)))))))
  (.seq (.reg [] [(1, (v (.int .i64 (-1))))])
  .ret)))
def f_expr_parts : AFunc := ⟨5, 1, .pure, [.env 1], b_expr_parts⟩
def b_bind_Columns : ACode :=
  (.seq (.reg [i (.box 1 (e 0)), i (.mov (v (.nil0)))] [(2, l 0), (3, l 1), (4, (v (.int .i64 0)))])
  (.seq (.seq (.reg [i (.load true 1 (e 2)), i (.call 63 [(l 0)] false)] [(5, l 1)])
  (.seq (.reg [i (.bin .neq (e 5) (v (.int .i64 0)))] [(6, l 0)])
  (.cond (e 6) (.seq (.reg [i (.mov (v (.nil0)))] [(3, l 0), (4, e 5)])
  .ret) .skip)))
  (.seq (.seq (.reg [i (.mkfn 203 [] [(e 2)]), i (.call 20 [(e 1), (l 0)] false)] [(7, l 1)])
  (.cond (e 7) (.seq (.reg [i (.mov (v (.nil0)))] [(3, l 0), (4, (v (.int .i64 4)))])
  .ret) .skip))
  (.seq (.reg [i (.load true 1 (e 2)), i (.call 204 [(l 0), (e 1)] false)] [(3, l 1), (4, (v (.int .i64 0)))])
  .ret))))
def f_bind_Columns : AFunc := ⟨8, 2, .pure, [.env 3, .env 4], b_bind_Columns⟩
def b_logic_Leaf : ACode :=
  (.seq (.reg [i (.box 12 (e 0)), i (.box 1 (v (.agg [.nil0])))] [(1, l 0), (2, l 1), (3, (v (.int .i64 0)))])
  (.seq (.reg [i (.load true 12 (e 1)), i (.call 80 [(l 0), (v (.nil0))] false), i (.ext 0 (l 1)), i (.ext 1 (l 1)), i (.store 1 (e 2) (l 2))] [(3, l 3)])
  .ret))
def f_logic_Leaf : AFunc := ⟨4, 1, .pure, [.cell true 1 2, .env 3], b_logic_Leaf⟩
def b_logic_checker_scan_1 : ACode :=
  (.seq (.reg [] [(1, (v (.bool false)))])
  (.seq (.reg [i (.call 31 [(e 0)] false), i (.una .not (l 0))] [(1, l 1)])
  .ret))
def f_logic_checker_scan_1 : AFunc := ⟨2, 1, .pure, [.env 1], b_logic_checker_scan_1⟩
def b_logic_plain : ACode :=
  (.seq (.reg [] [(1, (v (.bool false)))])
  (.seq (.reg [i (.bin .eql (e 0) (v (.int .i64 1))), g (l 0) false (.mov (e 0)), g (l 0) false (.bin .eql (l 1) (v (.int .i64 2))), i (.pick (l 0) (v (.bool true)) (l 2)), g (l 3) false (.mov (e 0)), g (l 3) false (.bin .eql (l 4) (v (.int .i64 3))), i (.pick (l 3) (v (.bool true)) (l 5))] [(1, l 6)])
  .ret))
def f_logic_plain : AFunc := ⟨2, 1, .pure, [.env 1], b_logic_plain⟩
def b_slices_ContainsFunc_int_int : ACode :=
  (.seq (.reg [] [(2, (v (.bool false)))])
  (.seq (.reg [i (.call 21 [(e 0), (e 1)] false), i (.bin .geq (l 0) (v (.int .i64 0)))] [(2, l 1)])
  .ret))
def f_slices_ContainsFunc_int_int : AFunc := ⟨3, 2, .pure, [.env 2], b_slices_ContainsFunc_int_int⟩
def b_slices_ContainsFunc_api_Ord_api_Ord : ACode :=
  (.seq (.reg [] [(2, (v (.bool false)))])
  (.seq (.reg [i (.call 54 [(e 0), (e 1)] false), i (.bin .geq (l 0) (v (.int .i64 0)))] [(2, l 1)])
  .ret))
def f_slices_ContainsFunc_api_Ord_api_Ord : AFunc := ⟨3, 2, .pure, [.env 2], b_slices_ContainsFunc_api_Ord_api_Ord⟩
def b_logic_parts : ACode :=
  (.seq (.reg [] [(1, (v (.int .i64 0)))])
  (.seq (.seq (.reg [] [(2, e 0)])
  (.blk 0 (.seq (.reg [i (.bin .eql (e 2) (v (.int .i64 1)))] [(3, l 0)])
  (.cond (e 3) (.seq (.reg [] [(1, (v (.int .i64 0)))])
  .ret) (.seq (.seq (.reg [i (.bin .eql (e 2) (v (.int .i64 2)))] [(4, l 0)])
  (.cond (e 4) .skip (.reg [i (.bin .eql (e 2) (v (.int .i64 7)))] [(4, l 0)])))
  (.cond (e 4) (.seq (.reg [] [(1, (v (.int .i64 2)))])
  .ret) .skip))))))
  (.seq (.reg [] [(1, (v (.int .i64 1)))])
  .ret)))
def f_logic_parts : AFunc := ⟨5, 1, .pure, [.env 1], b_logic_parts⟩
def b_lex_run : ACode :=
  (.seq (.reg [] [(1, (v (.int .i64 0)))])
  (.seq (.seq (.reg [i (.call 83 [(e 0), (v (.fn 47 [] []))] false)] [(2, l 0)])
  (.seq (.reg [i (.bin .geq (e 2) (v (.int .i64 0)))] [(3, l 0)])
  (.cond (e 3) (.seq (.reg [] [(1, e 2)])
  .ret) .skip)))
  (.seq (.reg [i (.lent (e 0))] [(1, l 0)])
  .ret)))
def f_lex_run : AFunc := ⟨4, 1, .pure, [.env 1], b_lex_run⟩
def l_lex_number_0 : ACode :=
  (.seq (.reg [i (.nexts (e 6)), i (.ext 0 (l 0))] [(7, l 0), (8, l 1)])
  (.seq (.cond (e 8) .skip (.exit 0))
  (.blk 1 (.seq (.reg [i (.ext 2 (e 7))] [(3, l 0)])
  (.seq (.reg [i (.call 12 [(e 3)] false), i (.una .not (l 0))] [(9, l 1)])
  (.cond (e 9) (.seq (.reg [] [(1, (v (.int .u64 0))), (2, (v (.bool false)))])
  .ret) .skip))))))
def b_lex_number : ACode :=
  (.seq (.reg [] [(1, (v (.int .u64 0))), (2, (v (.bool false)))])
  (.seq (.seq (.reg [i (.rngs (e 0))] [(6, l 0)])
  (.blk 0 (.loop [1, 2, 3, 7, 8, 9] l_lex_number_0)))
  (.seq (.reg [i (.call 291 [(e 0), (v (.int .i64 10)), (v (.int .i64 63))] false), i (.ext 0 (l 0)), i (.ext 1 (l 0))] [(4, l 1), (5, l 2)])
  (.seq (.reg [i (.bad), g (l 0) true (.mov (e 0)), g (l 0) true (.lent (l 1)), g (l 0) true (.bin .eql (l 2) (v (.int .i64 1))), g (l 0) true (.mov (l 3)), g (l 4) false (.mov (e 0)), g (l 4) false (.idxt (l 5) (v (.int .i64 0))), g (l 4) false (.bin .neq (l 6) (v (.int .u8 48))), g (l 0) true (.pick (l 4) (v (.bool true)) (l 7)), i (.pick (l 0) (l 8) (v (.bool false)))] [(1, e 4), (2, l 9)])
  .ret))))
def f_lex_number : AFunc := ⟨10, 1, .pure, [.env 1, .env 2], b_lex_number⟩
def l_parse_reader_chain_0 : ACode :=
  (.blk 1 (.seq (.seq (.reg [i (.call 13 [(e 0), (e 1), (v (.nil0))] false), i (.una .not (l 0))] [(8, l 1)])
  (.cond (e 8) (.seq (.reg [] [(4, e 5)])
  .ret) .skip))
  (.seq (.reg [i (.nilck (e 0)), i (.fld 0 (l 0)), i (.load false 1 (l 1)), i (.idxs 4 (l 2) (v (.int .i64 0))), i (.fld 2 (l 3)), i (.load false 1 (l 4)), i (.lookk [] (.int .i64 0) true (e 2) (l 5)), i (.ext 0 (l 6)), i (.ext 1 (l 6))] [(6, l 7), (7, l 8)])
  (.seq (.seq (.reg [i (.una .not (e 7))] [(9, l 0)])
  (.cond (e 9) (.seq (.reg [] [(4, e 5)])
  .ret) .skip))
  (.seq (.reg [i (.call 88 [(e 0)] false)] [])
  (.reg [i (.callv (e 3) []), i (.mkl 1 [(e 5), (l 0)]), i (.call 292 [(e 6), (l 1)] false)] [(5, l 2)]))))))
def b_parse_reader_chain : ACode :=
  (.seq (.reg [i (.mov (v (.nil0)))] [(4, l 0)])
  (.seq (.reg [i (.callv (e 3) [])] [(5, l 0)])
  (.blk 0 (.loop [4, 6, 7, 8, 9] l_parse_reader_chain_0))))
def f_parse_reader_chain : AFunc := ⟨10, 4, .keep, [.env 4], b_parse_reader_chain⟩
def b_parse_reader_and : ACode :=
  (.seq (.reg [i (.mov (v (.nil0)))] [(1, l 0)])
  (.seq (.reg [i (.mkmap), i (.mputk [] (l 0) (v (.str [65, 78, 68])) (v (.int .i64 22))), i (.mkfn 158 [(e 0)] []), i (.call 89 [(e 0), (v (.int .i64 1)), (l 0), (l 2)] false)] [(1, l 3)])
  .ret))
def f_parse_reader_and : AFunc := ⟨2, 1, .keep, [.env 1], b_parse_reader_and⟩
def l_ast_grown_0 : ACode :=
  (.seq (.reg [i (.bin .lss (e 21) (e 20))] [(22, l 0)])
  (.seq (.cond (e 22) .skip (.exit 2))
  (.seq (.blk 3 (.seq (.reg [i (.idxs 1 (e 19) (e 21)), i (.load false 1 (l 0))] [(12, l 1)])
  (.regd [i (.fld 0 (e 11)), i (.load false 1 (l 0)), i (.idxs 2 (e 4) (e 12)), i (.fld 0 (l 2)), i (.load false 1 (l 3)), i (.mins (l 1) [(l 4)]), i (.fld 1 (e 11)), i (.load false 1 (l 6)), i (.idxs 2 (e 4) (e 12)), i (.fld 1 (l 8)), i (.load false 1 (l 9)), i (.bin .add (l 10) (v (.int .i64 1))), i (.maxs (l 7) [(l 11)]), i (.fld 0 (e 11)), i (.store 1 (l 13) (l 5)), i (.fld 1 (e 11)), i (.store 1 (l 15) (l 12))] [] [(8, 15), (9, 15), (10, 15)])))
  (.reg [i (.bin .add (e 21) (v (.int .i64 1)))] [(21, l 0)]))))
def l_ast_grown_1 : ACode :=
  (.seq (.reg [i (.bin .lss (e 15) (e 14))] [(16, l 0)])
  (.seq (.cond (e 16) .skip (.exit 0))
  (.seq (.blk 1 (.seq (.reg [i (.idxs 9 (e 13) (e 15)), i (.load true 9 (l 0)), i (.box 9 (v (.agg [.int .i64 0, .int .i64 0, .int .i64 0, .int .i64 0, .int .i64 0, .int .u64 0, .str [], .str [], .str []]))), i (.store 9 (l 2) (l 1))] [(7, l 2), (6, e 15)])
  (.seq (.reg [i (.fld 0 (e 7)), i (.load false 1 (l 0)), i (.call 110 [(l 1)] false)] [(8, l 2)])
  (.seq (.seq (.reg [i (.bin .lss (e 8) (v (.int .i64 0))), g (l 0) false (.mov (e 8)), g (l 0) false (.mov (e 5)), g (l 0) false (.len (l 2)), g (l 0) false (.bin .gtr (l 1) (l 3)), i (.pick (l 0) (v (.bool true)) (l 4)), g (l 5) false (.load true 9 (e 7)), g (l 5) false (.call 111 [(l 6)] false), g (l 5) false (.una .not (l 7)), i (.pick (l 5) (v (.bool true)) (l 8))] [(17, l 9)])
  (.cond (e 17) (.seq (.reg [i (.mov (v (.nil0)))] [(2, l 0), (3, (v (.bool false)))])
  .ret) .skip))
  (.seq (.reg [i (.len (e 5)), i (.bin .sub (l 0) (e 8)), i (.slice 1 (e 5) (some (l 1)) none)] [(9, l 2)])
  (.seq (.reg [i (.mksl 1 [(v (.int .i64 (-1))), (v (.int .i64 (-1)))])] [(10, l 0)])
  (.seq (.reg [i (.copy 1 (e 10) (e 9))] [])
  (.seq (.seq (.reg [i (.fld 1 (e 7)), i (.load false 1 (l 0)), i (.idxs 1 (e 10) (v (.int .i64 0))), i (.load false 1 (l 2)), i (.bin .neq (l 1) (l 3)), g (l 4) false (.fld 2 (e 7)), g (l 4) false (.load false 1 (l 5)), g (l 4) false (.mov (e 10)), g (l 4) false (.idxs 1 (l 7) (v (.int .i64 1))), g (l 4) false (.load false 1 (l 8)), g (l 4) false (.bin .neq (l 6) (l 9)), i (.pick (l 4) (v (.bool true)) (l 10))] [(18, l 11)])
  (.cond (e 18) (.seq (.reg [i (.mov (v (.nil0)))] [(2, l 0), (3, (v (.bool false)))])
  .ret) .skip))
  (.seq (.reg [i (.build [.int .i64 0, .int .i64 0] [(0, 1, (e 6)), (1, 1, (v (.int .i64 1)))]), i (.box 2 (v (.agg [.int .i64 0, .int .i64 0]))), i (.store 2 (l 1) (l 0))] [(11, l 1)])
  (.seq (.seq (.reg [i (.len (e 9))] [(19, e 9), (20, l 0), (21, (v (.int .i64 0)))])
  (.blk 2 (.loop [12, 22] l_ast_grown_0)))
  (.seq (.reg [i (.load true 2 (e 11)), i (.mkl 2 [(l 0)]), i (.app 2 (e 4) (l 1))] [(4, l 2)])
  (.reg [i (.len (e 5)), i (.bin .sub (l 0) (e 8)), i (.slice 1 (e 5) none (some (l 1))), i (.mkl 1 [(e 6)]), i (.app 1 (l 2) (l 3))] [(5, l 4)]))))))))))))
  (.reg [i (.bin .add (e 15) (v (.int .i64 1)))] [(15, l 0)]))))
def b_ast_grown : ACode :=
  (.seq (.reg [i (.box 1 (e 0)), i (.mov (v (.nil0)))] [(1, l 0), (2, l 1), (3, (v (.bool false)))])
  (.seq (.reg [i (.mknil 2)] [(4, l 0)])
  (.seq (.reg [i (.mknil 1)] [(5, l 0)])
  (.seq (.seq (.reg [i (.fld 0 (e 1)), i (.load false 1 (l 0)), i (.len (l 1))] [(13, l 1), (14, l 2), (15, (v (.int .i64 0)))])
  (.blk 0 (.loop [2, 3, 6, 7, 8, 9, 10, 11, 12, 16, 17, 18, 19, 20, 21, 22] l_ast_grown_1)))
  (.seq (.reg [i (.len (e 5)), i (.bin .eql (l 0) (v (.int .i64 1))), g (l 1) true (.mov (e 4)), g (l 1) true (.len (l 2)), g (l 1) true (.bin .leq (l 3) (v (.int .i64 300))), i (.pick (l 1) (l 4) (v (.bool false))), g (l 5) true (.mov (e 4)), g (l 5) true (.mov (e 4)), g (l 5) true (.len (l 7)), g (l 5) true (.bin .sub (l 8) (v (.int .i64 1))), g (l 5) true (.idxs 2 (l 6) (l 9)), g (l 5) true (.fld 1 (l 10)), g (l 5) true (.load false 1 (l 11)), g (l 5) true (.bin .leq (l 12) (v (.int .i64 20))), i (.pick (l 5) (l 13) (v (.bool false)))] [(2, e 4), (3, l 14)])
  .ret)))))
def f_ast_grown : AFunc := ⟨23, 1, .pure, [.env 2, .env 3], b_ast_grown⟩
def l_slices_IndexFunc_api_Tree_api_Tree_0 : ACode :=
  (.seq (.reg [i (.bin .lss (e 5) (e 4))] [(6, l 0)])
  (.seq (.cond (e 6) .skip (.exit 0))
  (.seq (.blk 1 (.seq (.reg [] [(3, e 5)])
  (.seq (.reg [i (.idxs 1 (e 0) (e 3)), i (.load true 1 (l 0)), i (.callv (e 1) [(l 1)])] [(7, l 2)])
  (.cond (e 7) (.seq (.reg [] [(2, e 3)])
  .ret) .skip))))
  (.reg [i (.bin .add (e 5) (v (.int .i64 1)))] [(5, l 0)]))))
def b_slices_IndexFunc_api_Tree_api_Tree : ACode :=
  (.seq (.reg [] [(2, (v (.int .i64 0)))])
  (.seq (.seq (.reg [i (.len (e 0))] [(4, l 0), (5, (v (.int .i64 0)))])
  (.blk 0 (.loop [2, 3, 6, 7] l_slices_IndexFunc_api_Tree_api_Tree_0)))
  (.seq (.reg [] [(2, (v (.int .i64 (-1))))])
  .ret)))
def f_slices_IndexFunc_api_Tree_api_Tree : AFunc := ⟨8, 2, .pure, [.env 2], b_slices_IndexFunc_api_Tree_api_Tree⟩
def l_slices_IndexFunc_api_Node_api_Node_0 : ACode :=
  (.seq (.reg [i (.bin .lss (e 5) (e 4))] [(6, l 0)])
  (.seq (.cond (e 6) .skip (.exit 0))
  (.seq (.blk 1 (.seq (.reg [] [(3, e 5)])
  (.seq (.reg [i (.idxs 9 (e 0) (e 3)), i (.load true 9 (l 0)), i (.callv (e 1) [(l 1)])] [(7, l 2)])
  (.cond (e 7) (.seq (.reg [] [(2, e 3)])
  .ret) .skip))))
  (.reg [i (.bin .add (e 5) (v (.int .i64 1)))] [(5, l 0)]))))
def b_slices_IndexFunc_api_Node_api_Node : ACode :=
  (.seq (.reg [] [(2, (v (.int .i64 0)))])
  (.seq (.seq (.reg [i (.len (e 0))] [(4, l 0), (5, (v (.int .i64 0)))])
  (.blk 0 (.loop [2, 3, 6, 7] l_slices_IndexFunc_api_Node_api_Node_0)))
  (.seq (.reg [] [(2, (v (.int .i64 (-1))))])
  .ret)))
def f_slices_IndexFunc_api_Node_api_Node : AFunc := ⟨8, 2, .pure, [.env 2], b_slices_IndexFunc_api_Node_api_Node⟩
def l_slices_IndexFunc_api_Item_api_Item_0 : ACode :=
  (.seq (.reg [i (.bin .lss (e 5) (e 4))] [(6, l 0)])
  (.seq (.cond (e 6) .skip (.exit 0))
  (.seq (.blk 1 (.seq (.reg [] [(3, e 5)])
  (.seq (.reg [i (.idxs 2 (e 0) (e 3)), i (.load true 2 (l 0)), i (.callv (e 1) [(l 1)])] [(7, l 2)])
  (.cond (e 7) (.seq (.reg [] [(2, e 3)])
  .ret) .skip))))
  (.reg [i (.bin .add (e 5) (v (.int .i64 1)))] [(5, l 0)]))))
def b_slices_IndexFunc_api_Item_api_Item : ACode :=
  (.seq (.reg [] [(2, (v (.int .i64 0)))])
  (.seq (.seq (.reg [i (.len (e 0))] [(4, l 0), (5, (v (.int .i64 0)))])
  (.blk 0 (.loop [2, 3, 6, 7] l_slices_IndexFunc_api_Item_api_Item_0)))
  (.seq (.reg [] [(2, (v (.int .i64 (-1))))])
  .ret)))
def f_slices_IndexFunc_api_Item_api_Item : AFunc := ⟨8, 2, .pure, [.env 2], b_slices_IndexFunc_api_Item_api_Item⟩
def l_expr_joined_0 : ACode :=
  (.seq (.reg [i (.bin .lss (e 10) (e 9))] [(11, l 0)])
  (.seq (.cond (e 11) .skip (.exit 0))
  (.seq (.blk 1 (.seq (.reg [i (.idxs 1 (e 8) (e 10)), i (.load true 1 (l 0)), i (.box 1 (v (.agg [.nil0]))), i (.store 1 (l 2) (l 1))] [(7, l 2), (6, e 10)])
  (.seq (.reg [i (.load true 1 (e 7)), i (.call 293 [(e 4), (l 0)] false)] [(4, l 1)])
  (.reg [i (.len (e 4)), i (.bin .sub (l 0) (v (.int .i64 1))), i (.idxa 2 1 (e 5) (e 6)), i (.store 1 (l 2) (l 1))] []))))
  (.reg [i (.bin .add (e 10) (v (.int .i64 1)))] [(10, l 0)]))))
def b_expr_joined : ACode :=
  (.seq (.reg [i (.box 8 (e 0)), i (.box 1 (v (.agg [.nil0])))] [(2, l 0), (3, l 1)])
  (.seq (.reg [i (.mknil 8)] [(4, l 0)])
  (.seq (.reg [i (.build [.int .i64 0, .int .i64 0] [(0, 1, (v (.int .i64 (-1)))), (1, 1, (v (.int .i64 (-1))))]), i (.box 2 (v (.agg [.int .i64 0, .int .i64 0]))), i (.store 2 (l 1) (l 0))] [(5, l 1)])
  (.seq (.seq (.reg [i (.len (e 1))] [(8, e 1), (9, l 0), (10, (v (.int .i64 0)))])
  (.blk 0 (.loop [6, 7, 11] l_expr_joined_0)))
  (.seq (.regd [i (.idxa 2 1 (e 5) (v (.int .i64 0))), i (.load false 1 (l 0)), i (.idxa 2 1 (e 5) (v (.int .i64 1))), i (.load false 1 (l 2)), i (.fld 1 (e 2)), i (.store 1 (l 4) (l 1)), i (.fld 2 (e 2)), i (.store 1 (l 6) (l 3))] [] [(2, 6), (3, 6)])
  (.seq (.reg [i (.load true 8 (e 2)), i (.mkl 8 [(l 0)]), i (.app 8 (e 4) (l 1)), i (.build [.nil0] [(0, 1, (l 2))]), i (.store 1 (e 3) (l 3))] [])
  .ret))))))
def f_expr_joined : AFunc := ⟨12, 2, .pure, [.cell true 1 3], b_expr_joined⟩
def b_expr_counts : ACode :=
  (.seq (.reg [i (.box 8 (e 0))] [(1, l 0), (2, (v (.bool false)))])
  (.seq (.seq (.reg [i (.fld 0 (e 1)), i (.load false 1 (l 0))] [(3, l 1)])
  (.blk 0 (.seq (.reg [i (.bin .eql (e 3) (v (.int .i64 1)))] [(4, l 0)])
  (.cond (e 4) (.seq (.reg [i (.fld 4 (e 1)), i (.load true 4 (l 0)), i (.call 294 [(l 1)] false), g (l 2) true (.fld 3 (e 1)), g (l 2) true (.load false 1 (l 3)), g (l 2) true (.bin .eql (l 4) (v (.int .i64 0))), i (.pick (l 2) (l 5) (v (.bool false)))] [(2, l 6)])
  .ret) (.seq (.reg [i (.bin .eql (e 3) (v (.int .i64 2)))] [(5, l 0)])
  (.cond (e 5) (.seq (.reg [i (.fld 4 (e 1)), i (.load true 4 (l 0)), i (.build [.int .i64 0, .int .i64 0, .int .u64 0, .str []] []), i (.eqa false [0, 0, 0, 2] (l 1) (l 2)), g (l 3) true (.fld 3 (e 1)), g (l 3) true (.load false 1 (l 4)), g (l 3) true (.bin .geq (l 5) (v (.int .i64 0))), i (.pick (l 3) (l 6) (v (.bool false))), g (l 7) true (.fld 3 (e 1)), g (l 7) true (.load false 1 (l 8)), g (l 7) true (.bin .lss (l 9) (v (.int .i64 16))), i (.pick (l 7) (l 10) (v (.bool false)))] [(2, l 11)])
  .ret) .skip))))))
  (.seq (.reg [i (.fld 4 (e 1)), i (.load true 4 (l 0)), i (.build [.int .i64 0, .int .i64 0, .int .u64 0, .str []] []), i (.eqa false [0, 0, 0, 2] (l 1) (l 2)), g (l 3) true (.fld 3 (e 1)), g (l 3) true (.load false 1 (l 4)), g (l 3) true (.bin .eql (l 5) (v (.int .i64 0))), i (.pick (l 3) (l 6) (v (.bool false)))] [(2, l 7)])
  .ret)))
def f_expr_counts : AFunc := ⟨6, 1, .pure, [.env 2], b_expr_counts⟩
def l_slices_pdqsortOrdered_int_0 : ACode :=
  (.blk 1 (.seq (.reg [i (.bin .sub (e 2) (e 1))] [(6, l 0)])
  (.seq (.seq (.reg [i (.bin .leq (e 6) (v (.int .i64 12)))] [(15, l 0)])
  (.cond (e 15) (.seq (.reg [i (.call 38 [(e 0), (e 1), (e 2)] false)] [])
  .ret) .skip))
  (.seq (.seq (.reg [i (.bin .eql (e 3) (v (.int .i64 0)))] [(16, l 0)])
  (.cond (e 16) (.seq (.reg [i (.call 302 [(e 0), (e 1), (e 2)] false)] [])
  .ret) .skip))
  (.seq (.seq (.reg [i (.una .not (e 4))] [(17, l 0)])
  (.cond (e 17) (.seq (.reg [i (.call 301 [(e 0), (e 1), (e 2)] false)] [])
  (.reg [i (.bin .sub (e 3) (v (.int .i64 1)))] [(3, l 0)])) .skip))
  (.seq (.reg [i (.call 300 [(e 0), (e 1), (e 2)] false), i (.ext 0 (l 0)), i (.ext 1 (l 0))] [(7, l 1), (8, l 2)])
  (.seq (.seq (.reg [i (.bin .eql (e 8) (v (.int .i64 2)))] [(18, l 0)])
  (.cond (e 18) (.seq (.reg [i (.call 299 [(e 0), (e 1), (e 2)] false)] [])
  (.seq (.reg [i (.bin .sub (e 2) (v (.int .i64 1))), i (.bin .sub (e 7) (e 1)), i (.bin .sub (l 0) (l 1))] [(7, l 2)])
  (.reg [] [(8, (v (.int .i64 1)))]))) .skip))
  (.seq (.seq (.reg [g (e 4) true (.mov (e 5)), i (.pick (e 4) (l 0) (v (.bool false))), g (l 1) true (.mov (e 8)), g (l 1) true (.bin .eql (l 2) (v (.int .i64 1))), i (.pick (l 1) (l 3) (v (.bool false)))] [(19, l 4)])
  (.cond (e 19) (.seq (.reg [i (.call 298 [(e 0), (e 1), (e 2)] false)] [(20, l 0)])
  (.cond (e 20) .ret .skip)) .skip))
  (.seq (.seq (.reg [i (.bin .gtr (e 1) (v (.int .i64 0))), g (l 0) true (.mov (e 0)), g (l 0) true (.mov (e 1)), g (l 0) true (.bin .sub (l 2) (v (.int .i64 1))), g (l 0) true (.idxs 1 (l 1) (l 3)), g (l 0) true (.load false 1 (l 4)), g (l 0) true (.mov (e 0)), g (l 0) true (.mov (e 7)), g (l 0) true (.idxs 1 (l 6) (l 7)), g (l 0) true (.load false 1 (l 8)), g (l 0) true (.call 297 [(l 5), (l 9)] false), g (l 0) true (.una .not (l 10)), i (.pick (l 0) (l 11) (v (.bool false)))] [(21, l 12)])
  (.cond (e 21) (.seq (.reg [i (.call 296 [(e 0), (e 1), (e 2), (e 7)] false)] [(9, l 0)])
  (.seq (.reg [] [(1, e 9)])
  (.exit 1))) .skip))
  (.seq (.reg [i (.call 295 [(e 0), (e 1), (e 2), (e 7)] false), i (.ext 0 (l 0)), i (.ext 1 (l 0))] [(10, l 1), (11, l 2)])
  (.seq (.reg [] [(5, e 11)])
  (.seq (.reg [i (.bin .sub (e 10) (e 1)), i (.bin .sub (e 2) (e 10))] [(12, l 0), (13, l 1)])
  (.seq (.reg [i (.bin .quo (e 6) (v (.int .i64 8)))] [(14, l 0)])
  (.seq (.reg [i (.bin .lss (e 12) (e 13))] [(22, l 0)])
  (.cond (e 22) (.seq (.reg [i (.bin .geq (e 12) (e 14))] [(4, l 0)])
  (.seq (.reg [i (.call 37 [(e 0), (e 1), (e 10), (e 3)] false)] [])
  (.reg [i (.bin .add (e 10) (v (.int .i64 1)))] [(1, l 0)]))) (.seq (.reg [i (.bin .geq (e 13) (e 14))] [(4, l 0)])
  (.seq (.reg [i (.bin .add (e 10) (v (.int .i64 1))), i (.call 37 [(e 0), (l 0), (e 2), (e 3)] false)] [])
  (.reg [] [(2, e 10)]))))))))))))))))))
def b_slices_pdqsortOrdered_int : ACode :=
  (.seq (.reg [] [(4, (v (.bool true)))])
  (.seq (.reg [] [(5, (v (.bool true)))])
  (.blk 0 (.loop [6, 7, 8, 9, 10, 11, 12, 13, 14, 15, 16, 17, 18, 19, 20, 21, 22] l_slices_pdqsortOrdered_int_0))))
def f_slices_pdqsortOrdered_int : AFunc := ⟨23, 4, .keep, [], b_slices_pdqsortOrdered_int⟩
def b_math_bits_Len : ACode :=
  (.seq (.reg [] [(1, (v (.int .i64 0)))])
  (.seq (.cond (v (.bool false)) (.seq (.reg [i (.conv .u32 (e 0)), i (.call 303 [(l 0)] false)] [(1, l 1)])
  .ret) .skip)
  (.seq (.reg [i (.call 36 [(e 0)] false)] [(1, l 0)])
  .ret)))
def f_math_bits_Len : AFunc := ⟨2, 1, .pure, [.env 1], b_math_bits_Len⟩
def b_bind_Columns_1 : ACode :=
  (.seq (.reg [] [(2, (v (.bool false)))])
  (.seq (.reg [i (.bin .lss (e 0) (v (.int .i64 0))), g (l 0) false (.mov (e 0)), g (l 0) false (.fld 0 (e 1)), g (l 0) false (.load false 1 (l 2)), g (l 0) false (.len (l 3)), g (l 0) false (.bin .geq (l 1) (l 4)), i (.pick (l 0) (v (.bool true)) (l 5))] [(2, l 6)])
  .ret))
def f_bind_Columns_1 : AFunc := ⟨3, 2, .pure, [.env 2], b_bind_Columns_1⟩
def l_bind_kinds_0 : ACode :=
  (.seq (.reg [i (.bin .lss (e 13) (e 12))] [(14, l 0)])
  (.seq (.cond (e 14) .skip (.exit 2))
  (.seq (.blk 3 (.seq (.reg [i (.idxs 2 (e 11) (e 13)), i (.load true 2 (l 0)), i (.box 2 (v (.agg [.str [], .int .i64 0]))), i (.store 2 (l 2) (l 1))] [(6, l 2)])
  (.reg [i (.fld 1 (e 6)), i (.load false 1 (l 0)), i (.mkl 1 [(l 1)]), i (.app 1 (e 4) (l 2))] [(4, l 3)])))
  (.reg [i (.bin .add (e 13) (v (.int .i64 1)))] [(13, l 0)]))))
def l_bind_kinds_1 : ACode :=
  (.seq (.reg [i (.bin .lss (e 9) (e 8))] [(10, l 0)])
  (.seq (.cond (e 10) .skip (.exit 0))
  (.seq (.blk 1 (.seq (.reg [i (.idxs 1 (e 7) (e 9)), i (.load false 1 (l 0))] [(5, l 1)])
  (.seq (.reg [i (.fld 0 (e 2)), i (.load false 1 (l 0)), i (.idxs 3 (l 1) (e 5)), i (.fld 1 (l 2)), i (.load false 1 (l 3)), i (.len (l 4))] [(11, l 4), (12, l 5), (13, (v (.int .i64 0)))])
  (.blk 2 (.loop [6, 14] l_bind_kinds_0)))))
  (.reg [i (.bin .add (e 9) (v (.int .i64 1)))] [(9, l 0)]))))
def b_bind_kinds : ACode :=
  (.seq (.reg [i (.box 1 (e 0)), i (.mov (v (.nil0)))] [(2, l 0), (3, l 1)])
  (.seq (.reg [i (.mknil 1)] [(4, l 0)])
  (.seq (.seq (.reg [i (.len (e 1))] [(7, e 1), (8, l 0), (9, (v (.int .i64 0)))])
  (.blk 0 (.loop [5, 6, 10, 11, 12, 13, 14] l_bind_kinds_1)))
  (.seq (.reg [] [(3, e 4)])
  .ret))))
def f_bind_kinds : AFunc := ⟨15, 2, .pure, [.env 3], b_bind_kinds⟩
def l_slices_IndexFunc_int_int_0 : ACode :=
  (.seq (.reg [i (.bin .lss (e 5) (e 4))] [(6, l 0)])
  (.seq (.cond (e 6) .skip (.exit 0))
  (.seq (.blk 1 (.seq (.reg [] [(3, e 5)])
  (.seq (.reg [i (.idxs 1 (e 0) (e 3)), i (.load false 1 (l 0)), i (.callv (e 1) [(l 1)])] [(7, l 2)])
  (.cond (e 7) (.seq (.reg [] [(2, e 3)])
  .ret) .skip))))
  (.reg [i (.bin .add (e 5) (v (.int .i64 1)))] [(5, l 0)]))))
def b_slices_IndexFunc_int_int : ACode :=
  (.seq (.reg [] [(2, (v (.int .i64 0)))])
  (.seq (.seq (.reg [i (.len (e 0))] [(4, l 0), (5, (v (.int .i64 0)))])
  (.blk 0 (.loop [2, 3, 6, 7] l_slices_IndexFunc_int_int_0)))
  (.seq (.reg [] [(2, (v (.int .i64 (-1))))])
  .ret)))
def f_slices_IndexFunc_int_int : AFunc := ⟨8, 2, .pure, [.env 2], b_slices_IndexFunc_int_int⟩
def l_slices_IndexFunc_api_Ord_api_Ord_0 : ACode :=
  (.seq (.reg [i (.bin .lss (e 5) (e 4))] [(6, l 0)])
  (.seq (.cond (e 6) .skip (.exit 0))
  (.seq (.blk 1 (.seq (.reg [] [(3, e 5)])
  (.seq (.reg [i (.idxs 2 (e 0) (e 3)), i (.load true 2 (l 0)), i (.callv (e 1) [(l 1)])] [(7, l 2)])
  (.cond (e 7) (.seq (.reg [] [(2, e 3)])
  .ret) .skip))))
  (.reg [i (.bin .add (e 5) (v (.int .i64 1)))] [(5, l 0)]))))
def b_slices_IndexFunc_api_Ord_api_Ord : ACode :=
  (.seq (.reg [] [(2, (v (.int .i64 0)))])
  (.seq (.seq (.reg [i (.len (e 0))] [(4, l 0), (5, (v (.int .i64 0)))])
  (.blk 0 (.loop [2, 3, 6, 7] l_slices_IndexFunc_api_Ord_api_Ord_0)))
  (.seq (.reg [] [(2, (v (.int .i64 (-1))))])
  .ret)))
def f_slices_IndexFunc_api_Ord_api_Ord : AFunc := ⟨8, 2, .pure, [.env 2], b_slices_IndexFunc_api_Ord_api_Ord⟩
def b_strings_IndexFunc : ACode :=
  (.seq (.reg [] [(2, (v (.int .i64 0)))])
  (.seq (.reg [i (.call 84 [(e 0), (e 1), (v (.bool true))] false)] [(2, l 0)])
  .ret))
def f_strings_IndexFunc : AFunc := ⟨3, 2, .pure, [.env 2], b_strings_IndexFunc⟩
def b_lex_run_1 : ACode :=
  (.seq (.reg [] [(1, (v (.bool false)))])
  (.seq (.reg [i (.call 48 [(e 0)] false), i (.una .not (l 0))] [(1, l 1)])
  .ret))
def f_lex_run_1 : AFunc := ⟨2, 1, .pure, [.env 1], b_lex_run_1⟩
def b_lex_part : ACode :=
  (.seq (.reg [] [(1, (v (.bool false)))])
  (.seq (.reg [i (.call 12 [(e 0)] false), g (l 0) false (.mov (e 0)), g (l 0) false (.call 3 [(l 1)] false), i (.pick (l 0) (v (.bool true)) (l 2)), g (l 3) false (.mov (e 0)), g (l 3) false (.call 50 [(l 4)] false), i (.pick (l 3) (v (.bool true)) (l 5)), g (l 6) false (.mov (e 0)), g (l 6) false (.bin .eql (l 7) (v (.int .i32 95))), i (.pick (l 6) (v (.bool true)) (l 8))] [(1, l 9)])
  .ret))
def f_lex_part : AFunc := ⟨2, 1, .pure, [.env 1], b_lex_part⟩
def b_parse_reader_not : ACode :=
  (.seq (.reg [i (.mov (v (.nil0)))] [(1, l 0)])
  (.seq (.seq (.reg [i (.call 46 [(e 0), (v (.int .i64 1)), (v (.str [78, 79, 84]))] false)] [(2, l 0)])
  (.cond (e 2) (.seq (.reg [i (.call 158 [(e 0)] false), i (.mkl 1 [(l 0)]), i (.call 292 [(v (.int .i64 5)), (l 1)] false)] [(1, l 2)])
  .ret) .skip))
  (.seq (.reg [i (.call 159 [(e 0)] false)] [(1, l 0)])
  .ret)))
def f_parse_reader_not : AFunc := ⟨3, 1, .keep, [.env 1], b_parse_reader_not⟩
def b_ast_parts : ACode :=
  (.seq (.reg [] [(1, (v (.int .i64 0)))])
  (.seq (.blk 0 (.seq (.reg [i (.bin .lss (e 0) (v (.int .i64 1))), g (l 0) false (.mov (e 0)), g (l 0) false (.bin .gtr (l 1) (v (.int .i64 23))), i (.pick (l 0) (v (.bool true)) (l 2))] [(2, l 3)])
  (.cond (e 2) (.seq (.reg [] [(1, (v (.int .i64 (-1))))])
  .ret) (.seq (.reg [i (.bin .leq (e 0) (v (.int .i64 3)))] [(3, l 0)])
  (.cond (e 3) (.seq (.reg [] [(1, (v (.int .i64 0)))])
  .ret) (.seq (.reg [i (.bin .leq (e 0) (v (.int .i64 11)))] [(4, l 0)])
  (.cond (e 4) (.seq (.reg [] [(1, (v (.int .i64 1)))])
  .ret) .skip)))))))
  (.seq (.reg [] [(1, (v (.int .i64 2)))])
  .ret)))
def f_ast_parts : AFunc := ⟨5, 1, .pure, [.env 1], b_ast_parts⟩
def b_ast_counts : ACode :=
  (.seq (.reg [i (.box 9 (e 0))] [(1, l 0), (2, (v (.bool false)))])
  (.seq (.reg [i (.fld 7 (e 1)), i (.load false 1 (l 0)), i (.bin .neq (l 1) (v (.str []))), g (l 2) false (.fld 8 (e 1)), g (l 2) false (.load false 1 (l 3)), g (l 2) false (.bin .neq (l 4) (v (.str []))), i (.pick (l 2) (v (.bool true)) (l 5)), i (.fld 3 (e 1)), i (.load true 4 (l 7)), i (.build [.int .i64 0, .int .i64 0, .int .u64 0, .str []] []), i (.eqa true [0, 0, 0, 2] (l 8) (l 9))] [(3, l 6), (4, l 10)])
  (.seq (.seq (.reg [i (.fld 0 (e 1)), i (.load false 1 (l 0))] [(5, l 1)])
  (.blk 0 (.seq (.reg [i (.bin .eql (e 5) (v (.int .i64 1)))] [(6, l 0)])
  (.cond (e 6) (.seq (.reg [i (.una .not (e 3)), g (l 0) true (.fld 3 (e 1)), g (l 0) true (.load true 4 (l 1)), g (l 0) true (.call 294 [(l 2)] false), i (.pick (l 0) (l 3) (v (.bool false))), g (l 4) true (.fld 3 (e 1)), g (l 4) true (.fld 1 (l 5)), g (l 4) true (.load false 1 (l 6)), g (l 4) true (.bin .geq (l 7) (v (.int .i64 0))), i (.pick (l 4) (l 8) (v (.bool false))), g (l 9) true (.fld 3 (e 1)), g (l 9) true (.fld 3 (l 10)), g (l 9) true (.load false 1 (l 11)), g (l 9) true (.call 304 [(l 12)] false), i (.pick (l 9) (l 13) (v (.bool false)))] [(2, l 14)])
  .ret) (.seq (.reg [i (.bin .eql (e 5) (v (.int .i64 2)))] [(7, l 0)])
  (.cond (e 7) (.seq (.reg [i (.una .not (e 4)), g (l 0) true (.fld 8 (e 1)), g (l 0) true (.load false 1 (l 1)), g (l 0) true (.call 19 [(l 2)] false), i (.pick (l 0) (l 3) (v (.bool false))), g (l 4) true (.fld 7 (e 1)), g (l 4) true (.load false 1 (l 5)), g (l 4) true (.call 90 [(l 6)] false), i (.pick (l 4) (l 7) (v (.bool false)))] [(2, l 8)])
  .ret) .skip))))))
  (.seq (.reg [i (.una .not (e 3)), g (l 0) true (.mov (e 4)), g (l 0) true (.una .not (l 1)), i (.pick (l 0) (l 2) (v (.bool false)))] [(2, l 3)])
  .ret))))
def f_ast_counts : AFunc := ⟨8, 1, .pure, [.env 2], b_ast_counts⟩
def l_slices_insertionSortOrdered_int_0 : ACode :=
  (.seq (.seq (.reg [i (.bin .gtr (e 4) (e 1)), g (l 0) true (.mov (e 0)), g (l 0) true (.mov (e 4)), g (l 0) true (.idxs 1 (l 1) (l 2)), g (l 0) true (.load false 1 (l 3)), g (l 0) true (.mov (e 0)), g (l 0) true (.mov (e 4)), g (l 0) true (.bin .sub (l 6) (v (.int .i64 1))), g (l 0) true (.idxs 1 (l 5) (l 7)), g (l 0) true (.load false 1 (l 8)), g (l 0) true (.call 297 [(l 4), (l 9)] false), i (.pick (l 0) (l 10) (v (.bool false)))] [(6, l 11)])
  (.cond (e 6) .skip (.exit 2)))
  (.seq (.blk 3 (.reg [i (.bin .sub (e 4) (v (.int .i64 1))), i (.bin .sub (e 4) (v (.int .i64 1))), i (.idxs 1 (e 0) (l 1)), i (.load false 1 (l 2)), i (.idxs 1 (e 0) (e 4)), i (.load false 1 (l 4)), i (.idxs 1 (e 0) (e 4)), i (.store 1 (l 6) (l 3)), i (.idxs 1 (e 0) (l 0)), i (.store 1 (l 8) (l 5))] []))
  (.reg [i (.bin .sub (e 4) (v (.int .i64 1)))] [(4, l 0)])))
def l_slices_insertionSortOrdered_int_1 : ACode :=
  (.seq (.seq (.reg [i (.bin .lss (e 3) (e 2))] [(5, l 0)])
  (.cond (e 5) .skip (.exit 0)))
  (.seq (.blk 1 (.seq (.reg [] [(4, e 3)])
  (.blk 2 (.loop [6] l_slices_insertionSortOrdered_int_0))))
  (.reg [i (.bin .add (e 3) (v (.int .i64 1)))] [(3, l 0)])))
def b_slices_insertionSortOrdered_int : ACode :=
  (.seq (.reg [i (.bin .add (e 1) (v (.int .i64 1)))] [(3, l 0)])
  (.blk 0 (.loop [4, 5, 6] l_slices_insertionSortOrdered_int_1)))
def f_slices_insertionSortOrdered_int : AFunc := ⟨7, 3, .keep, [], b_slices_insertionSortOrdered_int⟩
def l_strings_indexFunc_0 : ACode :=
  (.seq (.reg [i (.nexts (e 6)), i (.ext 0 (l 0))] [(7, l 0), (8, l 1)])
  (.seq (.cond (e 8) .skip (.exit 0))
  (.blk 1 (.seq (.reg [i (.ext 1 (e 7)), i (.ext 2 (e 7))] [(4, l 0), (5, l 1)])
  (.seq (.reg [i (.callv (e 1) [(e 5)]), i (.eqb false (l 0) (e 2))] [(9, l 1)])
  (.cond (e 9) (.seq (.reg [] [(3, e 4)])
  .ret) .skip))))))
def b_strings_indexFunc : ACode :=
  (.seq (.reg [] [(3, (v (.int .i64 0)))])
  (.seq (.seq (.reg [i (.rngs (e 0))] [(6, l 0)])
  (.blk 0 (.loop [3, 4, 5, 7, 8, 9] l_strings_indexFunc_0)))
  (.seq (.reg [] [(3, (v (.int .i64 (-1))))])
  .ret)))
def f_strings_indexFunc : AFunc := ⟨10, 3, .pure, [.env 3], b_strings_indexFunc⟩
def b_lex_capital : ACode :=
  (.seq (.reg [] [(1, (v (.bool false)))])
  (.seq (.reg [i (.bin .geq (e 0) (v (.int .i32 65))), g (l 0) true (.mov (e 0)), g (l 0) true (.bin .leq (l 1) (v (.int .i32 90))), i (.pick (l 0) (l 2) (v (.bool false)))] [(1, l 3)])
  .ret))
def f_lex_capital : AFunc := ⟨2, 1, .pure, [.env 1], b_lex_capital⟩
def b_parse_reader_test : ACode :=
  (.seq (.reg [i (.mov (v (.nil0)))] [(1, l 0)])
  (.seq (.reg [i (.call 160 [(e 0)] false)] [(2, l 0)])
  (.seq (.reg [i (.mkmap), i (.mputk [] (l 0) (v (.str [61])) (v (.int .i64 16))), i (.mputk [] (l 0) (v (.str [60, 62])) (v (.int .i64 17))), i (.mputk [] (l 0) (v (.str [60])) (v (.int .i64 18))), i (.mputk [] (l 0) (v (.str [60, 61])) (v (.int .i64 19))), i (.mputk [] (l 0) (v (.str [62])) (v (.int .i64 20))), i (.mputk [] (l 0) (v (.str [62, 61])) (v (.int .i64 21)))] [(3, l 0)])
  (.seq (.seq (.reg [i (.call 13 [(e 0), (v (.int .i64 5)), (v (.nil0))] false)] [(7, l 0)])
  (.cond (e 7) (.seq (.reg [i (.nilck (e 0)), i (.fld 0 (l 0)), i (.load false 1 (l 1)), i (.idxs 4 (l 2) (v (.int .i64 0))), i (.fld 2 (l 3)), i (.load false 1 (l 4)), i (.lookk [] (.int .i64 0) true (e 3) (l 5)), i (.ext 0 (l 6)), i (.ext 1 (l 6))] [(4, l 7), (5, l 8)])
  (.seq (.reg [] [(8, e 5)])
  (.cond (e 8) (.seq (.reg [i (.call 88 [(e 0)] false)] [])
  (.seq (.reg [i (.call 160 [(e 0)] false), i (.mkl 1 [(e 2), (l 0)]), i (.call 292 [(e 4), (l 1)] false)] [(1, l 2)])
  .ret)) .skip))) .skip))
  (.seq (.seq (.reg [i (.call 46 [(e 0), (v (.int .i64 1)), (v (.str [73, 83]))] false), i (.una .not (l 0))] [(9, l 1)])
  (.cond (e 9) (.seq (.reg [] [(1, e 2)])
  .ret) .skip))
  (.seq (.reg [] [(6, (v (.int .i64 6)))])
  (.seq (.seq (.reg [i (.call 46 [(e 0), (v (.int .i64 1)), (v (.str [78, 79, 84]))] false)] [(10, l 0)])
  (.cond (e 10) (.reg [] [(6, (v (.int .i64 7)))]) .skip))
  (.seq (.reg [i (.mkl 1 [(v (.str [78, 85, 76, 76]))]), i (.call 87 [(e 0), (v (.int .i64 1)), (l 0)] false)] [])
  (.seq (.reg [i (.mkl 1 [(e 2)]), i (.call 292 [(e 6), (l 0)] false)] [(1, l 1)])
  .ret)))))))))
def f_parse_reader_test : AFunc := ⟨11, 1, .keep, [.env 1], b_parse_reader_test⟩
def b_parse_reader_sum : ACode :=
  (.seq (.reg [i (.mov (v (.nil0)))] [(1, l 0)])
  (.seq (.reg [i (.mkmap), i (.mputk [] (l 0) (v (.str [43])) (v (.int .i64 12))), i (.mputk [] (l 0) (v (.str [45])) (v (.int .i64 13))), i (.mkfn 161 [(e 0)] []), i (.call 89 [(e 0), (v (.int .i64 5)), (l 0), (l 3)] false)] [(1, l 4)])
  .ret))
def f_parse_reader_sum : AFunc := ⟨2, 1, .keep, [.env 1], b_parse_reader_sum⟩
def b_parse_reader_product : ACode :=
  (.seq (.reg [i (.mov (v (.nil0)))] [(1, l 0)])
  (.seq (.reg [i (.mkmap), i (.mputk [] (l 0) (v (.str [42])) (v (.int .i64 14))), i (.mputk [] (l 0) (v (.str [47])) (v (.int .i64 15))), i (.mkfn 162 [(e 0)] []), i (.call 89 [(e 0), (v (.int .i64 5)), (l 0), (l 3)] false)] [(1, l 4)])
  .ret))
def f_parse_reader_product : AFunc := ⟨2, 1, .keep, [.env 1], b_parse_reader_product⟩
def b_parse_reader_sign : ACode :=
  (.seq (.reg [i (.mov (v (.nil0)))] [(1, l 0)])
  (.seq (.seq (.reg [i (.call 46 [(e 0), (v (.int .i64 5)), (v (.str [45]))] false)] [(2, l 0)])
  (.cond (e 2) (.seq (.reg [i (.call 162 [(e 0)] false), i (.mkl 1 [(l 0)]), i (.call 292 [(v (.int .i64 4)), (l 1)] false)] [(1, l 2)])
  .ret) .skip))
  (.seq (.reg [i (.call 163 [(e 0)] false)] [(1, l 0)])
  .ret)))
def f_parse_reader_sign : AFunc := ⟨3, 1, .keep, [.env 1], b_parse_reader_sign⟩
def b_parse_reader_primary : ACode :=
  (.seq (.reg [i (.mov (v (.nil0)))] [(1, l 0)])
  (.seq (.blk 0 (.seq (.reg [i (.call 13 [(e 0), (v (.int .i64 3)), (v (.nil0))] false)] [(4, l 0)])
  (.cond (e 4) (.seq (.reg [i (.call 88 [(e 0)] false), i (.fldv false 1 3 (l 0)), i (.conv .i64 (l 1)), i (.call 305 [(v (.int .i64 2)), (l 2), (v (.str []))] false)] [(1, l 3)])
  .ret) (.seq (.reg [i (.call 13 [(e 0), (v (.int .i64 4)), (v (.nil0))] false)] [(5, l 0)])
  (.cond (e 5) (.seq (.reg [i (.call 88 [(e 0)] false), i (.fldv false 1 2 (l 0)), i (.call 305 [(v (.int .i64 3)), (v (.int .i64 0)), (l 1)] false)] [(1, l 2)])
  .ret) (.seq (.reg [i (.call 46 [(e 0), (v (.int .i64 1)), (v (.str [84, 82, 85, 69]))] false)] [(6, l 0)])
  (.cond (e 6) (.seq (.reg [i (.call 305 [(v (.int .i64 1)), (v (.int .i64 1)), (v (.str []))] false)] [(1, l 0)])
  .ret) (.seq (.reg [i (.call 46 [(e 0), (v (.int .i64 1)), (v (.str [70, 65, 76, 83, 69]))] false)] [(7, l 0)])
  (.cond (e 7) (.seq (.reg [i (.call 305 [(v (.int .i64 1)), (v (.int .i64 0)), (v (.str []))] false)] [(1, l 0)])
  .ret) (.seq (.reg [i (.call 46 [(e 0), (v (.int .i64 1)), (v (.str [78, 85, 76, 76]))] false)] [(8, l 0)])
  (.cond (e 8) (.seq (.reg [i (.call 305 [(v (.int .i64 0)), (v (.int .i64 0)), (v (.str []))] false)] [(1, l 0)])
  .ret) (.seq (.reg [i (.mkl 1 [(v (.str [67, 79, 85, 78, 84])), (v (.str [83, 85, 77])), (v (.str [77, 73, 78])), (v (.str [77, 65, 88]))]), i (.call 13 [(e 0), (v (.int .i64 1)), (l 0)] false)] [(9, l 1)])
  (.cond (e 9) (.seq (.reg [i (.call 88 [(e 0)] false), i (.fldv false 1 2 (l 0)), i (.call 306 [(e 0), (l 1)] false)] [(1, l 2)])
  .ret) (.seq (.reg [i (.call 46 [(e 0), (v (.int .i64 5)), (v (.str [40]))] false)] [(10, l 0)])
  (.cond (e 10) (.seq (.reg [i (.call 156 [(e 0)] false)] [(2, l 0)])
  (.seq (.reg [i (.mkl 1 [(v (.str [41]))]), i (.call 87 [(e 0), (v (.int .i64 5)), (l 0)] false)] [])
  (.seq (.reg [] [(1, e 2)])
  .ret))) .skip)))))))))))))))
  (.seq (.reg [i (.call 164 [(e 0)] false), i (.box 2 (v (.agg [.str [], .str []]))), i (.store 2 (l 1) (l 0))] [(3, l 1)])
  (.seq (.reg [i (.fld 0 (e 3)), i (.load false 1 (l 0)), i (.fld 1 (e 3)), i (.load false 1 (l 2)), i (.build [.int .i64 0, .int .i64 0, .int .i64 0, .int .i64 0, .int .i64 0, .int .u64 0, .str [], .str [], .str []] [(0, 1, (v (.int .i64 2))), (7, 1, (l 1)), (8, 1, (l 3))]), i (.call 165 [(l 4)] false)] [(1, l 5)])
  .ret))))
def f_parse_reader_primary : AFunc := ⟨11, 1, .keep, [.env 1], b_parse_reader_primary⟩
def b_parse_leaf : ACode :=
  (.seq (.reg [i (.box 9 (e 0)), i (.mov (v (.nil0)))] [(1, l 0), (2, l 1)])
  (.seq (.reg [i (.fld 1 (e 1)), i (.store 1 (l 0) (v (.int .i64 (-1)))), i (.fld 2 (e 1)), i (.store 1 (l 2) (v (.int .i64 (-1))))] [])
  (.seq (.reg [i (.load true 9 (e 1)), i (.mkl 9 [(l 0)])] [(2, l 1)])
  .ret)))
def f_parse_leaf : AFunc := ⟨3, 1, .pure, [.env 2], b_parse_leaf⟩
def tbl : List AEntry := [
.none,
.nilfn f_slices_Clone_int_int,
.fn f_expr_parts,
.fn f_lex_small,
.fn f_logic_bare,
.fn f_logic_zero,
.fn f_logic_checker_below,
.fn f_logic_parts,
.round r_logic_look_0,
.fn f_expr_Check,
.fn f_expr_firsts,
.fn f_expr_counts,
.fn f_lex_digit,
.fn f_parse_reader_is,
.fn f_slices_Contains_string_string,
.fn f_slices_Index_string_string,
.nilfn f_slices_Clone_api_ENode_api_ENode,
.prim 4,
.fn f_lex_IsWord,
.fn f_lex_IsName,
.fn f_slices_ContainsFunc_int_int,
.fn f_slices_IndexFunc_int_int,
.fn f_logic_copied,
.nilfn f_slices_Clone_api_Ord_api_Ord,
.nilfn f_slices_Clone_api_Agg_api_Agg,
.nilfn f_slices_Clone_api_Expr_api_Expr,
.fn f_logic_look,
.fn f_logic_checker_all,
.fn f_logic_checker_all_1,
.fn f_logic_checker_scan,
.fn f_logic_checker_scan_1,
.fn f_logic_plain,
.fn f_expr_Kind,
.fn f_expr_Cols,
.fn f_slices_Sort_int_int,
.fn f_math_bits_Len,
.fn f_math_bits_Len64,
.fn f_slices_pdqsortOrdered_int,
.fn f_slices_insertionSortOrdered_int,
.fn f_slices_Compact_int_int,
.fn f_expr_over_int,
.fn f_expr_over_int_1,
.fn f_expr_Kind_1,
.fn f_catalog_tableName,
.fn f_catalog_columnName,
.fn f_logic_checker_project,
.fn f_parse_reader_takes,
.fn f_lex_run_1,
.fn f_lex_part,
.fn f_slices_IndexFunc_api_Table_api_Table,
.fn f_lex_capital,
.fn f_logic_Check,
.fn f_logic_checker_order,
.fn f_slices_ContainsFunc_api_Ord_api_Ord,
.fn f_slices_IndexFunc_api_Ord_api_Ord,
.fn f_value_Check,
.fn f_value_blank,
.fn f_catalog_find_api_Table,
.fn f_catalog_find_api_Table_1,
.fn f_strings_IndexByte,
.fn f_internal_stringslite_IndexByte,
.prim 6,
.fn f_logic_Part,
.fn f_catalog_Check,
.fn f_slices_ContainsFunc_api_Table_api_Table,
.fn f_catalog_Check_1,
.fn f_catalog_CheckTable,
.fn f_catalog_once_api_Column,
.fn f_catalog_find_api_Column,
.fn f_slices_IndexFunc_api_Column_api_Column,
.fn f_catalog_find_api_Column_1,
.fn f_catalog_word,
.fn f_catalog_once_api_Table,
.fn f_rewrite_apart,
.fn f_query_fits_1,
.fn f_row_Check,
.fn f_row_right,
.fn f_slices_ContainsFunc_api_Row_api_Value,
.fn f_slices_IndexFunc_api_Row_api_Value,
.fn f_row_right_1,
.fn f_logic_laid,
.fn f_lex_first,
.fn f_lex_run,
.fn f_strings_IndexFunc,
.fn f_strings_indexFunc,
.fn f_lex_number,
.round r_lex_Tokens_0,
.fn f_parse_reader_must,
.fn f_parse_reader_next,
.fn f_parse_reader_chain,
.fn f_ast_maybe,
.fn f_logic_One,
.fn f_logic_Kinds,
.fn f_blaw27_n,
.nilfn f_slices_Clone_api_Row_api_Value,
.fn f_bind_aggregates,
.fn f_lower_builder_takes,
.fn f_rewrite_Rewrite_1,
.fn f_plan_planner_side,
.fn f_plan_over,
.fn f_slices_Clone_api_LNode_api_LNode,
.nilfn f_slices_Clone_string_string,
.fn f_query_Check,
.fn f_query_fits,
.fn f_slices_ContainsFunc_api_Row_api_Row,
.fn f_slices_IndexFunc_api_Row_api_Row,
.fn f_internal_strconv_FormatInt,
.fn f_internal_strconv_small,
.fn f_ast_CheckTree,
.fn f_ast_grown,
.fn f_ast_parts,
.fn f_ast_counts,
.fn f_bind_scope_bind,
.fn f_bind_scope_bind_3,
.fn f_bind_scope_column,
.fn f_bind_scope_bind_1,
.fn f_expr_Leaf,
.fn f_expr_made,
.fn f_expr_joined,
.fn f_bind_scope_bind_2,
.fn f_lower_builder_when,
.fn f_lower_builder_over,
.fn f_slices_Equal_int_int,
.fn f_rewrite_over,
.fn f_rewrite_tops,
.fn f_rewrite_first,
.fn f_rewrite_rules,
.fn f_plan_planner_one,
.fn f_plan_Plan_1,
.fn f_query_Rows,
.fn f_query_ends,
.fn f_query_sameReport,
.fn f_slices_Equal_string_string,
.fn f_row_Same,
.fn f_slices_EqualFunc_api_Row_api_Row_api_Row_api_Row,
.fn f_query_Rows_2,
.fn f_query_Rows_1,
.fn f_query_over,
.fn f_value_Print,
.fn f_strconv_FormatInt,
.fn f_blaw27_wakes,
.fn f_blaw27_one,
.fn f_query_Begin,
.fn f_query_Compile,
.fn f_lower_Query,
.fn f_parse_Query,
.fn f_parse_whole_api_Query,
.fn f_lex_Tokens,
.fn f_lex_all,
.fn f_lex_all_1,
.fn f_parse_reader_query,
.fn f_parse_reader_selects,
.fn f_parse_list_api_Item,
.fn f_parse_reader_item,
.fn f_parse_reader_tree,
.fn f_parse_reader_place,
.fn f_parse_reader_or,
.fn f_parse_reader_and,
.fn f_parse_reader_not,
.fn f_parse_reader_test,
.fn f_parse_reader_sum,
.fn f_parse_reader_product,
.fn f_parse_reader_sign,
.fn f_parse_reader_primary,
.fn f_parse_reader_name,
.fn f_parse_leaf,
.fn f_parse_reader_source,
.fn f_parse_reader_joins,
.fn f_bind_Bind,
.fn f_ast_Check,
.fn f_slices_ContainsFunc_api_Select_api_Select,
.fn f_slices_IndexFunc_api_Select_api_Select,
.fn f_ast_Check_1,
.fn f_ast_selects,
.fn f_ast_source,
.fn f_ast_trees,
.fn f_slices_ContainsFunc_api_Tree_api_Tree,
.fn f_slices_IndexFunc_api_Tree_api_Tree,
.fn f_ast_trees_1,
.fn f_bind_scope_all,
.fn f_bind_scope_first,
.fn f_bind_scope_source,
.fn f_catalog_Find,
.fn f_bind_called,
.fn f_bind_scope_joins,
.fn f_bind_scope_where,
.fn f_bind_scope_group,
.fn f_bind_scope_items,
.fn f_bind_Grouped,
.fn f_slices_ContainsFunc_api_Item_api_Item,
.fn f_slices_IndexFunc_api_Item_api_Item,
.fn f_bind_Grouped_1,
.fn f_slices_ContainsFunc_api_Node_api_Node,
.fn f_slices_IndexFunc_api_Node_api_Node,
.fn f_bind_Grouped_1_1,
.fn f_bind_scope_having,
.fn f_bind_scope_itemKinds,
.fn f_bind_scope_names,
.fn f_lower_Lower,
.fn f_lower_selects,
.fn f_lower_builder_reads,
.fn f_lower_builder_scan,
.fn f_bind_Columns,
.fn f_bind_Columns_1,
.fn f_bind_kinds,
.fn f_logic_Leaf,
.fn f_lower_builder_filters,
.fn f_lower_builder_groups,
.fn f_lower_builder_projects,
.fn f_lower_Lower_1,
.fn f_rewrite_Rewrite,
.fn f_rewrite_project,
.fn f_plan_Plan,
.fn f_plan_scans,
.fn f_plan_planner_scan,
.fn f_plan_planner_project,
.fn f_plan_places,
.fn f_plan_side_with,
.fn f_plan_planner_order,
.fn f_plan_planner_send,
.fn f_slices_ContainsFunc_api_Frag_api_Frag,
.fn f_slices_IndexFunc_api_Frag_api_Frag,
.prim 5,
.fn f_query_reports,
.fn f_strconv_Itoa,
.fn f_internal_strconv_Itoa,
.fn f_slices_Equal_api_Row_api_Value,
.fn f_row_equal,
.fn f_bref21_Same,
.fn f_bref27_Fits,
.fn f_blaw27_QueryEnds_1,
.fn f_query_Cancel,
.fn f_query_Fail,
.fn f_blaw27_over,
.fn f_blaw27_overRows,
.fn f_blaw27_QueryEnds,
.fn f_blaw27_overNodes,
.fn f_query_bare,
.prim 7,
.fn f_bref27_Same,
.fn f_bref27_Right,
.fn f_bref27_SameReport,
.fn f_bref18_Same,
.fn f_bref14_SameNames,
.fn f_bref05_Right,
.fn f_blaw27_overExpr,
.fn f_query_bare_1,
.fn f_query_bare_2,
.fn f_bref02_Right]
end Go.AM.P
namespace Go.AM
def code : Code := ⟨fun n => P.tbl.getD n .none, prims⟩
end Go.AM
namespace Go.AM.I
abbrev value_Check : Nat := 55
abbrev value_blank : Nat := 56
abbrev query_fits_1 : Nat := 74
abbrev row_Check : Nat := 75
abbrev row_right : Nat := 76
abbrev slices_ContainsFunc_api_Row_api_Value : Nat := 77
abbrev slices_IndexFunc_api_Row_api_Value : Nat := 78
abbrev row_right_1 : Nat := 79
abbrev slices_Clone_api_Row_api_Value : Nat := 94
abbrev slices_Clone_string_string : Nat := 101
abbrev query_Check : Nat := 102
abbrev query_fits : Nat := 103
abbrev slices_ContainsFunc_api_Row_api_Row : Nat := 104
abbrev slices_IndexFunc_api_Row_api_Row : Nat := 105
abbrev query_Rows : Nat := 129
abbrev query_ends : Nat := 130
abbrev query_sameReport : Nat := 131
abbrev slices_Equal_string_string : Nat := 132
abbrev row_Same : Nat := 133
abbrev slices_EqualFunc_api_Row_api_Row_api_Row_api_Row : Nat := 134
abbrev query_Rows_2 : Nat := 135
abbrev query_Rows_1 : Nat := 136
abbrev query_over : Nat := 137
abbrev blaw27_wakes : Nat := 140
abbrev lower_Query : Nat := 144
abbrev rewrite_Rewrite : Nat := 210
abbrev plan_Plan : Nat := 212
abbrev query_reports : Nat := 223
abbrev slices_Equal_api_Row_api_Value : Nat := 226
abbrev row_equal : Nat := 227
abbrev bref21_Same : Nat := 228
abbrev bref27_Fits : Nat := 229
abbrev blaw27_QueryEnds_1 : Nat := 230
abbrev query_Cancel : Nat := 231
abbrev query_Fail : Nat := 232
abbrev blaw27_over : Nat := 233
abbrev blaw27_overRows : Nat := 234
abbrev blaw27_QueryEnds : Nat := 235
abbrev blaw27_overNodes : Nat := 236
abbrev query_bare : Nat := 237
abbrev bref27_Over : Nat := 238
abbrev bref27_Same : Nat := 239
abbrev bref27_Right : Nat := 240
abbrev bref27_SameReport : Nat := 241
abbrev bref18_Same : Nat := 242
abbrev bref14_SameNames : Nat := 243
abbrev bref05_Right : Nat := 244
abbrev blaw27_overExpr : Nat := 245
abbrev query_bare_1 : Nat := 246
abbrev query_bare_2 : Nat := 247
abbrev bref02_Right : Nat := 248
end Go.AM.I
