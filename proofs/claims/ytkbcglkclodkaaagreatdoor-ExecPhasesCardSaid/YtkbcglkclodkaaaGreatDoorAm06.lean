/- Part of the proof. -/
import Derived.Test.YtkbcglkclodkaaaGreatDoorAm05
import Derived.Test.YtkbcglkclodkaaaGreatDoorAm04
set_option linter.unusedVariables false
set_option linter.unusedSimpArgs false
namespace Go.AM.P
def l_qt_0:ACode:=
 (.seq (.reg [i (.bin .lss (e 54) (e 53))] [(55,l 0)])
 (.seq (.cond (e 55) .skip (.exit 8))
 (.seq (.blk 9 (.seq (.reg [i (.idxs 2 (e 52) (e 54)),i (.load true 2 (l 0)),i (.box 2 (v (.agg [.int .i64 0,.nil0]))),i (.store 2 (l 2) (l 1))] [(23,l 2),(22,e 54)])
 (.seq (.reg [i (.load true 2 (e 23)),i (.fld 1 (e 21)),i (.load false 1 (l 1)),i (.call 19 [l 0,l 2] false),i (.ext 0 (l 3)),i (.ext 1 (l 3)),i (.box 4 (v (.agg [.int .i64 0,.int .i64 0,.int .u64 0,.str []]))),i (.store 4 (l 6) (l 4))] [(24,l 6),(25,l 5)])
 (.seq (.reg [i (.bin .neq (e 25) (v (.int .i64 0))),g (l 0) false (.mov (e 17)),g (l 0) false (.mov (e 20)),g (l 0) false (.idxs 1 (l 1) (l 2)),g (l 0) false (.load false 1 (l 3)),g (l 0) false (.fld 7 (e 3)),g (l 0) false (.load false 1 (l 5)),g (l 0) false (.len (l 6)),g (l 0) false (.mov (e 22)),g (l 0) false (.bin .add (l 7) (l 8)),g (l 0) false (.idxs 4 (l 4) (l 9)),g (l 0) false (.load true 4 (l 10)),g (l 0) false (.load true 4 (e 24)),g (l 0) false (.eqa true [0,0,0,2] (l 11) (l 12)),i (.pick (l 0) (v (.bool true)) (l 13))] [(56,l 14)])
 (.cond (e 56) (.seq (.reg [] [(4,v (.bool false))])
 .ret) .skip)))))
 (.reg [i (.bin .add (e 54) (v (.int .i64 1)))] [(54,l 0)]))))
def l_qt_1:ACode:=
 (.seq (.reg [i (.bin .lss (e 50) (e 49))] [(51,l 0)])
 (.seq (.cond (e 51) .skip (.exit 6))
 (.seq (.blk 7 (.seq (.reg [i (.idxs 2 (e 48) (e 50)),i (.load true 2 (l 0)),i (.box 2 (v (.agg [.nil0,.nil0]))),i (.store 2 (l 2) (l 1))] [(21,l 2),(20,e 50)])
 (.seq (.reg [i (.fld 8 (e 3)),i (.load false 1 (l 0)),i (.len (l 1))] [(52,l 1),(53,l 2),(54,v (.int .i64 0))])
 (.blk 8 (.loop [4,22,23,24,25,55,56] l_qt_0)))))
 (.reg [i (.bin .add (e 50) (v (.int .i64 1)))] [(50,l 0)]))))
def l_qt_2:ACode:=
 (.seq (.reg [i (.bin .lss (e 42) (e 41))] [(43,l 0)])
 (.seq (.cond (e 43) .skip (.exit 4))
 (.seq (.blk 5 (.seq (.reg [i (.idxs 2 (e 40) (e 42)),i (.load true 2 (l 0)),i (.box 2 (v (.agg [.int .i64 0,.nil0]))),i (.store 2 (l 2) (l 1))] [(15,l 2)])
 (.reg [i (.fld 8 (e 13)),i (.load false 1 (l 0)),i (.fld 0 (e 15)),i (.load false 1 (l 2)),i (.build [.int .i64 0,.nil0] [(0,1,(l 3))]),i (.mkl 2 [l 4]),i (.app 2 (l 1) (l 5)),i (.fld 8 (e 13)),i (.store 1 (l 7) (l 6))] [])))
 (.reg [i (.bin .add (e 42) (v (.int .i64 1)))] [(42,l 0)]))))
def l_qt_3:ACode:=
 (.seq (.reg [i (.bin .lss (e 38) (e 37))] [(39,l 0)])
 (.seq (.cond (e 39) .skip (.exit 2))
 (.seq (.blk 3 (.seq (.reg [] [(14,e 38)])
 (.reg [i (.fld 7 (e 13)),i (.load false 1 (l 0)),i (.mkl 1 [e 14]),i (.app 1 (l 1) (l 2)),i (.fld 7 (e 13)),i (.store 1 (l 4) (l 3))] [])))
 (.reg [i (.bin .add (e 38) (v (.int .i64 1)))] [(38,l 0)]))))
def l_qt_4:ACode:=
 (.seq (.reg [i (.bin .lss (e 30) (e 29))] [(31,l 0)])
 (.seq (.cond (e 31) .skip (.exit 0))
 (.seq (.blk 1 (.seq (.reg [i (.idxs 1 (e 28) (e 30)),i (.load false 1 (l 0))] [(10,l 1)])
 (.seq (.seq (.reg [i (.len (e 10)),i (.bin .eql (l 0) (v (.int .i64 0)))] [(32,l 1)])
 (.cond (e 32) (.exit 1) .skip))
 (.seq (.reg [i (.load true 12 (e 3)),i (.call 17 [l 0,e 10] false),i (.ext 0 (l 1)),i (.ext 1 (l 1))] [(11,l 2),(12,l 3)])
 (.seq (.seq (.reg [i (.bin .eql (e 12) (v (.int .i64 2)))] [(33,l 0)])
 (.cond (e 33) (.seq (.reg [] [(4,v (.bool true))])
 .ret) .skip))
 (.seq (.seq (.reg [i (.bin .neq (e 12) (v (.int .i64 0)))] [(34,l 0)])
 (.cond (e 34) (.reg [] [(9,e 12)]) .skip))
 (.reg [i (.app 1 (e 8) (e 11))] [(8,l 0)])))))))
 (.reg [i (.bin .add (e 30) (v (.int .i64 1)))] [(30,l 0)]))))
def b_qt:ACode:=
 (.seq (.reg [i (.box 12 (e 0))] [(3,l 0),(4,v (.bool false))])
 (.seq (.seq (.reg [i (.call 6 [] false),i (.una .not (l 0))] [(26,l 1)])
 (.cond (e 26) (.seq (.reg [] [(4,v (.bool false))])
 .ret) .skip))
 (.seq (.reg [i (.load true 12 (e 3)),i (.mkl 12 [l 0]),i (.call 18 [l 1,(v (.int .i64 1))] false),i (.idxs 12 (l 2) (v (.int .i64 0))),i (.load true 12 (l 3)),i (.store 12 (e 3) (l 4))] [])
 (.seq (.reg [i (.fld 0 (e 3)),i (.store 1 (l 0) (v (.int .i64 10)))] [])
 (.seq (.reg [i (.call 11 [e 1,(v (.int .i64 24))] false)] [(5,l 0)])
 (.seq (.reg [i (.load true 12 (e 3)),i (.call 17 [l 0,e 5] false),i (.ext 0 (l 1)),i (.ext 1 (l 1))] [(6,l 2),(7,l 3)])
 (.seq (.seq (.reg [i (.bin .eql (e 7) (v (.int .i64 2)))] [(27,l 0)])
 (.cond (e 27) (.seq (.reg [i (.len (e 6)),i (.bin .eql (l 0) (v (.int .i64 0)))] [(4,l 1)])
 .ret) .skip))
 (.seq (.reg [i (.mknil 1)] [(8,l 0)])
 (.seq (.reg [] [(9,v (.int .i64 0))])
 (.seq (.seq (.reg [i (.call 9 [e 5,e 2] false),i (.len (l 0))] [(28,l 0),(29,l 1),(30,v (.int .i64 0))])
 (.blk 0 (.loop [4,10,11,12,31,32,33,34] l_qt_4)))
 (.seq (.seq (.reg [i (.bin .neq (e 9) (e 7))] [(35,l 0)])
 (.cond (e 35) (.seq (.reg [] [(4,v (.bool false))])
 .ret) .skip))
 (.seq (.seq (.reg [i (.bin .neq (e 7) (v (.int .i64 0))),g (l 0) false (.mov (e 8)),g (l 0) false (.len (l 1)),g (l 0) false (.bin .eql (l 2) (v (.int .i64 0))),i (.pick (l 0) (v (.bool true)) (l 3))] [(36,l 4)])
 (.cond (e 36) (.seq (.reg [] [(4,v (.bool true))])
 .ret) .skip))
 (.seq (.reg [i (.build [.int .i64 0,.int .i64 0,.int .i64 0,.int .i64 0,.nil0,.bool false,.nil0,.nil0,.nil0,.nil0,.nil0,.int .i64 0] [(0,1,v (.int .i64 11))]),i (.box 12 (v (.agg [.int .i64 0,.int .i64 0,.int .i64 0,.int .i64 0,.nil0,.bool false,.nil0,.nil0,.nil0,.nil0,.nil0,.int .i64 0]))),i (.store 12 (l 1) (l 0))] [(13,l 1)])
 (.seq (.seq (.lift 13 7 1 (.reg [i (.fld 7 (e 3)),i (.load false 1 (l 0)),i (.len (l 1))] [(37,l 2),(38,v (.int .i64 0))]))
 (.blk 2 (.loop [14,39] l_qt_3)))
 (.seq (.seq (.lift 13 8 2 (.reg [i (.fld 8 (e 3)),i (.load false 1 (l 0)),i (.len (l 1))] [(40,l 1),(41,l 2),(42,v (.int .i64 0))]))
 (.blk 4 (.loop [15,43] l_qt_2)))
 (.seq (.reg [i (.load true 12 (e 13)),i (.call 16 [l 0,e 6] false),i (.ext 0 (l 1)),i (.ext 1 (l 1))] [(16,l 2),(7,l 3)])
 (.seq (.reg [i (.load true 12 (e 13)),i (.call 16 [l 0,e 8] false),i (.ext 0 (l 1)),i (.ext 1 (l 1))] [(17,l 2),(18,l 3)])
 (.seq (.seq (.reg [i (.bin .eql (e 7) (v (.int .i64 2))),g (l 0) false (.mov (e 18)),g (l 0) false (.bin .eql (l 1) (v (.int .i64 2))),i (.pick (l 0) (v (.bool true)) (l 2))] [(44,l 3)])
 (.cond (e 44) (.seq (.reg [] [(4,v (.bool true))])
 .ret) .skip))
 (.seq (.seq (.reg [i (.bin .neq (e 7) (e 18)),g (l 0) false (.mov (e 16)),g (l 0) false (.mov (e 17)),g (l 0) false (.call 7 [l 1,l 2] false),g (l 0) false (.una .not (l 3)),i (.pick (l 0) (v (.bool true)) (l 4))] [(45,l 5)])
 (.cond (e 45) (.seq (.reg [] [(4,v (.bool false))])
 .ret) .skip))
 (.seq (.seq (.reg [i (.bin .neq (e 7) (v (.int .i64 0)))] [(46,l 0)])
 (.cond (e 46) (.seq (.reg [i (.bin .eql (e 7) (v (.int .i64 140)))] [(4,l 0)])
 .ret) .skip))
 (.seq (.reg [i (.fld 7 (e 3)),i (.load false 1 (l 0)),i (.call 20 [e 5,l 1] false),i (.ext 0 (l 2)),i (.ext 1 (l 2))] [(19,l 3),(7,l 4)])
 (.seq (.seq (.reg [i (.bin .neq (e 7) (v (.int .i64 0))),g (l 0) false (.mov (e 19)),g (l 0) false (.len (l 1)),g (l 0) false (.mov (e 17)),g (l 0) false (.len (l 3)),g (l 0) false (.bin .neq (l 2) (l 4)),i (.pick (l 0) (v (.bool true)) (l 5))] [(47,l 6)])
 (.cond (e 47) (.seq (.reg [] [(4,v (.bool false))])
 .ret) .skip))
 (.seq (.seq (.reg [i (.len (e 19))] [(48,e 19),(49,l 0),(50,v (.int .i64 0))])
 (.blk 6 (.loop [4,20,21,22,23,24,25,51,52,53,54,55,56] l_qt_1)))
 (.seq (.reg [] [(4,v (.bool true))])
 .ret))))))))))))))))))))))))
def f_qt:AFunc:=⟨57,3,.pure,[.env 4],b_qt⟩
def b_qai:ACode:=
 (.seq (.reg [] [(0,v (.bool false))])
 (.seq (.reg [i (.build [.int .i64 0,.int .i64 0,.int .i64 0,.int .i64 0,.int .i64 0,.int .i64 0,.int .u64 0,.str []] [(0,1,v (.int .i64 2)),(3,1,v (.int .i64 1))]),i (.call 5 [l 0,(v (.nil0))] false),i (.box 1 (v (.agg [.nil0]))),i (.store 1 (l 2) (l 1))] [(1,l 2)])
 (.seq (.reg [i (.mkl 1 [(v (.int .i64 0))]),i (.build [.int .i64 0,.nil0] [(0,1,v (.int .i64 1))]),i (.load true 1 (e 1)),i (.build [.int .i64 0,.nil0] [(0,1,v (.int .i64 3)),(1,1,(l 2))]),i (.mkl 2 [l 1,l 3]),i (.build [.int .i64 0,.int .i64 0,.int .i64 0,.int .i64 0,.nil0,.bool false,.nil0,.nil0,.nil0,.nil0,.nil0,.int .i64 0] [(0,1,v (.int .i64 10)),(7,1,(l 0)),(8,1,(l 4))]),i (.box 12 (v (.agg [.int .i64 0,.int .i64 0,.int .i64 0,.int .i64 0,.nil0,.bool false,.nil0,.nil0,.nil0,.nil0,.nil0,.int .i64 0]))),i (.store 12 (l 6) (l 5))] [(2,l 6)])
 (.seq (.reg [i (.load true 12 (e 2)),i (.mkl 1 [(v (.int .i64 1)),(v (.int .i64 5))]),i (.call 3 [l 1] false),i (.mkl 1 [(v (.int .i64 1)),(v (.int .i64 7))]),i (.call 3 [l 3] false),i (.mkl 1 [l 2,l 4]),i (.call 17 [l 0,l 5] false),i (.ext 0 (l 6)),i (.ext 1 (l 6))] [(3,l 7),(4,l 8)])
 (.seq (.reg [i (.mkl 1 [(v (.int .i64 2))]),i (.build [.int .i64 0,.int .i64 0,.int .i64 0,.int .i64 0,.nil0,.bool false,.nil0,.nil0,.nil0,.nil0,.nil0,.int .i64 0] [(0,1,v (.int .i64 1)),(1,1,v (.int .i64 (-1))),(2,1,v (.int .i64 (-1))),(4,1,(l 0))]),i (.mkl 12 [l 1]),i (.build [.nil0,.int .i64 0,.int .i64 0,.nil0] [(0,1,(l 2))]),i (.box 4 (v (.agg [.nil0,.int .i64 0,.int .i64 0,.nil0]))),i (.store 4 (l 4) (l 3))] [(5,l 4)])
 (.seq (.reg [i (.load true 4 (e 5)),i (.mkl 1 [(v (.int .i64 2))]),i (.call 3 [l 1] false),i (.mkl 1 [(v (.int .i64 1))]),i (.call 3 [l 3] false),i (.mkl 1 [l 2,l 4]),i (.mkl 1 [l 5]),i (.call 2 [l 0,l 6,(v (.nil0))] false),i (.ext 0 (l 7)),i (.ext 1 (l 7))] [(6,l 8),(7,l 9)])
 (.seq (.reg [i (.bin .eql (e 4) (v (.int .i64 0))),g (l 0) true (.mov (e 7)),g (l 0) true (.bin .eql (l 1) (v (.int .i64 0))),i (.pick (l 0) (l 2) (v (.bool false))),g (l 3) true (.mov (e 3)),g (l 3) true (.len (l 4)),g (l 3) true (.bin .eql (l 5) (v (.int .i64 1))),i (.pick (l 3) (l 6) (v (.bool false))),g (l 7) true (.mov (e 3)),g (l 7) true (.idxs 1 (l 8) (v (.int .i64 0))),g (l 7) true (.load false 1 (l 9)),g (l 7) true (.len (l 10)),g (l 7) true (.bin .eql (l 11) (v (.int .i64 3))),i (.pick (l 7) (l 12) (v (.bool false))),g (l 13) true (.mov (e 3)),g (l 13) true (.idxs 1 (l 14) (v (.int .i64 0))),g (l 13) true (.load false 1 (l 15)),g (l 13) true (.idxs 4 (l 16) (v (.int .i64 2))),g (l 13) true (.load true 4 (l 17)),g (l 13) true (.build [.int .i64 0,.int .i64 0,.int .u64 0,.str []] [(0,1,v (.int .i64 4)),(2,1,v (.int .u64 12))]),g (l 13) true (.eqa false [0,0,0,2] (l 18) (l 19)),i (.pick (l 13) (l 20) (v (.bool false))),g (l 21) true (.mov (e 6)),g (l 21) true (.mkl 1 [(v (.int .i64 1))]),g (l 21) true (.call 3 [l 23] false),g (l 21) true (.mkl 1 [(v (.int .i64 2))]),g (l 21) true (.call 3 [l 25] false),g (l 21) true (.mkl 1 [l 24,l 26]),g (l 21) true (.call 12 [l 22,l 27] false),i (.pick (l 21) (l 28) (v (.bool false)))] [(0,l 29)])
 .ret)))))))
def f_qai:AFunc:=⟨8,0,.pure,[.env 0],b_qai⟩
def l_qao_0:ACode:=
 (.seq (.reg [i (.bin .lss (e 15) (e 14))] [(16,l 0)])
 (.seq (.cond (e 16) .skip (.exit 2))
 (.seq (.blk 3 (.seq (.reg [i (.idxs 8 (e 13) (e 15)),i (.load true 8 (l 0)),i (.box 8 (v (.agg [.int .i64 0,.int .i64 0,.int .i64 0,.int .i64 0,.int .i64 0,.int .i64 0,.int .u64 0,.str []]))),i (.store 8 (l 2) (l 1))] [(8,l 2)])
 (.seq (.seq (.reg [i (.fld 1 (e 8)),i (.load false 1 (l 0)),i (.bin .geq (l 1) (v (.int .i64 0)))] [(17,l 2)])
 (.cond (e 17) (.reg [i (.fld 1 (e 8)),i (.load false 1 (l 0)),i (.bin .add (l 1) (e 7)),i (.fld 1 (e 8)),i (.store 1 (l 3) (l 2))] []) .skip))
 (.seq (.seq (.reg [i (.fld 2 (e 8)),i (.load false 1 (l 0)),i (.bin .geq (l 1) (v (.int .i64 0)))] [(18,l 2)])
 (.cond (e 18) (.reg [i (.fld 2 (e 8)),i (.load false 1 (l 0)),i (.bin .add (l 1) (e 7)),i (.fld 2 (e 8)),i (.store 1 (l 3) (l 2))] []) .skip))
 (.reg [i (.fld 0 (e 4)),i (.load false 1 (l 0)),i (.load true 8 (e 8)),i (.mkl 8 [l 2]),i (.app 8 (l 1) (l 3)),i (.fld 0 (e 4)),i (.store 1 (l 5) (l 4))] [])))))
 (.reg [i (.bin .add (e 15) (v (.int .i64 1)))] [(15,l 0)]))))
def l_qao_1:ACode:=
 (.seq (.reg [i (.bin .lss (e 11) (e 10))] [(12,l 0)])
 (.seq (.cond (e 12) .skip (.exit 0))
 (.seq (.blk 1 (.seq (.reg [i (.idxs 1 (e 9) (e 11)),i (.load true 1 (l 0)),i (.box 1 (v (.agg [.nil0]))),i (.store 1 (l 2) (l 1))] [(6,l 2),(5,e 11)])
 (.seq (.reg [i (.fld 0 (e 4)),i (.load false 1 (l 0)),i (.len (l 1))] [(7,l 2)])
 (.seq (.seq (.reg [i (.fld 0 (e 6)),i (.load false 1 (l 0)),i (.len (l 1))] [(13,l 1),(14,l 2),(15,v (.int .i64 0))])
 (.blk 2 (.loop [8,16,17,18] l_qao_0)))
 (.seq (.reg [i (.bin .eql (e 5) (v (.int .i64 0)))] [(19,l 0)])
 (.cond (e 19) (.reg [i (.fld 0 (e 4)),i (.load false 1 (l 0)),i (.len (l 1)),i (.bin .sub (l 2) (v (.int .i64 1))),i (.fld 1 (e 2)),i (.store 1 (l 4) (l 3))] []) (.reg [i (.fld 0 (e 4)),i (.load false 1 (l 0)),i (.len (l 1)),i (.bin .sub (l 2) (v (.int .i64 1))),i (.fld 2 (e 2)),i (.store 1 (l 4) (l 3))] [])))))))
 (.reg [i (.bin .add (e 11) (v (.int .i64 1)))] [(11,l 0)]))))
def b_qao:ACode:=
 (.seq (.reg [i (.box 8 (e 0)),i (.box 1 (v (.agg [.nil0])))] [(2,l 0),(3,l 1)])
 (.seq (.reg [i (.box 1 (v (.agg [.nil0])))] [(4,l 0)])
 (.seq (.reg [i (.fld 1 (e 2)),i (.store 1 (l 0) (v (.int .i64 (-1)))),i (.fld 2 (e 2)),i (.store 1 (l 2) (v (.int .i64 (-1))))] [])
 (.seq (.seq (.lift 4 0 8 (.reg [i (.len (e 1))] [(9,e 1),(10,l 0),(11,v (.int .i64 0))]))
 (.blk 0 (.loop [5,6,7,8,12,13,14,15,16,17,18,19] l_qao_1)))
 (.seq (.reg [i (.fld 0 (e 4)),i (.load false 1 (l 0)),i (.load true 8 (e 2)),i (.mkl 8 [l 2]),i (.app 8 (l 1) (l 3)),i (.fld 0 (e 4)),i (.store 1 (l 5) (l 4))] [])
 (.seq (.reg [i (.load true 1 (e 4)),i (.store 1 (e 3) (l 0))] [])
 .ret))))))
def f_qao:AFunc:=⟨20,2,.pure,[.cell true 1 3],b_qao⟩
def l_qae_0:ACode:=
 (.seq (.reg [i (.bin .lss (e 6) (e 5))] [(7,l 0)])
 (.seq (.cond (e 7) .skip (.exit 0))
 (.seq (.blk 1 (.seq (.reg [i (.idxs 1 (e 4) (e 6)),i (.load false 1 (l 0))] [(3,l 1)])
 (.reg [i (.call 34 [e 3] false),i (.mkl 4 [l 0]),i (.app 4 (e 2) (l 1))] [(2,l 2)])))
 (.reg [i (.bin .add (e 6) (v (.int .i64 1)))] [(6,l 0)]))))
def b_qae:ACode:=
 (.seq (.reg [i (.mov (v (.nil0)))] [(1,l 0)])
 (.seq (.reg [i (.mknil 4)] [(2,l 0)])
 (.seq (.seq (.reg [i (.len (e 0))] [(4,e 0),(5,l 0),(6,v (.int .i64 0))])
 (.blk 0 (.loop [3,7] l_qae_0)))
 (.seq (.reg [] [(1,e 2)])
 .ret))))
def f_qae:AFunc:=⟨8,1,.pure,[.env 1],b_qae⟩
def l_qbo_0:ACode:=
 (.seq (.reg [i (.bin .lss (e 25) (e 24))] [(26,l 0)])
 (.seq (.cond (e 26) .skip (.exit 2))
 (.seq (.blk 3 (.seq (.reg [i (.idxs 12 (e 23) (e 25)),i (.load true 12 (l 0)),i (.box 12 (v (.agg [.int .i64 0,.int .i64 0,.int .i64 0,.int .i64 0,.nil0,.bool false,.nil0,.nil0,.nil0,.nil0,.nil0,.int .i64 0]))),i (.store 12 (l 2) (l 1))] [(13,l 2)])
 (.seq (.reg [i (.fld 0 (e 13)),i (.load false 1 (l 0)),i (.look (.nilf) false (e 11) (l 1)),i (.load true 12 (e 13)),i (.callv (l 2) [e 8,l 3]),i (.ext 0 (l 4)),i (.ext 1 (l 4))] [(14,l 5),(15,l 6)])
 (.seq (.blk 4 (.seq (.reg [i (.bin .neq (e 15) (v (.int .i64 0)))] [(27,l 0)])
 (.cond (e 27) (.reg [] [(12,v (.int .i64 140))]) (.seq (.reg [i (.len (e 14)),i (.bin .gtr (l 0) (v (.int .i64 200)))] [(28,l 1)])
 (.cond (e 28) (.reg [] [(12,v (.int .i64 300))]) .skip)))))
 (.seq (.seq (.reg [i (.bin .neq (e 12) (v (.int .i64 0)))] [(29,l 0)])
 (.cond (e 29) (.exit 2) .skip))
 (.reg [i (.nilck (e 8)),i (.fld 7 (l 0)),i (.load false 1 (l 1)),i (.mkl 1 [e 14]),i (.app 1 (l 2) (l 3)),i (.nilck (e 8)),i (.fld 7 (l 5)),i (.store 1 (l 6) (l 4))] []))))))
 (.reg [i (.bin .add (e 25) (v (.int .i64 1)))] [(25,l 0)]))))
def l_qbo_1:ACode:=
 (.seq (.reg [i (.bin .lss (e 19) (e 18))] [(20,l 0)])
 (.seq (.cond (e 20) .skip (.exit 0))
 (.seq (.blk 1 (.seq (.reg [i (.idxs 12 (e 17) (e 19)),i (.load true 12 (l 0)),i (.box 12 (v (.agg [.int .i64 0,.int .i64 0,.int .i64 0,.int .i64 0,.nil0,.bool false,.nil0,.nil0,.nil0,.nil0,.nil0,.int .i64 0]))),i (.store 12 (l 2) (l 1))] [(9,l 2)])
 (.seq (.seq (.reg [i (.fld 1 (e 9)),i (.load false 1 (l 0)),i (.bin .geq (l 1) (v (.int .i64 0)))] [(21,l 2)])
 (.cond (e 21) (.exit 1) .skip))
 (.seq (.reg [i (.load true 12 (e 9)),i (.call 36 [e 8,l 0] false),i (.ext 0 (l 1)),i (.ext 1 (l 1))] [(10,l 3)])
 (.seq (.reg [i (.una .not (e 10))] [(22,l 0)])
 (.cond (e 22) (.seq (.reg [i (.mov (v (.nil0)))] [(4,l 0),(5,v (.int .i64 2))])
 .ret) .skip))))))
 (.reg [i (.bin .add (e 19) (v (.int .i64 1)))] [(19,l 0)]))))
def b_qbo:ACode:=
 (.seq (.reg [i (.box 4 (e 0)),i (.mov (v (.nil0)))] [(3,l 0),(4,l 1),(5,v (.int .i64 0))])
 (.scope (.seq (.reg [i (.fld 0 (e 3)),i (.load false 1 (l 0)),i (.call 37 [l 1] false),i (.ext 0 (l 2)),i (.ext 1 (l 2)),i (.ext 2 (l 2))] [(6,l 3),(7,l 5)])
 (.seq (.seq (.reg [i (.bin .neq (e 7) (v (.int .i64 0)))] [(16,l 0)])
 (.cond (e 16) (.seq (.reg [i (.mov (v (.nil0)))] [(4,l 0),(5,e 7)])
 .ret) .skip))
 (.seq (.reg [i (.load true 4 (e 3)),i (.build [.nil0,.int .i64 0,.int .i64 0,.nil0,.nil0,.nil0,.nil0,.nil0] [(0,4,(l 0)),(4,1,(e 1)),(5,1,(e 2)),(6,1,(e 6))]),i (.box 8 (l 1))] [(8,l 2)])
 (.seq (.seq (.lift 8 7 1 (.reg [i (.nilck (e 8)),i (.fld 0 (l 0)),i (.fld 0 (l 1)),i (.load false 1 (l 2)),i (.len (l 3))] [(17,l 3),(18,l 4),(19,v (.int .i64 0))]))
 (.blk 0 (.loop [4,5,9,10,20,21,22] l_qbo_1)))
 (.seq (.reg [i (.call 35 [] false)] [(11,l 0)])
 (.seq (.reg [] [(12,v (.int .i64 0))])
 (.seq (.seq (.reg [i (.nilck (e 8)),i (.fld 0 (l 0)),i (.fld 0 (l 1)),i (.load false 1 (l 2)),i (.len (l 3))] [(23,l 3),(24,l 4),(25,v (.int .i64 0))])
 (.blk 2 (.loop [13,14,15,26,27,28,29] l_qbo_0)))
 (.seq (.seq (.reg [i (.bin .neq (e 12) (v (.int .i64 0)))] [(30,l 0)])
 (.cond (e 30) (.seq (.reg [i (.mov (v (.nil0)))] [(4,l 0),(5,e 12)])
 .ret) .skip))
 (.seq (.reg [i (.nilck (e 8)),i (.fld 7 (l 0)),i (.load false 1 (l 1)),i (.nilck (e 8)),i (.fld 7 (l 3)),i (.load false 1 (l 4)),i (.len (l 5)),i (.bin .sub (l 6) (v (.int .i64 1))),i (.idxs 1 (l 2) (l 7)),i (.load false 1 (l 8))] [(4,l 9),(5,v (.int .i64 0))])
 .ret)))))))))))
def f_qbo:AFunc:=⟨31,3,.pure,[.env 4,.env 5],b_qbo⟩
def l_qaf_0:ACode:=
 (.seq (.reg [i (.bin .lss (e 12) (e 11))] [(13,l 0)])
 (.seq (.cond (e 13) .skip (.exit 2))
 (.seq (.blk 3 (.seq (.reg [] [(6,e 12)])
 (.reg [i (.idxs 4 (e 5) (e 6)),i (.fld 3 (l 0)),i (.load false 1 (l 1)),i (.idxs 4 (e 5) (e 6)),i (.fld 3 (l 3)),i (.load false 1 (l 4)),i (.lent (l 5)),i (.mins (l 6) [(v (.int .i64 41))]),i (.slicet (l 2) none (some (l 7))),i (.idxs 4 (e 5) (e 6)),i (.fld 3 (l 9)),i (.store 1 (l 10) (l 8))] [])))
 (.reg [i (.bin .add (e 12) (v (.int .i64 1)))] [(12,l 0)]))))
def l_qaf_1:ACode:=
 (.seq (.reg [i (.bin .lss (e 9) (e 8))] [(10,l 0)])
 (.seq (.cond (e 10) .skip (.exit 0))
 (.seq (.blk 1 (.seq (.reg [i (.idxs 1 (e 7) (e 9)),i (.load false 1 (l 0))] [(4,l 1)])
 (.seq (.reg [i (.call 38 [e 4,(v (.int .i64 17))] true)] [(5,l 0)])
 (.seq (.seq (.reg [i (.len (e 5))] [(11,l 0),(12,v (.int .i64 0))])
 (.blk 2 (.loop [6,13] l_qaf_0)))
 (.reg [i (.mkl 1 [e 5]),i (.app 1 (e 3) (l 0))] [(3,l 1)])))))
 (.reg [i (.bin .add (e 9) (v (.int .i64 1)))] [(9,l 0)]))))
def b_qaf:ACode:=
 (.seq (.reg [i (.mov (v (.nil0)))] [(2,l 0)])
 (.seq (.reg [i (.mknil 1)] [(3,l 0)])
 (.seq (.seq (.reg [i (.call 39 [e 0,e 1] false),i (.len (l 0))] [(7,l 0),(8,l 1),(9,v (.int .i64 0))])
 (.blk 0 (.loop [4,5,6,10,11,12,13] l_qaf_1)))
 (.seq (.reg [] [(2,e 3)])
 .ret))))
def f_qaf:AFunc:=⟨14,2,.pure,[.env 2],b_qaf⟩
def b_qz:ACode:=
 (.seq (.reg [i (.mov (v (.nil0)))] [(2,l 0)])
 (.seq (.reg [i (.mknil 2),i (.len (e 0)),i (.mins (l 1) [e 1]),i (.slice 2 (e 0) none (some (l 2))),i (.app 2 (l 0) (l 3))] [(2,l 4)])
 .ret))
def f_qz:AFunc:=⟨3,2,.pure,[.env 2],b_qz⟩
def b_qaz:ACode:=
 (.seq (.reg [i (.box 1 (e 1)),i (.mov (v (.nil0)))] [(3,l 0),(4,l 1),(5,v (.int .i64 0))])
 (.seq (.reg [i (.mkfn 43 [] [e 3])] [(6,l 0)])
 (.seq (.seq (.reg [i (.call 41 [e 0] false),i (.una .not (l 0)),g (l 1) false (.load false 1 (e 3)),g (l 1) false (.len (l 2)),g (l 1) false (.bin .gtr (l 3) (v (.int .i64 3))),i (.pick (l 1) (v (.bool true)) (l 4)),g (l 5) false (.mov (e 2)),g (l 5) false (.bin .lss (l 6) (v (.int .i64 (-1)))),i (.pick (l 5) (v (.bool true)) (l 7)),g (l 8) false (.mov (e 0)),g (l 8) false (.mov (e 6)),g (l 8) false (.call 42 [l 9,l 10] false),i (.pick (l 8) (v (.bool true)) (l 11))] [(7,l 12)])
 (.cond (e 7) (.seq (.reg [i (.mov (v (.nil0)))] [(4,l 0),(5,v (.int .i64 2))])
 .ret) .skip))
 (.seq (.reg [i (.load false 1 (e 3)),i (.call 40 [e 0,l 0,e 2] false)] [(4,l 1),(5,v (.int .i64 0))])
 .ret))))
def f_qaz:AFunc:=⟨8,3,.pure,[.env 4,.env 5],b_qaz⟩
def l_qah_0:ACode:=
 (.seq (.reg [i (.bin .lss (e 9) (e 8))] [(10,l 0)])
 (.seq (.cond (e 10) .skip (.exit 0))
 (.seq (.blk 1 (.seq (.reg [i (.idxs 1 (e 7) (e 9)),i (.load false 1 (l 0))] [(4,e 9),(5,l 1)])
 (.seq (.reg [] [(6,e 4)])
 (.seq (.seq (.reg [i (.len (e 1)),i (.bin .gtr (l 0) (v (.int .i64 0)))] [(11,l 1)])
 (.cond (e 11) (.reg [i (.len (e 1)),i (.bin .rem (e 4) (l 0)),i (.idxs 1 (e 1) (l 1)),i (.load false 1 (l 2))] [(6,l 3)]) .skip))
 (.reg [i (.conv .u64 (e 6)),i (.bin .rem (l 0) (v (.int .u64 4))),i (.conv .u64 (e 6)),i (.bin .rem (l 2) (v (.int .u64 4))),i (.idxs 1 (e 3) (l 3)),i (.load false 1 (l 4)),i (.mkl 1 [e 5]),i (.app 1 (l 5) (l 6)),i (.idxs 1 (e 3) (l 1)),i (.store 1 (l 8) (l 7))] [])))))
 (.reg [i (.bin .add (e 9) (v (.int .i64 1)))] [(9,l 0)]))))
def b_qah:ACode:=
 (.seq (.reg [i (.mov (v (.nil0)))] [(2,l 0)])
 (.seq (.reg [i (.make 1 (.nil0) (v (.int .i64 4)) (v (.int .i64 4)))] [(3,l 0)])
 (.seq (.seq (.lift 3 0 1 (.lift 3 1 1 (.lift 3 2 1 (.lift 3 3 1 (.reg [i (.len (e 0))] [(7,e 0),(8,l 0),(9,v (.int .i64 0))])))))
 (.blk 0 (.loop [4,5,6,10,11] l_qah_0)))
 (.seq (.reg [] [(2,e 3)])
 .ret))))
def f_qah:AFunc:=⟨12,2,.keep,[.env 2],b_qah⟩
def b_qu:ACode:=
 (.seq (.reg [] [(2,v (.bool false))])
 (.seq (.reg [i (.call 44 [e 0,e 1] false)] [(2,l 0)])
 .ret))
def f_qu:AFunc:=⟨3,2,.pure,[.env 2],b_qu⟩
def l_qad_0:ACode:=
 (.seq (.reg [i (.bin .lss (e 20) (e 19))] [(21,l 0)])
 (.seq (.cond (e 21) .skip (.exit 4))
 (.seq (.blk 5 (.seq (.reg [i (.idxs 1 (e 18) (e 20)),i (.load true 1 (l 0)),i (.box 1 (v (.agg [.nil0]))),i (.store 1 (l 2) (l 1))] [(9,l 2),(8,e 20)])
 (.reg [i (.fld 9 (e 5)),i (.load false 1 (l 0)),i (.load true 1 (e 9)),i (.call 45 [l 2] false),i (.idxs 1 (l 1) (e 8)),i (.store 1 (l 4) (l 3))] [])))
 (.reg [i (.bin .add (e 20) (v (.int .i64 1)))] [(20,l 0)]))))
def l_qad_1:ACode:=
 (.seq (.reg [i (.bin .lss (e 16) (e 15))] [(17,l 0)])
 (.seq (.cond (e 17) .skip (.exit 2))
 (.seq (.blk 3 (.seq (.reg [i (.idxs 2 (e 14) (e 16)),i (.load true 2 (l 0)),i (.box 2 (v (.agg [.int .i64 0,.nil0]))),i (.store 2 (l 2) (l 1))] [(7,l 2),(6,e 16)])
 (.reg [i (.fld 8 (e 5)),i (.load false 1 (l 0)),i (.fld 1 (e 7)),i (.load true 1 (l 2)),i (.call 45 [l 3] false),i (.idxs 2 (l 1) (e 6)),i (.fld 1 (l 5)),i (.store 1 (l 6) (l 4))] [])))
 (.reg [i (.bin .add (e 16) (v (.int .i64 1)))] [(16,l 0)]))))
def l_qad_2:ACode:=
 (.seq (.reg [i (.bin .lss (e 12) (e 11))] [(13,l 0)])
 (.seq (.cond (e 13) .skip (.exit 0))
 (.seq (.blk 1 (.seq (.reg [i (.idxs 12 (e 10) (e 12)),i (.load true 12 (l 0)),i (.box 12 (v (.agg [.int .i64 0,.int .i64 0,.int .i64 0,.int .i64 0,.nil0,.bool false,.nil0,.nil0,.nil0,.nil0,.nil0,.int .i64 0]))),i (.store 12 (l 2) (l 1))] [(5,l 2),(4,e 12)])
 (.seq (.regd [i (.fld 4 (e 5)),i (.load false 1 (l 0)),i (.call 46 [l 1,(v (.int .i64 17))] false),i (.fld 7 (e 5)),i (.load false 1 (l 3)),i (.call 46 [l 4,(v (.int .i64 6))] false),i (.fld 8 (e 5)),i (.load false 1 (l 6)),i (.call 47 [l 7,(v (.int .i64 14))] false),i (.fld 9 (e 5)),i (.load false 1 (l 9)),i (.call 48 [l 10,(v (.int .i64 17))] false),i (.fld 10 (e 5)),i (.load false 1 (l 12)),i (.call 10 [l 13,(v (.int .i64 5))] false),i (.fld 4 (e 5)),i (.store 1 (l 15) (l 2)),i (.fld 7 (e 5)),i (.store 1 (l 17) (l 5)),i (.fld 8 (e 5)),i (.store 1 (l 19) (l 8)),i (.fld 9 (e 5)),i (.store 1 (l 21) (l 11)),i (.fld 10 (e 5)),i (.store 1 (l 23) (l 14))] [] [(9,0),(10,0),(12,0),(12,9),(13,0),(13,9),(15,0),(15,9)])
 (.seq (.seq (.reg [i (.fld 8 (e 5)),i (.load false 1 (l 0)),i (.len (l 1))] [(14,l 1),(15,l 2),(16,v (.int .i64 0))])
 (.blk 2 (.loop [6,7,17] l_qad_1)))
 (.seq (.seq (.reg [i (.fld 9 (e 5)),i (.load false 1 (l 0)),i (.len (l 1))] [(18,l 1),(19,l 2),(20,v (.int .i64 0))])
 (.blk 4 (.loop [8,9,21] l_qad_0)))
 (.seq (.reg [i (.fld 6 (e 5)),i (.load true 1 (l 0)),i (.call 45 [l 1] false),i (.fld 6 (e 5)),i (.store 1 (l 3) (l 2))] [])
 (.reg [i (.load true 12 (e 5)),i (.idxs 12 (e 3) (e 4)),i (.store 12 (l 1) (l 0))] [])))))))
 (.reg [i (.bin .add (e 12) (v (.int .i64 1)))] [(12,l 0)]))))
def b_qad:ACode:=
 (.seq (.reg [i (.mov (v (.nil0)))] [(2,l 0)])
 (.seq (.reg [i (.call 49 [e 0,e 1] false)] [(3,l 0)])
 (.seq (.seq (.reg [i (.len (e 3))] [(10,e 3),(11,l 0),(12,v (.int .i64 0))])
 (.blk 0 (.loop [4,5,6,7,8,9,13,14,15,16,17,18,19,20,21] l_qad_2)))
 (.seq (.reg [] [(2,e 3)])
 .ret))))
def f_qad:AFunc:=⟨22,2,.pure,[.env 2],b_qad⟩
def b_qbn:ACode:=
 (.seq (.reg [i (.box 12 (e 0)),i (.mov (v (.nil0)))] [(2,l 0),(3,l 1),(4,v (.int .i64 0))])
 (.seq (.seq (.reg [i (.load true 12 (e 2)),i (.call 51 [l 0,(v (.int .i64 10)),e 1] false),i (.una .not (l 1))] [(5,l 2)])
 (.cond (e 5) (.seq (.reg [i (.mov (v (.nil0)))] [(3,l 0),(4,v (.int .i64 2))])
 .ret) .skip))
 (.seq (.reg [i (.load true 12 (e 2)),i (.call 50 [l 0,e 1] false),i (.ext 0 (l 1)),i (.ext 1 (l 1))] [(3,l 2),(4,l 3)])
 .ret)))
def f_qbn:AFunc:=⟨6,2,.pure,[.env 3,.env 4],b_qbn⟩
def b_qbm:ACode:=
 (.seq (.reg [i (.box 12 (e 0)),i (.mov (v (.nil0)))] [(2,l 0),(3,l 1),(4,v (.int .i64 0))])
 (.seq (.seq (.reg [i (.load true 12 (e 2)),i (.call 51 [l 0,(v (.int .i64 11)),e 1] false),i (.una .not (l 1))] [(5,l 2)])
 (.cond (e 5) (.seq (.reg [i (.mov (v (.nil0)))] [(3,l 0),(4,v (.int .i64 2))])
 .ret) .skip))
 (.seq (.reg [i (.load true 12 (e 2)),i (.call 52 [l 0,e 1] false),i (.ext 0 (l 1)),i (.ext 1 (l 1))] [(3,l 2),(4,l 3)])
 .ret)))
def f_qbm:AFunc:=⟨6,2,.pure,[.env 3,.env 4],b_qbm⟩
def l_qal_0:ACode:=
 (.seq (.seq (.reg [i (.len (e 0)),i (.bin .lss (e 3) (l 0))] [(5,l 1)])
 (.cond (e 5) .skip (.exit 0)))
 (.seq (.blk 1 (.seq (.reg [i (.idxs 1 (e 0) (e 3)),i (.load false 1 (l 0)),i (.idxs 1 (e 1) (e 3)),i (.load false 1 (l 2)),i (.call 60 [l 1,l 3] false),i (.bin .neq (l 4) (v (.int .i64 0)))] [(6,l 5)])
 (.cond (e 6) (.seq (.reg [] [(2,v (.bool false))])
 .ret) .skip)))
 (.reg [i (.bin .add (e 3) (v (.int .i64 1)))] [(3,l 0)])))
def b_qal:ACode:=
 (.seq (.reg [] [(2,v (.bool false))])
 (.seq (.seq (.reg [i (.len (e 0)),i (.len (e 1)),i (.bin .neq (l 0) (l 1))] [(4,l 2)])
 (.cond (e 4) (.seq (.reg [] [(2,v (.bool false))])
 .ret) .skip))
 (.seq (.seq (.reg [] [(3,v (.int .i64 0))])
 (.blk 0 (.loop [2,5,6] l_qal_0)))
 (.seq (.reg [] [(2,v (.bool true))])
 .ret))))
def f_qal:AFunc:=⟨7,2,.pure,[.env 2],b_qal⟩
def q_row_Groups_0:ACode:=
 (.blk 1 (.regd [i (.load false 1 (e 8)),i (.idxs 1 (e 9) (v (.int .i64 0))),i (.load false 1 (l 1)),i (.load false 1 (e 2)),i (.call 61 [l 2,l 3] false),i (.call 62 [e 9] true),i (.build [.nil0,.nil0] [(0,1,(l 4)),(1,1,(l 5))]),i (.mkl 2 [l 6]),i (.app 2 (l 0) (l 7)),i (.store 1 (e 8) (l 8))] [] [(0,6)]))
def q_row_Groups_0p:ACode:=
 (.reg [] [(9,e 12)])
def b_qeq:ACode:=
 (.seq (.reg [i (.box 1 (e 1)),i (.mov (v (.nil0)))] [(2,l 0),(3,l 1),(4,v (.int .i64 0))])
 (.seq (.seq (.reg [i (.load false 1 (e 2)),i (.call 69 [e 0,l 0] false)] [(5,l 1)])
 (.seq (.reg [i (.bin .neq (e 5) (v (.int .i64 0)))] [(10,l 0)])
 (.cond (e 10) (.seq (.reg [i (.mov (v (.nil0)))] [(3,l 0),(4,e 5)])
 .ret) .skip)))
 (.seq (.reg [i (.call 68 [e 0] true)] [(6,l 0)])
 (.seq (.reg [i (.mkfn 66 [] [e 2]),i (.call 67 [e 6,l 0] false)] [])
 (.seq (.reg [i (.mkfn 65 [] [e 2])] [(7,l 0)])
 (.seq (.reg [i (.box 1 (v (.nil0)))] [(8,l 0)])
 (.seq (.seq (.lift 8 0 2 (.reg [i (.call 64 [e 6,e 7] false)] [(11,l 0)]))
 (.blk 0 (.rng 13 (e 11) 63)))
 (.seq (.reg [i (.load false 1 (e 8))] [(3,l 0),(4,v (.int .i64 0))])
 .ret))))))))
def f_qeq:AFunc:=⟨13,2,.pure,[.env 3,.env 4],b_qeq⟩
def r_row_Groups_0:ARound:=⟨13,[12],q_row_Groups_0p,q_row_Groups_0⟩
def b_qay:ACode:=
 (.seq (.reg [i (.box 2 (e 0)),i (.box 4 (v (.agg [.int .i64 0,.int .i64 0,.int .u64 0,.str []])))] [(2,l 0),(3,l 1),(4,v (.int .i64 0))])
 (.seq (.reg [i (.fld 0 (e 2)),i (.load false 1 (l 0)),i (.bin .geq (l 1) (v (.int .i64 1))),g (l 2) true (.fld 0 (e 2)),g (l 2) true (.load false 1 (l 3)),g (l 2) true (.bin .leq (l 4) (v (.int .i64 5))),i (.pick (l 2) (l 5) (v (.bool false))),g (l 6) true (.mov (e 1)),g (l 6) true (.call 41 [l 7] false),i (.pick (l 6) (l 8) (v (.bool false)))] [(5,l 9)])
 (.seq (.seq (.reg [i (.fld 0 (e 2)),i (.load false 1 (l 0)),i (.bin .eql (l 1) (v (.int .i64 1)))] [(6,l 2)])
 (.cond (e 6) (.reg [g (e 5) true (.fld 1 (e 2)),g (e 5) true (.fld 0 (l 0)),g (e 5) true (.load false 1 (l 1)),g (e 5) true (.len (l 2)),g (e 5) true (.bin .eql (l 3) (v (.int .i64 0))),i (.pick (e 5) (l 4) (v (.bool false)))] [(5,l 5)]) (.reg [g (e 5) true (.fld 1 (e 2)),g (e 5) true (.load true 1 (l 0)),g (e 5) true (.call 71 [l 1] false),g (e 5) true (.bin .eql (l 2) (v (.int .i64 0))),i (.pick (e 5) (l 3) (v (.bool false)))] [(5,l 4)])))
 (.seq (.seq (.reg [i (.una .not (e 5))] [(7,l 0)])
 (.cond (e 7) (.seq (.reg [i (.build [.int .i64 0,.int .i64 0,.int .u64 0,.str []] []),i (.store 4 (e 3) (l 0))] [(4,v (.int .i64 2))])
 .ret) .skip))
 (.seq (.reg [i (.load true 2 (e 2)),i (.call 70 [l 0,e 1] false),i (.ext 0 (l 1)),i (.ext 1 (l 1)),i (.store 4 (e 3) (l 2))] [(4,l 3)])
 .ret)))))
def f_qay:AFunc:=⟨8,2,.pure,[.cell true 4 3,.env 4],b_qay⟩
def b_qeu:ACode:=
 (.seq (.reg [i (.mov (v (.nil0)))] [(1,l 0),(2,v (.int .i64 0))])
 (.seq (.seq (.reg [i (.mkl 1 [e 0]),i (.call 79 [l 0] false)] [(3,l 1)])
 (.seq (.reg [i (.bin .neq (e 3) (v (.int .i64 0)))] [(4,l 0)])
 (.cond (e 4) (.seq (.reg [i (.mov (v (.nil0)))] [(1,l 0),(2,e 3)])
 .ret) .skip)))
 (.seq (.reg [i (.call 80 [e 0] true)] [(1,l 0),(2,v (.int .i64 0))])
 .ret)))
def f_qeu:AFunc:=⟨5,1,.pure,[.env 1,.env 2],b_qeu⟩
def b_qaj:ACode:=
 (.seq (.reg [i (.box 4 (v (.agg [.int .i64 0,.int .i64 0,.int .u64 0,.str []])))] [(1,l 0)])
 (.seq (.reg [i (.build [.int .i64 0,.int .i64 0,.int .u64 0,.str []] [(0,1,v (.int .i64 2)),(1,1,(e 0))]),i (.store 4 (e 1) (l 0))] [])
 .ret))
def f_qaj:AFunc:=⟨2,1,.pure,[.cell true 4 1],b_qaj⟩
def l_qdt_0:ACode:=
 (.seq (.reg [i (.bin .lss (e 21) (e 20))] [(22,l 0)])
 (.seq (.cond (e 22) .skip (.exit 2))
 (.seq (.blk 3 (.seq (.reg [i (.idxs 1 (e 19) (e 21)),i (.load false 1 (l 0))] [(10,l 1)])
 (.reg [i (.call 95 [e 10] true),i (.mkl 1 [l 0]),i (.app 1 (e 9) (l 1))] [(9,l 2)])))
 (.reg [i (.bin .add (e 21) (v (.int .i64 1)))] [(21,l 0)]))))
def l_qdt_1:ACode:=
 (.seq (.reg [i (.bin .lss (e 14) (e 13))] [(15,l 0)])
 (.seq (.cond (e 15) .skip (.exit 0))
 (.seq (.blk 1 (.seq (.reg [i (.idxs 12 (e 12) (e 14)),i (.load true 12 (l 0)),i (.box 12 (v (.agg [.int .i64 0,.int .i64 0,.int .i64 0,.int .i64 0,.nil0,.bool false,.nil0,.nil0,.nil0,.nil0,.nil0,.int .i64 0]))),i (.store 12 (l 2) (l 1))] [(8,l 2),(7,e 14)])
 (.seq (.reg [i (.fld 0 (e 8)),i (.load false 1 (l 0)),i (.look (.nilf) false (e 5) (l 1)),i (.call 96 [e 4,e 7,l 2] false),i (.una .not (l 3))] [(16,l 4)])
 (.cond (e 16) (.seq (.reg [] [(6,e 7)])
 (.exit 0)) .skip))))
 (.reg [i (.bin .add (e 14) (v (.int .i64 1)))] [(14,l 0)]))))
def b_qdt:ACode:=
 (.seq (.reg [i (.mov (v (.nil0)))] [(1,l 0),(2,v (.int .i64 0)),(3,v (.int .i64 0))])
 (.scope (.seq (.seq (.reg [i (.len (e 0)),i (.bin .lss (l 0) (v (.int .i64 1))),g (l 1) false (.mov (e 0)),g (l 1) false (.len (l 2)),g (l 1) false (.bin .gtr (l 3) (v (.int .i64 60))),i (.pick (l 1) (v (.bool true)) (l 4))] [(11,l 5)])
 (.cond (e 11) (.seq (.reg [i (.mov (v (.nil0)))] [(1,l 0),(2,v (.int .i64 0)),(3,v (.int .i64 291))])
 .ret) .skip))
 (.seq (.reg [i (.build [.nil0,.nil0,.nil0,.int .i64 0,.int .i64 0,.int .i64 0,.int .i64 0,.nil0,.bool false,.nil0,.nil0,.nil0,.nil0,.nil0,.int .i64 0,.nil0,.nil0,.nil0] [(0,1,(e 0))]),i (.box 18 (l 0))] [(4,l 1)])
 (.seq (.lift 4 1 1 (.lift 4 2 1 (.reg [i (.call 97 [] false)] [(5,l 0)])))
 (.seq (.reg [] [(6,v (.int .i64 (-1)))])
 (.seq (.seq (.reg [i (.len (e 0))] [(12,e 0),(13,l 0),(14,v (.int .i64 0))])
 (.blk 0 (.loop [7,8,15,16] l_qdt_1)))
 (.seq (.seq (.reg [i (.bin .lss (e 6) (v (.int .i64 0))),g (l 0) true (.mov (e 4)),g (l 0) true (.nilck (l 1)),g (l 0) true (.fld 2 (l 2)),g (l 0) true (.load false 1 (l 3)),g (l 0) true (.len (l 4)),g (l 0) true (.bin .neq (l 5) (v (.int .i64 1))),i (.pick (l 0) (l 6) (v (.bool false)))] [(17,l 7)])
 (.cond (e 17) (.reg [i (.len (e 0)),i (.bin .sub (l 0) (v (.int .i64 1)))] [(6,l 1)]) .skip))
 (.seq (.seq (.reg [i (.bin .geq (e 6) (v (.int .i64 0)))] [(18,l 0)])
 (.cond (e 18) (.seq (.reg [i (.mov (v (.nil0)))] [(1,l 0),(2,e 6),(3,v (.int .i64 291))])
 .ret) .skip))
 (.seq (.reg [i (.mknil 1)] [(9,l 0)])
 (.seq (.seq (.reg [i (.nilck (e 4)),i (.fld 1 (l 0)),i (.load false 1 (l 1)),i (.len (l 2))] [(19,l 2),(20,l 3),(21,v (.int .i64 0))])
 (.blk 2 (.loop [10,22] l_qdt_0)))
 (.seq (.reg [] [(1,e 9),(2,v (.int .i64 0)),(3,v (.int .i64 0))])
 .ret))))))))))))
def f_qdt:AFunc:=⟨23,1,.pure,[.env 1,.env 2,.env 3],b_qdt⟩
def b_qcm:ACode:=
 (.seq (.reg [i (.box 12 (e 1)),i (.mov (v (.nil0)))] [(2,l 0),(3,l 1),(4,v (.bool false))])
 (.seq (.reg [i (.nilck (e 0)),i (.fld 4 (l 0)),i (.load false 1 (l 1))] [(5,l 2)])
 (.seq (.seq (.reg [i (.fld 0 (e 2)),i (.load false 1 (l 0)),i (.bin .eql (l 1) (v (.int .i64 9)))] [(6,l 2)])
 (.cond (e 6) (.reg [i (.nilck (e 0)),i (.fld 5 (l 0)),i (.load false 1 (l 1))] [(5,l 2)]) .skip))
 (.seq (.seq (.reg [i (.fld 3 (e 2)),i (.load false 1 (l 0)),i (.len (e 5)),i (.bin .geq (l 1) (l 2)),g (l 3) false (.mov (e 5)),g (l 3) false (.fld 3 (e 2)),g (l 3) false (.load false 1 (l 5)),g (l 3) false (.idxs 1 (l 4) (l 6)),g (l 3) false (.load false 1 (l 7)),g (l 3) false (.fld 4 (e 2)),g (l 3) false (.load false 1 (l 9)),g (l 3) false (.call 75 [l 8,l 10] false),g (l 3) false (.una .not (l 11)),i (.pick (l 3) (v (.bool true)) (l 12))] [(7,l 13)])
 (.cond (e 7) (.seq (.reg [i (.mov (v (.nil0)))] [(3,l 0),(4,v (.bool false))])
 .ret) .skip))
 (.seq (.reg [i (.fld 3 (e 2)),i (.load false 1 (l 0)),i (.idxs 1 (e 5) (l 1)),i (.load false 1 (l 2))] [(3,l 3),(4,v (.bool true))])
 .ret)))))
def f_qcm:AFunc:=⟨8,2,.keep,[.env 3,.env 4],b_qcm⟩
def b_qbr:ACode:=
 (.seq (.reg [] [(0,v (.nilm))])
 (.seq (.reg [i (.mkmap),i (.mput (l 0) (v (.int .i64 1)) (v (.fn 98 [] []))),i (.mput (l 0) (v (.int .i64 9)) (v (.fn 98 [] []))),i (.mput (l 0) (v (.int .i64 2)) (v (.fn 99 [] []))),i (.mput (l 0) (v (.int .i64 3)) (v (.fn 100 [] []))),i (.mput (l 0) (v (.int .i64 5)) (v (.fn 101 [] []))),i (.mput (l 0) (v (.int .i64 4)) (v (.fn 102 [] []))),i (.mput (l 0) (v (.int .i64 10)) (v (.fn 103 [] []))),i (.mput (l 0) (v (.int .i64 11)) (v (.fn 104 [] []))),i (.mput (l 0) (v (.int .i64 6)) (v (.fn 105 [] []))),i (.mput (l 0) (v (.int .i64 7)) (v (.fn 106 [] []))),i (.mput (l 0) (v (.int .i64 8)) (v (.fn 107 [] [])))] [(0,l 0)])
 .ret))
def f_qbr:AFunc:=⟨1,0,.pure,[.env 0],b_qbr⟩
def b_qaa:ACode:=
 (.seq (.reg [i (.mov (v (.nil0)))] [(2,l 0)])
 (.seq (.reg [i (.mknil 1),i (.len (e 0)),i (.mins (l 1) [e 1]),i (.slice 1 (e 0) none (some (l 2))),i (.app 1 (l 0) (l 3))] [(2,l 4)])
 .ret))
def f_qaa:AFunc:=⟨3,2,.keep,[.env 2],b_qaa⟩
def b_qab:ACode:=
 (.seq (.reg [i (.mov (v (.nil0)))] [(2,l 0)])
 (.seq (.reg [i (.mknil 4),i (.len (e 0)),i (.mins (l 1) [e 1]),i (.slice 4 (e 0) none (some (l 2))),i (.app 4 (l 0) (l 3))] [(2,l 4)])
 .ret))
def f_qab:AFunc:=⟨3,2,.fresh 4,[.env 2],b_qab⟩
def b_qba:ACode:=
 (.seq (.reg [] [(2,v (.bool false))])
 (.seq (.reg [i (.load false 1 (e 1)),i (.call 108 [e 0,l 0] false),i (.una .not (l 1))] [(2,l 2)])
 .ret))
def f_qba:AFunc:=⟨3,2,.pure,[.env 2],b_qba⟩
def b_qbg:ACode:=
 (.seq (.reg [i (.box 1 (e 0))] [(2,l 0),(3,v (.bool false))])
 (.seq (.reg [i (.mkfn 109 [] [e 2]),i (.call 110 [e 1,l 0] false),i (.una .not (l 1))] [(3,l 2)])
 .ret))
def f_qbg:AFunc:=⟨4,2,.pure,[.env 3],b_qbg⟩
def b_qbi:ACode:=
 (.seq (.reg [] [(1,v (.bool false))])
 (.seq (.reg [i (.mov (v (.fn 111 [] [])))] [(2,l 0)])
 (.seq (.reg [i (.len (e 0)),i (.bin .leq (l 0) (v (.int .i64 8000))),g (l 1) true (.mov (e 0)),g (l 1) true (.mov (e 2)),g (l 1) true (.call 42 [l 2,l 3] false),g (l 1) true (.una .not (l 4)),i (.pick (l 1) (l 5) (v (.bool false)))] [(1,l 6)])
 .ret)))
def f_qbi:AFunc:=⟨3,1,.pure,[.env 1],b_qbi⟩
def b_qfv:ACode:=
 (.seq (.reg [] [(2,v (.bool false))])
 (.seq (.reg [i (.call 112 [e 0,e 1] false),i (.bin .geq (l 0) (v (.int .i64 0)))] [(2,l 1)])
 .ret))
def f_qfv:AFunc:=⟨3,2,.pure,[.env 2],b_qfv⟩
def l_qbk_0:ACode:=
 (.seq (.reg [i (.bin .lss (e 8) (e 7))] [(9,l 0)])
 (.seq (.cond (e 9) .skip (.exit 0))
 (.seq (.blk 1 (.seq (.reg [i (.idxs 1 (e 6) (e 8)),i (.load false 1 (l 0))] [(5,l 1)])
 (.reg [i (.call 114 [e 5] true),i (.mkl 1 [l 0]),i (.app 1 (e 4) (l 1))] [(4,l 2)])))
 (.reg [i (.bin .add (e 8) (v (.int .i64 1)))] [(8,l 0)]))))
def b_qbk:ACode:=
 (.seq (.reg [i (.mov (v (.nil0)))] [(3,l 0)])
 (.seq (.reg [i (.mknil 1)] [(4,l 0)])
 (.seq (.seq (.reg [i (.len (e 0))] [(6,e 0),(7,l 0),(8,v (.int .i64 0))])
 (.blk 0 (.loop [5,9] l_qbk_0)))
 (.seq (.reg [i (.call 113 [e 1] false),i (.call 67 [e 4,l 0] false)] [])
 (.seq (.seq (.reg [i (.bin .geq (e 2) (v (.int .i64 0))),g (l 0) true (.mov (e 2)),g (l 0) true (.mov (e 4)),g (l 0) true (.len (l 2)),g (l 0) true (.bin .lss (l 1) (l 3)),i (.pick (l 0) (l 4) (v (.bool false)))] [(10,l 5)])
 (.cond (e 10) (.reg [i (.slice 1 (e 4) none (some (e 2)))] [(4,l 0)]) .skip))
 (.seq (.reg [] [(3,e 4)])
 .ret))))))
def f_qbk:AFunc:=⟨11,3,.pure,[.env 3],b_qbk⟩
def b_qet:ACode:=
 (.seq (.reg [] [(2,v (.bool false))])
 (.seq (.reg [i (.call 115 [e 0,e 1,(v (.fn 116 [] []))] false)] [(2,l 0)])
 .ret))
def f_qet:AFunc:=⟨3,2,.pure,[.env 2],b_qet⟩
def b_qy:ACode:=
 (.seq (.reg [i (.mov (v (.nil0)))] [(2,l 0)])
 (.seq (.reg [i (.mknil 12),i (.len (e 0)),i (.mins (l 1) [e 1]),i (.slice 12 (e 0) none (some (l 2))),i (.app 12 (l 0) (l 3))] [(2,l 4)])
 .ret))
def f_qy:AFunc:=⟨3,2,.keep,[.env 2],b_qy⟩
def b_qac:ACode:=
 (.seq (.reg [i (.mov (v (.nil0)))] [(2,l 0)])
 (.seq (.reg [i (.mknil 1),i (.len (e 0)),i (.mins (l 1) [e 1]),i (.slice 1 (e 0) none (some (l 2))),i (.app 1 (l 0) (l 3))] [(2,l 4)])
 .ret))
def f_qac:AFunc:=⟨3,2,.pure,[.env 2],b_qac⟩
def b_qv:ACode:=
 (.seq (.reg [i (.mov (v (.nil0)))] [(2,l 0)])
 (.seq (.reg [i (.mknil 2),i (.len (e 0)),i (.mins (l 1) [e 1]),i (.slice 2 (e 0) none (some (l 2))),i (.app 2 (l 0) (l 3))] [(2,l 4)])
 .ret))
def f_qv:AFunc:=⟨3,2,.keep,[.env 2],b_qv⟩
def b_qx:ACode:=
 (.seq (.reg [i (.mov (v (.nil0)))] [(2,l 0)])
 (.seq (.reg [i (.mknil 1),i (.len (e 0)),i (.mins (l 1) [e 1]),i (.slice 1 (e 0) none (some (l 2))),i (.app 1 (l 0) (l 3))] [(2,l 4)])
 .ret))
def f_qx:AFunc:=⟨3,2,.keep,[.env 2],b_qx⟩
def l_qag_0:ACode:=
 (.seq (.reg [i (.bin .lss (e 7) (e 6))] [(8,l 0)])
 (.seq (.cond (e 8) .skip (.exit 0))
 (.seq (.blk 1 (.seq (.reg [] [(4,e 7)])
 (.seq (.reg [i (.fld 0 (e 3)),i (.load false 1 (l 0)),i (.idxs 8 (l 1) (e 4)),i (.fld 4 (l 2)),i (.fld 3 (l 3))] [(5,l 4)])
 (.reg [i (.nilck (e 5)),i (.load false 1 (l 0)),i (.nilck (e 5)),i (.load false 1 (l 2)),i (.lent (l 3)),i (.mins (l 4) [(v (.int .i64 41))]),i (.slicet (l 1) none (some (l 5))),i (.nilck (e 5)),i (.store 1 (l 7) (l 6))] []))))
 (.reg [i (.bin .add (e 7) (v (.int .i64 1)))] [(7,l 0)]))))
def b_qag:ACode:=
 (.seq (.reg [i (.box 1 (e 0)),i (.box 1 (v (.agg [.nil0])))] [(1,l 0),(2,l 1)])
 (.seq (.reg [i (.fld 0 (e 1)),i (.load false 1 (l 0)),i (.call 117 [l 1,(v (.int .i64 60))] true),i (.build [.nil0] [(0,1,(l 2))]),i (.box 1 (v (.agg [.nil0]))),i (.store 1 (l 4) (l 3))] [(3,l 4)])
 (.seq (.seq (.reg [i (.fld 0 (e 3)),i (.load false 1 (l 0)),i (.len (l 1))] [(6,l 2),(7,v (.int .i64 0))])
 (.blk 0 (.loop [4,5,8] l_qag_0)))
 (.seq (.reg [i (.load true 1 (e 3)),i (.store 1 (e 2) (l 0))] [])
 .ret))))
def f_qag:AFunc:=⟨9,1,.pure,[.cell true 1 2],b_qag⟩
def l_qbp_0:ACode:=
 (.seq (.reg [i (.bin .lss (e 11) (e 10))] [(12,l 0)])
 (.seq (.cond (e 12) .skip (.exit 0))
 (.seq (.blk 1 (.seq (.reg [i (.box 1 (v (.int .i64 0))),i (.store 1 (l 0) (e 11))] [(6,l 0)])
 (.seq (.reg [i (.mkfn 118 [] [e 6]),i (.call 112 [e 2,l 0] false)] [(7,l 1)])
 (.seq (.reg [i (.bin .geq (e 7) (v (.int .i64 0)))] [(13,l 0)])
 (.cond (e 13) (.reg [i (.load false 1 (e 6)),i (.idxs 1 (e 2) (e 7)),i (.load false 1 (l 1)),i (.load false 1 (e 6)),i (.idxs 4 (l 2) (l 3)),i (.fld 0 (l 4)),i (.load false 1 (l 5)),i (.idxs 1 (e 5) (l 0)),i (.store 1 (l 7) (l 6))] []) .skip)))))
 (.reg [i (.bin .add (e 11) (v (.int .i64 1)))] [(11,l 0)]))))
def b_qbp:ACode:=
 (.seq (.reg [i (.box 12 (e 0))] [(3,l 0),(4,v (.bool false))])
 (.seq (.seq (.reg [i (.fld 0 (e 3)),i (.load false 1 (l 0)),i (.bin .neq (l 1) (e 1)),g (l 2) false (.mov (e 2)),g (l 2) false (.len (l 3)),g (l 2) false (.bin .eql (l 4) (v (.int .i64 0))),i (.pick (l 2) (v (.bool true)) (l 5)),g (l 6) false (.mov (e 2)),g (l 6) false (.len (l 7)),g (l 6) false (.bin .gtr (l 8) (v (.int .i64 8000))),i (.pick (l 6) (v (.bool true)) (l 9))] [(9,l 10)])
 (.cond (e 9) (.seq (.reg [] [(4,v (.bool false))])
 .ret) .skip))
 (.seq (.reg [i (.idxs 1 (e 2) (v (.int .i64 0))),i (.load false 1 (l 0)),i (.len (l 1)),i (.make 1 (.int .i64 0) (l 2) (l 2))] [(5,l 3)])
 (.seq (.seq (.reg [i (.len (e 5))] [(10,l 0),(11,v (.int .i64 0))])
 (.blk 0 (.loop [6,7,12,13] l_qbp_0)))
 (.seq (.reg [i (.fld 1 (e 3)),i (.store 1 (l 0) (v (.int .i64 0))),i (.fld 2 (e 3)),i (.store 1 (l 2) (v (.int .i64 (-1))))] [])
 (.seq (.reg [i (.build [.int .i64 0,.int .i64 0,.int .i64 0,.int .i64 0,.nil0,.bool false,.nil0,.nil0,.nil0,.nil0,.nil0,.int .i64 0] [(0,1,v (.int .i64 9)),(1,1,v (.int .i64 (-1))),(2,1,v (.int .i64 (-1))),(4,1,(e 5))]),i (.load true 12 (e 3)),i (.mkl 12 [l 0,l 1]),i (.call 37 [l 2] false),i (.ext 0 (l 3)),i (.ext 1 (l 3)),i (.ext 2 (l 3))] [(8,l 6)])
 (.seq (.reg [i (.bin .eql (e 8) (v (.int .i64 0))),g (l 0) true (.mov (e 2)),g (l 0) true (.mov (e 5)),g (l 0) true (.call 75 [l 1,l 2] false),i (.pick (l 0) (l 3) (v (.bool false)))] [(4,l 4)])
 .ret)))))))
def f_qbp:AFunc:=⟨14,3,.pure,[.env 4],b_qbp⟩
def b_qce:ACode:=
 (.seq (.reg [i (.box 12 (e 0)),i (.mov (v (.nil0)))] [(2,l 0),(3,l 1),(4,v (.int .i64 0))])
 (.seq (.reg [i (.load true 12 (e 2)),i (.call 119 [e 1,l 0,(v (.bool false)),(v (.fn 120 [] []))] false),i (.ext 0 (l 1)),i (.ext 1 (l 1))] [(3,l 2),(4,l 3)])
 .ret))
def f_qce:AFunc:=⟨5,2,.pure,[.env 3,.env 4],b_qce⟩
def b_qbs:ACode:=
 (.seq (.reg [i (.box 12 (e 0)),i (.mov (v (.nil0)))] [(2,l 0),(3,l 1),(4,v (.int .i64 0))])
 (.seq (.reg [i (.load true 12 (e 2)),i (.mkfn 121 [] [e 2]),i (.call 119 [e 1,l 0,(v (.bool true)),l 1] false),i (.ext 0 (l 2)),i (.ext 1 (l 2))] [(3,l 3),(4,l 4)])
 .ret))
def f_qbs:AFunc:=⟨5,2,.pure,[.env 3,.env 4],b_qbs⟩
def l_qak_0:ACode:=
 (.seq (.seq (.reg [i (.len (e 0)),i (.bin .lss (e 3) (l 0)),g (l 1) true (.mov (e 3)),g (l 1) true (.mov (e 1)),g (l 1) true (.len (l 3)),g (l 1) true (.bin .lss (l 2) (l 4)),i (.pick (l 1) (l 5) (v (.bool false)))] [(5,l 6)])
 (.cond (e 5) .skip (.exit 0)))
 (.seq (.blk 1 (.seq (.reg [i (.idxs 4 (e 0) (e 3)),i (.load true 4 (l 0)),i (.idxs 4 (e 1) (e 3)),i (.load true 4 (l 2)),i (.call 136 [l 1,l 3] false)] [(4,l 4)])
 (.seq (.reg [i (.bin .neq (e 4) (v (.int .i64 0)))] [(6,l 0)])
 (.cond (e 6) (.seq (.reg [] [(2,e 4)])
 .ret) .skip))))
 (.reg [i (.bin .add (e 3) (v (.int .i64 1)))] [(3,l 0)])))
def b_qak:ACode:=
 (.seq (.reg [] [(2,v (.int .i64 0))])
 (.seq (.seq (.reg [] [(3,v (.int .i64 0))])
 (.blk 0 (.loop [2,4,5,6] l_qak_0)))
 (.seq (.seq (.reg [i (.len (e 0)),i (.len (e 1)),i (.bin .eql (l 0) (l 1))] [(7,l 2)])
 (.cond (e 7) (.seq (.reg [] [(2,v (.int .i64 0))])
 .ret) .skip))
 (.seq (.reg [i (.len (e 0)),i (.len (e 1)),i (.bin .lss (l 0) (l 1)),i (.call 137 [l 2] false)] [(2,l 3)])
 .ret))))
def f_qak:AFunc:=⟨8,2,.pure,[.env 2],b_qak⟩
def l_qev_0:ACode:=
 (.seq (.reg [i (.bin .lss (e 10) (e 9))] [(11,l 0)])
 (.seq (.cond (e 11) .skip (.exit 0))
 (.seq (.blk 1 (.seq (.reg [i (.idxs 1 (e 8) (e 10)),i (.load false 1 (l 0))] [(5,l 1)])
 (.seq (.reg [i (.call 138 [e 5,e 1] false),i (.una .not (l 0))] [(12,l 1)])
 (.cond (e 12) (.seq (.reg [] [(2,v (.int .i64 2))])
 .ret) .skip))))
 (.reg [i (.bin .add (e 10) (v (.int .i64 1)))] [(10,l 0)]))))
def b_qev:ACode:=
 (.seq (.reg [] [(2,v (.int .i64 0))])
 (.seq (.seq (.reg [i (.mkl 1 [e 0]),i (.call 79 [l 0] false)] [(3,l 1)])
 (.seq (.reg [i (.bin .neq (e 3) (v (.int .i64 0)))] [(6,l 0)])
 (.cond (e 6) (.seq (.reg [] [(2,e 3)])
 .ret) .skip)))
 (.seq (.reg [i (.mov (v (.fn 139 [] [])))] [(4,l 0)])
 (.seq (.seq (.reg [i (.len (e 1)),i (.bin .gtr (l 0) (v (.int .i64 16))),g (l 1) false (.mov (e 1)),g (l 1) false (.mov (e 4)),g (l 1) false (.call 77 [l 2,l 3] false),i (.pick (l 1) (v (.bool true)) (l 4))] [(7,l 5)])
 (.cond (e 7) (.seq (.reg [] [(2,v (.int .i64 2))])
 .ret) .skip))
 (.seq (.seq (.reg [i (.len (e 0))] [(8,e 0),(9,l 0),(10,v (.int .i64 0))])
 (.blk 0 (.loop [2,5,11,12] l_qev_0)))
 (.seq (.reg [] [(2,v (.int .i64 0))])
 .ret))))))
def f_qev:AFunc:=⟨13,2,.pure,[.env 2],b_qev⟩
def l_qex_0:ACode:=
 (.seq (.reg [i (.bin .lss (e 6) (e 5))] [(7,l 0)])
 (.seq (.cond (e 7) .skip (.exit 0))
 (.seq (.blk 1 (.seq (.reg [i (.idxs 1 (e 4) (e 6)),i (.load false 1 (l 0))] [(3,l 1)])
 (.reg [i (.call 114 [e 3] true),i (.mkl 1 [l 0]),i (.app 1 (e 2) (l 1))] [(2,l 2)])))
 (.reg [i (.bin .add (e 6) (v (.int .i64 1)))] [(6,l 0)]))))
def b_qex:ACode:=
 (.seq (.reg [i (.mov (v (.nil0)))] [(1,l 0)])
 (.seq (.reg [i (.mknil 1)] [(2,l 0)])
 (.seq (.seq (.reg [i (.len (e 0))] [(4,e 0),(5,l 0),(6,v (.int .i64 0))])
 (.blk 0 (.loop [3,7] l_qex_0)))
 (.seq (.reg [] [(1,e 2)])
 .ret))))
def f_qex:AFunc:=⟨8,1,.fresh 1,[.env 1],b_qex⟩
def b_qer:ACode:=
 (.seq (.reg [] [(3,v (.int .i64 0))])
 (.seq (.reg [i (.load false 1 (e 2)),i (.call 61 [e 0,l 0] false),i (.load false 1 (e 2)),i (.call 61 [e 1,l 2] false),i (.call 140 [l 1,l 3] false),i (.call 140 [e 0,e 1] false),i (.mkl 1 [l 4,l 5]),i (.call 141 [l 6] false)] [(3,l 7)])
 .ret))
def f_qer:AFunc:=⟨4,3,.pure,[.env 3],b_qer⟩
def l_qat_0:ACode:=
 (.seq (.reg [i (.bin .lss (e 6) (e 5))] [(7,l 0)])
 (.seq (.cond (e 7) .skip (.exit 0))
 (.seq (.blk 1 (.seq (.reg [i (.idxs 1 (e 4) (e 6)),i (.load false 1 (l 0))] [(3,l 1)])
 (.seq (.reg [i (.bin .neq (e 3) (e 2))] [(8,l 0)])
 (.cond (e 8) (.seq (.reg [] [(1,e 3)])
 .ret) .skip))))
 (.reg [i (.bin .add (e 6) (v (.int .i64 1)))] [(6,l 0)]))))
def b_qat:ACode:=
 (.seq (.reg [] [(1,v (.int .i64 0))])
 (.seq (.reg [] [(2,v (.int .i64 0))])
 (.seq (.seq (.reg [i (.len (e 0))] [(4,e 0),(5,l 0),(6,v (.int .i64 0))])
 (.blk 0 (.loop [1,3,7,8] l_qat_0)))
 (.seq (.reg [] [(1,e 2)])
 .ret))))
def f_qat:AFunc:=⟨9,1,.pure,[.env 1],b_qat⟩
def b_qfc:ACode:=
 (.seq (.reg [] [(2,v (.int .i64 0))])
 (.seq (.reg [i (.call 142 [e 0,e 1,(v (.fn 143 [] []))] false)] [(2,l 0)])
 .ret))
def f_qfc:AFunc:=⟨3,2,.pure,[.env 2],b_qfc⟩
def l_qfi_0:ACode:=
 (.seq (.reg [i (.bin .lss (e 7) (e 6))] [(8,l 0)])
 (.seq (.cond (e 8) .skip (.exit 0))
 (.seq (.blk 1 (.seq (.reg [i (.idxs 1 (e 5) (e 7)),i (.load false 1 (l 0))] [(4,l 1)])
 (.reg [i (.idxs 4 (e 0) (e 4)),i (.load true 4 (l 0)),i (.mkl 4 [l 1]),i (.app 4 (e 3) (l 2))] [(3,l 3)])))
 (.reg [i (.bin .add (e 7) (v (.int .i64 1)))] [(7,l 0)]))))
def b_qfi:ACode:=
 (.seq (.reg [i (.mov (v (.nil0)))] [(2,l 0)])
 (.seq (.reg [i (.mknil 4)] [(3,l 0)])
 (.seq (.seq (.reg [i (.len (e 1))] [(5,e 1),(6,l 0),(7,v (.int .i64 0))])
 (.blk 0 (.loop [4,8] l_qfi_0)))
 (.seq (.reg [] [(2,e 3)])
 .ret))))
def f_qfi:AFunc:=⟨9,2,.pure,[.env 2],b_qfi⟩
def b_qes:ACode:=
 (.seq (.reg [] [(3,v (.bool false))])
 (.seq (.reg [i (.load false 1 (e 2)),i (.call 61 [e 0,l 0] false),i (.load false 1 (e 2)),i (.call 61 [e 1,l 2] false),i (.call 116 [l 1,l 3] false)] [(3,l 4)])
 .ret))
def f_qes:AFunc:=⟨4,3,.pure,[.env 3],b_qes⟩
def b_qey:ACode:=
 (.seq (.reg [] [(2,v (.bool false))])
 (.seq (.reg [i (.call 144 [e 0,e 1] false)] [(2,l 0)])
 .ret))
def f_qey:AFunc:=⟨3,2,.pure,[.env 2],b_qey⟩
def b_qff:ACode:=
 (.seq (.reg [i (.box 1 (e 0)),i (.box 1 (e 1))] [(2,l 0),(3,l 1),(4,v (.nilf))])
 (.seq (.reg [i (.mkfn 145 [] [e 2,e 3])] [(4,l 0)])
 .ret))
def f_qff:AFunc:=⟨5,2,.keep,[.env 4],b_qff⟩
def b_qfk:ACode:=
 (.seq (.reg [i (.mov (v (.nil0)))] [(1,l 0)])
 (.seq (.seq (.reg [i (.nils false (e 0))] [(2,l 0)])
 (.cond (e 2) (.seq (.reg [i (.mov (v (.nil0)))] [(1,l 0)])
 .ret) .skip))
 (.seq (.reg [i (.mov (v .nil0)),i (.app 1 (l 0) (e 0))] [(1,l 1)])
 .ret)))
def f_qfk:AFunc:=⟨3,1,.fresh 1,[.env 1],b_qfk⟩
def b_qcu:ACode:=
 (.seq (.reg [i (.box 1 (e 0))] [(1,l 0),(2,v (.int .i64 0))])
 (.seq (.seq (.reg [i (.load true 1 (e 1)),i (.call 146 [l 0] false),i (.ext 0 (l 1)),i (.ext 1 (l 1))] [(3,l 3)])
 (.seq (.reg [i (.una .not (e 3))] [(4,l 0)])
 (.cond (e 4) (.seq (.reg [] [(2,v (.int .i64 200))])
 .ret) .skip)))
 (.seq (.reg [] [(2,v (.int .i64 0))])
 .ret)))
def f_qcu:AFunc:=⟨5,1,.pure,[.env 2],b_qcu⟩
def b_qbb:ACode:=
 (.seq (.reg [i (.box 2 (e 0)),i (.box 4 (v (.agg [.int .i64 0,.int .i64 0,.int .u64 0,.str []])))] [(2,l 0),(3,l 1),(4,v (.int .i64 0))])
 (.seq (.seq (.reg [i (.fld 0 (e 2)),i (.load false 1 (l 0)),i (.bin .eql (l 1) (v (.int .i64 1)))] [(8,l 2)])
 (.cond (e 8) (.seq (.reg [i (.len (e 1)),i (.call 149 [l 0] false),i (.store 4 (e 3) (l 1))] [(4,v (.int .i64 0))])
 .ret) .skip))
 (.seq (.reg [i (.load true 2 (e 2)),i (.call 154 [l 0,e 1] false),i (.ext 0 (l 1)),i (.ext 1 (l 1))] [(5,l 2),(6,l 3)])
 (.seq (.seq (.reg [i (.bin .eql (e 6) (v (.int .i64 2)))] [(9,l 0)])
 (.cond (e 9) (.seq (.reg [i (.build [.int .i64 0,.int .i64 0,.int .u64 0,.str []] []),i (.store 4 (e 3) (l 0))] [(4,e 6)])
 .ret) .skip))
 (.seq (.reg [i (.mov (v (.fn 153 [] [])))] [(7,l 0)])
 (.seq (.blk 0 (.seq (.reg [i (.fld 0 (e 2)),i (.load false 1 (l 0)),i (.bin .eql (l 1) (v (.int .i64 3))),g (l 2) true (.mov (e 5)),g (l 2) true (.mov (e 7)),g (l 2) true (.call 152 [l 3,l 4] false),i (.pick (l 2) (l 5) (v (.bool false)))] [(10,l 6)])
 (.cond (e 10) (.seq (.reg [i (.build [.int .i64 0,.int .i64 0,.int .u64 0,.str []] []),i (.store 4 (e 3) (l 0))] [(4,v (.int .i64 2))])
 .ret) (.seq (.reg [i (.bin .neq (e 6) (v (.int .i64 0)))] [(11,l 0)])
 (.cond (e 11) (.seq (.reg [i (.build [.int .i64 0,.int .i64 0,.int .u64 0,.str []] []),i (.store 4 (e 3) (l 0))] [(4,e 6)])
 .ret) (.seq (.reg [i (.fld 0 (e 2)),i (.load false 1 (l 0)),i (.bin .eql (l 1) (v (.int .i64 2)))] [(12,l 2)])
 (.cond (e 12) (.seq (.reg [i (.len (e 5)),i (.call 149 [l 0] false),i (.store 4 (e 3) (l 1))] [(4,v (.int .i64 0))])
 .ret) (.seq (.reg [i (.fld 0 (e 2)),i (.load false 1 (l 0)),i (.bin .eql (l 1) (v (.int .i64 3)))] [(13,l 2)])
 (.cond (e 13) (.seq (.reg [i (.call 150 [e 5] false),i (.ext 0 (l 0)),i (.ext 1 (l 0)),i (.store 4 (e 3) (l 1))] [(4,l 2)])
 .ret) (.seq (.reg [i (.len (e 5)),i (.bin .eql (l 0) (v (.int .i64 0)))] [(14,l 1)])
 (.cond (e 14) (.seq (.reg [i (.build [.int .i64 0,.int .i64 0,.int .u64 0,.str []] []),i (.store 4 (e 3) (l 0))] [(4,v (.int .i64 0))])
 .ret) (.seq (.reg [i (.fld 0 (e 2)),i (.load false 1 (l 0)),i (.bin .eql (l 1) (v (.int .i64 4)))] [(15,l 2)])
 (.cond (e 15) (.seq (.reg [i (.call 151 [e 5,(v (.fn 148 [] []))] false),i (.store 4 (e 3) (l 0))] [(4,v (.int .i64 0))])
 .ret) .skip)))))))))))))
 (.seq (.reg [i (.call 147 [e 5,(v (.fn 148 [] []))] false),i (.store 4 (e 3) (l 0))] [(4,v (.int .i64 0))])
 .ret)))))))
def f_qbb:AFunc:=⟨16,2,.pure,[.cell true 4 3,.env 4],b_qbb⟩
def b_qfy:ACode:=
 (.seq (.reg [] [(2,v (.bool false))])
 (.seq (.reg [i (.call 160 [e 0,e 1] false),i (.bin .geq (l 0) (v (.int .i64 0)))] [(2,l 1)])
 .ret))
def f_qfy:AFunc:=⟨3,2,.pure,[.env 2],b_qfy⟩
def b_qbv:ACode:=
 (.seq (.reg [i (.box 1 (e 1))] [(2,l 0),(3,v (.bool false))])
 (.seq (.seq (.reg [i (.len (e 0)),i (.bin .gtr (l 0) (v (.int .i64 8000)))] [(4,l 1)])
 (.cond (e 4) (.seq (.reg [] [(3,v (.bool false))])
 .ret) .skip))
 (.seq (.reg [i (.mkfn 161 [] [e 2]),i (.call 42 [e 0,l 0] false),i (.una .not (l 1))] [(3,l 2)])
 .ret)))
def f_qbv:AFunc:=⟨5,2,.pure,[.env 3],b_qbv⟩
def l_qfb_0:ACode:=
 (.seq (.reg [i (.bin .lss (e 11) (e 10))] [(12,l 0)])
 (.seq (.cond (e 12) .skip (.exit 2))
 (.seq (.blk 3 (.seq (.reg [i (.idxs 1 (e 9) (e 11)),i (.load false 1 (l 0))] [(4,l 1)])
 (.seq (.reg [i (.call 163 [e 4] false),i (.una .not (l 0))] [(13,l 1)])
 (.cond (e 13) (.seq (.reg [] [(1,v (.int .i64 150))])
 .ret) .skip))))
 (.reg [i (.bin .add (e 11) (v (.int .i64 1)))] [(11,l 0)]))))
def l_qfb_1:ACode:=
 (.seq (.reg [i (.bin .lss (e 7) (e 6))] [(8,l 0)])
 (.seq (.cond (e 8) .skip (.exit 0))
 (.seq (.blk 1 (.seq (.reg [i (.idxs 1 (e 5) (e 7)),i (.load false 1 (l 0))] [(3,l 1)])
 (.seq (.seq (.reg [i (.len (e 3))] [(9,e 3),(10,l 0),(11,v (.int .i64 0))])
 (.blk 2 (.loop [1,4,12,13] l_qfb_0)))
 (.reg [i (.len (e 3)),i (.maxs (e 2) [l 0])] [(2,l 1)]))))
 (.reg [i (.bin .add (e 7) (v (.int .i64 1)))] [(7,l 0)]))))
def b_qfb:ACode:=
 (.seq (.reg [] [(1,v (.int .i64 0))])
 (.seq (.reg [] [(2,v (.int .i64 0))])
 (.seq (.seq (.reg [i (.len (e 0))] [(5,e 0),(6,l 0),(7,v (.int .i64 0))])
 (.blk 0 (.loop [1,3,4,8,9,10,11,12,13] l_qfb_1)))
 (.seq (.seq (.reg [i (.bin .gtr (e 2) (v (.int .i64 8000)))] [(14,l 0)])
 (.cond (e 14) (.seq (.reg [] [(1,v (.int .i64 3))])
 .ret) .skip))
 (.seq (.reg [] [(1,v (.int .i64 0))])
 .ret)))))
def f_qfb:AFunc:=⟨15,1,.pure,[.env 1],b_qfb⟩
def l_qfr_0:ACode:=
 (.seq (.reg [i (.bin .lss (e 13) (e 12))] [(14,l 0)])
 (.seq (.cond (e 14) .skip (.exit 2))
 (.seq (.blk 3 (.seq (.reg [i (.idxs 1 (e 11) (e 13)),i (.load false 1 (l 0))] [(5,l 1)])
 (.reg [i (.app 1 (e 4) (e 5))] [(4,l 0)])))
 (.reg [i (.bin .add (e 13) (v (.int .i64 1)))] [(13,l 0)]))))
def l_qfr_1:ACode:=
 (.seq (.reg [i (.bin .lss (e 8) (e 7))] [(9,l 0)])
 (.seq (.cond (e 9) .skip (.exit 0))
 (.seq (.blk 1 (.seq (.reg [i (.idxs 1 (e 6) (e 8)),i (.load false 1 (l 0))] [(3,l 1)])
 (.seq (.reg [i (.len (e 3)),i (.bin .add (e 2) (l 0))] [(2,l 1)])
 (.seq (.reg [i (.bin .lss (e 2) (v (.int .i64 0)))] [(10,l 0)])
 (.cond (e 10) (.reg [i (.bad),i (.bad)] []) .skip)))))
 (.reg [i (.bin .add (e 8) (v (.int .i64 1)))] [(8,l 0)]))))
def b_qfr:ACode:=
 (.seq (.reg [i (.mov (v (.nil0)))] [(1,l 0)])
 (.seq (.reg [] [(2,v (.int .i64 0))])
 (.seq (.seq (.reg [i (.len (e 0))] [(6,e 0),(7,l 0),(8,v (.int .i64 0))])
 (.blk 0 (.loop [3,9,10] l_qfr_1)))
 (.seq (.reg [i (.call 164 [(v (.nil0)),e 2] false)] [(4,l 0)])
 (.seq (.seq (.reg [i (.len (e 0))] [(11,e 0),(12,l 0),(13,v (.int .i64 0))])
 (.blk 2 (.loop [5,14] l_qfr_0)))
 (.seq (.reg [] [(1,e 4)])
 .ret))))))
def f_qfr:AFunc:=⟨15,1,.pure,[.env 1],b_qfr⟩
def b_qfh:ACode:=
 (.seq (.reg [i (.mov (v (.nil0)))] [(1,l 0)])
 (.seq (.reg [i (.call 68 [e 0] true)] [(2,l 0)])
 (.seq (.reg [i (.call 67 [e 2,(v (.fn 140 [] []))] false)] [])
 (.seq (.reg [] [(1,e 2)])
 .ret))))
def f_qfh:AFunc:=⟨3,1,.fresh 1,[.env 1],b_qfh⟩
def b_qdu:ACode:=
 (.seq (.reg [] [(0,v (.nilm))])
 (.seq (.reg [i (.mkmap),i (.mput (l 0) (v (.int .i64 1)) (v (.fn 177 [] []))),i (.mput (l 0) (v (.int .i64 9)) (v (.fn 178 [] []))),i (.mput (l 0) (v (.int .i64 2)) (v (.fn 179 [] []))),i (.mput (l 0) (v (.int .i64 3)) (v (.fn 180 [] []))),i (.mput (l 0) (v (.int .i64 4)) (v (.fn 181 [] []))),i (.mput (l 0) (v (.int .i64 10)) (v (.fn 182 [] []))),i (.mput (l 0) (v (.int .i64 11)) (v (.fn 183 [] []))),i (.mput (l 0) (v (.int .i64 5)) (v (.fn 184 [] []))),i (.mput (l 0) (v (.int .i64 6)) (v (.fn 185 [] []))),i (.mput (l 0) (v (.int .i64 7)) (v (.fn 186 [] []))),i (.mput (l 0) (v (.int .i64 8)) (v (.fn 187 [] [])))] [(0,l 0)])
 .ret))
def f_qdu:AFunc:=⟨1,0,.pure,[.env 0],b_qdu⟩
def l_qej_0:ACode:=
 (.seq (.reg [i (.bin .lss (e 15) (e 14))] [(16,l 0)])
 (.seq (.cond (e 16) .skip (.exit 0))
 (.seq (.blk 1 (.seq (.reg [i (.idxs 1 (e 13) (e 15)),i (.load false 1 (l 0))] [(7,e 15),(8,l 1)])
 (.seq (.reg [i (.nilck (e 0)),i (.fld 1 (l 0)),i (.load false 1 (l 1)),i (.idxs 1 (l 2) (e 8)),i (.load false 1 (l 3))] [(9,l 4)])
 (.seq (.seq (.reg [i (.fld 0 (e 4)),i (.load false 1 (l 0)),i (.bin .neq (l 1) (v (.int .i64 11))),g (l 2) true (.mov (e 9)),g (l 2) true (.call 188 [l 3,(v (.int .i64 4))] false),i (.pick (l 2) (l 4) (v (.bool false)))] [(17,l 5)])
 (.cond (e 17) (.seq (.reg [] [(3,v (.bool false))])
 .ret) .skip))
 (.seq (.reg [i (.bin .eql (e 7) (v (.int .i64 0)))] [(18,l 0)])
 (.cond (e 18) (.reg [i (.nilck (e 0)),i (.fld 15 (l 0)),i (.store 1 (l 1) (e 9))] []) (.reg [i (.nilck (e 0)),i (.fld 16 (l 0)),i (.store 1 (l 1) (e 9))] [])))))))
 (.reg [i (.bin .add (e 15) (v (.int .i64 1)))] [(15,l 0)]))))
def b_qej:ACode:=
 (.seq (.reg [] [(3,v (.bool false))])
 (.seq (.reg [i (.nilck (e 0)),i (.fld 0 (l 0)),i (.load false 1 (l 1)),i (.idxs 12 (l 2) (e 1)),i (.load true 12 (l 3)),i (.box 12 (v (.agg [.int .i64 0,.int .i64 0,.int .i64 0,.int .i64 0,.nil0,.bool false,.nil0,.nil0,.nil0,.nil0,.nil0,.int .i64 0]))),i (.store 12 (l 5) (l 4))] [(4,l 5)])
 (.seq (.reg [i (.fld 0 (e 4)),i (.load false 1 (l 0)),i (.call 190 [l 1] false)] [(5,l 2)])
 (.seq (.seq (.reg [i (.bin .lss (e 5) (v (.int .i64 0))),g (l 0) false (.mov (e 5)),g (l 0) false (.mov (e 0)),g (l 0) false (.nilck (l 2)),g (l 0) false (.fld 2 (l 3)),g (l 0) false (.load false 1 (l 4)),g (l 0) false (.len (l 5)),g (l 0) false (.bin .gtr (l 1) (l 6)),i (.pick (l 0) (v (.bool true)) (l 7)),g (l 8) false (.load true 12 (e 4)),g (l 8) false (.call 189 [l 9] false),g (l 8) false (.una .not (l 10)),i (.pick (l 8) (v (.bool true)) (l 11))] [(11,l 12)])
 (.cond (e 11) (.seq (.reg [] [(3,v (.bool false))])
 .ret) .skip))
 (.seq (.reg [i (.build [.int .i64 0,.int .i64 0] [(0,1,v (.int .i64 (-1))),(1,1,v (.int .i64 (-1)))]),i (.box 2 (v (.agg [.int .i64 0,.int .i64 0]))),i (.store 2 (l 1) (l 0))] [(6,l 1)])
 (.seq (.reg [i (.aslice 2 (e 6)),i (.nilck (e 0)),i (.fld 2 (l 1)),i (.load false 1 (l 2)),i (.nilck (e 0)),i (.fld 2 (l 4)),i (.load false 1 (l 5)),i (.len (l 6)),i (.bin .sub (l 7) (e 5)),i (.slice 1 (l 3) (some (l 8)) none),i (.copy 1 (l 0) (l 9))] [])
 (.seq (.seq (.reg [i (.load true 2 (e 6)),i (.fld 1 (e 4)),i (.load false 1 (l 1)),i (.fld 2 (e 4)),i (.load false 1 (l 3)),i (.build [.int .i64 0,.int .i64 0] [(0,1,(l 2)),(1,1,(l 4))]),i (.eqa true [0,0] (l 0) (l 5))] [(12,l 6)])
 (.cond (e 12) (.seq (.reg [] [(3,v (.bool false))])
 .ret) .skip))
 (.seq (.reg [i (.load true 12 (e 4)),i (.nilck (e 0)),i (.fld 3 (l 1)),i (.store 12 (l 2) (l 0)),i (.nilck (e 0)),i (.fld 15 (l 4)),i (.store 1 (l 5) (v (.nil0))),i (.nilck (e 0)),i (.fld 16 (l 7)),i (.store 1 (l 8) (v (.nil0)))] [])
 (.seq (.seq (.reg [i (.nilck (e 0)),i (.fld 2 (l 0)),i (.load false 1 (l 1)),i (.nilck (e 0)),i (.fld 2 (l 3)),i (.load false 1 (l 4)),i (.len (l 5)),i (.bin .sub (l 6) (e 5)),i (.slice 1 (l 2) (some (l 7)) none),i (.len (l 8))] [(13,l 8),(14,l 9),(15,v (.int .i64 0))])
 (.blk 0 (.loop [3,7,8,9,16,17,18] l_qej_0)))
 (.seq (.reg [i (.fld 0 (e 4)),i (.load false 1 (l 0)),i (.bin .eql (l 1) (v (.int .i64 8))),g (l 2) false (.fld 0 (e 4)),g (l 2) false (.load false 1 (l 3)),g (l 2) false (.bin .eql (l 4) (v (.int .i64 10))),i (.pick (l 2) (v (.bool true)) (l 5))] [(10,l 6)])
 (.seq (.seq (.reg [g (e 10) true (.mov (e 1)),g (e 10) true (.mov (e 0)),g (e 10) true (.nilck (l 1)),g (e 10) true (.fld 0 (l 2)),g (e 10) true (.load false 1 (l 3)),g (e 10) true (.len (l 4)),g (e 10) true (.bin .sub (l 5) (v (.int .i64 1))),g (e 10) true (.bin .neq (l 0) (l 6)),i (.pick (e 10) (l 7) (v (.bool false))),g (l 8) false (.mov (e 2)),g (l 8) false (.mov (e 0)),g (l 8) false (.callv (l 9) [l 10]),g (l 8) false (.una .not (l 11)),i (.pick (l 8) (v (.bool true)) (l 12)),g (l 13) false (.mov (e 0)),g (l 13) false (.nilck (l 14)),g (l 13) false (.fld 17 (l 15)),g (l 13) false (.load false 1 (l 16)),g (l 13) false (.len (l 17)),g (l 13) false (.bin .gtr (l 18) (v (.int .i64 16))),i (.pick (l 13) (v (.bool true)) (l 19))] [(19,l 20)])
 (.cond (e 19) (.seq (.reg [] [(3,v (.bool false))])
 .ret) .skip))
 (.seq (.regd [i (.nilck (e 0)),i (.fld 1 (l 0)),i (.load false 1 (l 1)),i (.nilck (e 0)),i (.fld 17 (l 3)),i (.load false 1 (l 4)),i (.mkl 1 [l 5]),i (.app 1 (l 2) (l 6)),i (.nilck (e 0)),i (.fld 2 (l 8)),i (.load false 1 (l 9)),i (.nilck (e 0)),i (.fld 2 (l 11)),i (.load false 1 (l 12)),i (.len (l 13)),i (.bin .sub (l 14) (e 5)),i (.slice 1 (l 10) none (some (l 15))),i (.mkl 1 [e 1]),i (.app 1 (l 16) (l 17)),i (.nilck (e 0)),i (.fld 1 (l 19)),i (.store 1 (l 20) (l 7)),i (.nilck (e 0)),i (.fld 2 (l 22)),i (.store 1 (l 23) (l 18))] [] [(8,0),(9,0),(10,0),(11,0),(12,0),(13,0),(14,0),(16,0)])
 (.seq (.reg [] [(3,v (.bool true))])
 .ret)))))))))))))
def f_qej:AFunc:=⟨20,3,.keep,[.env 3],b_qej⟩
def b_qfn:ACode:=
 (.seq (.reg [i (.mov (v (.nil0)))] [(1,l 0)])
 (.seq (.seq (.reg [i (.nils false (e 0))] [(2,l 0)])
 (.cond (e 2) (.seq (.reg [i (.mov (v (.nil0)))] [(1,l 0)])
 .ret) .skip))
 (.seq (.reg [i (.mov (v .nil0)),i (.app 1 (l 0) (e 0))] [(1,l 1)])
 .ret)))
def f_qfn:AFunc:=⟨3,1,.fresh 1,[.env 1],b_qfn⟩
def b_qcj:ACode:=
 (.seq (.reg [i (.box 12 (e 1)),i (.mov (v (.nil0)))] [(2,l 0),(3,l 1),(4,v (.int .i64 0))])
 (.seq (.reg [i (.load true 12 (e 2)),i (.call 36 [e 0,l 0] false),i (.ext 0 (l 1)),i (.ext 1 (l 1))] [(5,l 2)])
 (.seq (.reg [i (.call 191 [e 5] false),i (.ext 0 (l 0)),i (.ext 1 (l 0))] [(3,l 1),(4,l 2)])
 .ret)))
def f_qcj:AFunc:=⟨6,2,.pure,[.env 3,.env 4],b_qcj⟩
def l_qcn_0:ACode:=
 (.seq (.reg [i (.bin .lss (e 23) (e 22))] [(24,l 0)])
 (.seq (.cond (e 24) .skip (.exit 2))
 (.seq (.blk 3 (.seq (.reg [i (.idxs 1 (e 21) (e 23)),i (.load false 1 (l 0))] [(13,e 23),(14,l 1)])
 (.seq (.reg [i (.load false 1 (e 8)),i (.idxs 1 (l 0) (e 13)),i (.load false 1 (l 1)),i (.una .not (l 2))] [(25,l 3)])
 (.cond (e 25) (.regd [i (.load false 1 (e 7)),i (.nilck (e 0)),i (.fld 6 (l 1)),i (.load false 1 (l 2)),i (.fld 2 (e 2)),i (.load false 1 (l 4)),i (.idxs 1 (l 3) (l 5)),i (.load false 1 (l 6)),i (.len (l 7)),i (.make 4 (.agg [.int .i64 0,.int .i64 0,.int .u64 0,.str []]) (l 8) (l 8)),i (.mkl 1 [e 14,l 9]),i (.call 168 [l 10] false),i (.mkl 1 [l 11]),i (.app 1 (l 0) (l 12)),i (.store 1 (e 7) (l 13))] [] [(0,10)]) .skip))))
 (.reg [i (.bin .add (e 23) (v (.int .i64 1)))] [(23,l 0)]))))
def q_exec_run_join_0:ACode:=
 (.blk 1 (.seq (.reg [i (.fld 6 (e 2)),i (.load true 1 (l 0)),i (.call 192 [l 1,e 10] false),i (.ext 0 (l 2)),i (.ext 1 (l 2))] [(11,l 3),(12,l 4)])
 (.seq (.seq (.reg [i (.una .not (e 12))] [(18,l 0)])
 (.cond (e 18) (.seq (.reg [i (.store 1 (e 3) (v (.nil0))),i (.store 1 (e 4) (v (.int .i64 140)))] [])
 .ret) .skip))
 (.seq (.reg [] [(19,e 11)])
 (.cond (e 19) (.seq (.reg [i (.load false 1 (e 8)),i (.idxs 1 (l 0) (e 9)),i (.store 1 (l 1) (v (.bool true)))] [])
 (.reg [i (.load false 1 (e 7)),i (.mkl 1 [e 10]),i (.app 1 (l 0) (l 1)),i (.store 1 (e 7) (l 2))] [])) .skip)))))
def q_exec_run_join_0p:ACode:=
 (.seq (.reg [] [(9,e 16)])
 (.reg [] [(10,e 17)]))
def b_qcn:ACode:=
 (.seq (.reg [i (.box 12 (e 1)),i (.box 1 (v (.nil0))),i (.box 1 (v (.int .i64 0)))] [(2,l 0),(3,l 1),(4,l 2)])
 (.seq (.reg [i (.nilck (e 0)),i (.fld 7 (l 0)),i (.load false 1 (l 1)),i (.fld 1 (e 2)),i (.load false 1 (l 3)),i (.idxs 1 (l 2) (l 4)),i (.load false 1 (l 5)),i (.nilck (e 0)),i (.fld 7 (l 7)),i (.load false 1 (l 8)),i (.fld 2 (e 2)),i (.load false 1 (l 10)),i (.idxs 1 (l 9) (l 11)),i (.load false 1 (l 12))] [(5,l 6),(6,l 13)])
 (.seq (.reg [i (.box 1 (v (.nil0)))] [(7,l 0)])
 (.seq (.reg [i (.len (e 5)),i (.make 1 (.bool false) (l 0) (l 0)),i (.box 1 (v (.nil0))),i (.store 1 (l 2) (l 1))] [(8,l 2)])
 (.seq (.seq (.lift 7 0 1 (.reg [i (.call 194 [e 5,e 6] false)] [(15,l 0)]))
 (.blk 0 (.rng 26 (e 15) 193)))
 (.seq (.seq (.reg [i (.fld 5 (e 2)),i (.load false 1 (l 0))] [(20,l 1)])
 (.cond (e 20) (.seq (.reg [i (.len (e 5))] [(21,e 5),(22,l 0),(23,v (.int .i64 0))])
 (.blk 2 (.loop [13,14,24,25] l_qcn_0))) .skip))
 (.seq (.reg [i (.load false 1 (e 7)),i (.call 191 [l 0] false),i (.ext 0 (l 1)),i (.ext 1 (l 1)),i (.store 1 (e 3) (l 2)),i (.store 1 (e 4) (l 3))] [])
 .ret)))))))
def f_qcn:AFunc:=⟨26,2,.pure,[.cell false 1 3,.cell false 1 4],b_qcn⟩
def r_exec_run_join_0:ARound:=⟨26,[16,17],q_exec_run_join_0p,q_exec_run_join_0⟩
def l_qch_0:ACode:=
 (.seq (.reg [i (.bin .lss (e 11) (e 10))] [(12,l 0)])
 (.seq (.cond (e 12) .skip (.exit 0))
 (.seq (.blk 1 (.seq (.reg [i (.idxs 1 (e 9) (e 11)),i (.load false 1 (l 0))] [(6,l 1)])
 (.seq (.reg [i (.fld 6 (e 2)),i (.load true 1 (l 0)),i (.call 192 [l 1,e 6] false),i (.ext 0 (l 2)),i (.ext 1 (l 2))] [(7,l 3),(8,l 4)])
 (.seq (.seq (.reg [i (.una .not (e 8))] [(13,l 0)])
 (.cond (e 13) (.seq (.reg [i (.mov (v (.nil0)))] [(3,l 0),(4,v (.int .i64 140))])
 .ret) .skip))
 (.seq (.reg [] [(14,e 7)])
 (.cond (e 14) (.reg [i (.mkl 1 [e 6]),i (.app 1 (e 5) (l 0))] [(5,l 1)]) .skip))))))
 (.reg [i (.bin .add (e 11) (v (.int .i64 1)))] [(11,l 0)]))))
def b_qch:ACode:=
 (.seq (.reg [i (.box 12 (e 1)),i (.mov (v (.nil0)))] [(2,l 0),(3,l 1),(4,v (.int .i64 0))])
 (.seq (.reg [i (.mknil 1)] [(5,l 0)])
 (.seq (.seq (.reg [i (.nilck (e 0)),i (.fld 7 (l 0)),i (.load false 1 (l 1)),i (.fld 1 (e 2)),i (.load false 1 (l 3)),i (.idxs 1 (l 2) (l 4)),i (.load false 1 (l 5)),i (.len (l 6))] [(9,l 6),(10,l 7),(11,v (.int .i64 0))])
 (.blk 0 (.loop [3,4,6,7,8,12,13,14] l_qch_0)))
 (.seq (.reg [] [(3,e 5),(4,v (.int .i64 0))])
 .ret))))
def f_qch:AFunc:=⟨15,2,.pure,[.env 3,.env 4],b_qch⟩
def l_qcp_0:ACode:=
 (.seq (.reg [i (.bin .lss (e 17) (e 16))] [(18,l 0)])
 (.seq (.cond (e 18) .skip (.exit 2))
 (.seq (.blk 3 (.seq (.reg [i (.idxs 1 (e 15) (e 17)),i (.load true 1 (l 0)),i (.box 1 (v (.agg [.nil0]))),i (.store 1 (l 2) (l 1))] [(8,l 2)])
 (.seq (.reg [i (.load true 1 (e 8)),i (.call 172 [l 0,e 6] false),i (.ext 0 (l 1)),i (.ext 1 (l 1)),i (.box 4 (v (.agg [.int .i64 0,.int .i64 0,.int .u64 0,.str []]))),i (.store 4 (l 4) (l 2))] [(9,l 4),(10,l 3)])
 (.seq (.seq (.reg [i (.bin .neq (e 10) (v (.int .i64 0)))] [(19,l 0)])
 (.cond (e 19) (.seq (.reg [i (.mov (v (.nil0)))] [(3,l 0),(4,v (.int .i64 140))])
 .ret) .skip))
 (.reg [i (.load true 4 (e 9)),i (.mkl 4 [l 0]),i (.app 4 (e 7) (l 1))] [(7,l 2)])))))
 (.reg [i (.bin .add (e 17) (v (.int .i64 1)))] [(17,l 0)]))))
def l_qcp_1:ACode:=
 (.seq (.reg [i (.bin .lss (e 13) (e 12))] [(14,l 0)])
 (.seq (.cond (e 14) .skip (.exit 0))
 (.seq (.blk 1 (.seq (.reg [i (.idxs 1 (e 11) (e 13)),i (.load false 1 (l 0))] [(6,l 1)])
 (.seq (.reg [i (.mknil 4)] [(7,l 0)])
 (.seq (.seq (.reg [i (.fld 9 (e 2)),i (.load false 1 (l 0)),i (.len (l 1))] [(15,l 1),(16,l 2),(17,v (.int .i64 0))])
 (.blk 2 (.loop [3,4,8,9,10,18,19] l_qcp_0)))
 (.reg [i (.mkl 1 [e 7]),i (.app 1 (e 5) (l 0))] [(5,l 1)])))))
 (.reg [i (.bin .add (e 13) (v (.int .i64 1)))] [(13,l 0)]))))
def b_qcp:ACode:=
 (.seq (.reg [i (.box 12 (e 1)),i (.mov (v (.nil0)))] [(2,l 0),(3,l 1),(4,v (.int .i64 0))])
 (.seq (.reg [i (.mknil 1)] [(5,l 0)])
 (.seq (.seq (.reg [i (.nilck (e 0)),i (.fld 7 (l 0)),i (.load false 1 (l 1)),i (.fld 1 (e 2)),i (.load false 1 (l 3)),i (.idxs 1 (l 2) (l 4)),i (.load false 1 (l 5)),i (.len (l 6))] [(11,l 6),(12,l 7),(13,v (.int .i64 0))])
 (.blk 0 (.loop [3,4,6,7,8,9,10,14,15,16,17,18,19] l_qcp_1)))
 (.seq (.reg [i (.call 191 [e 5] false),i (.ext 0 (l 0)),i (.ext 1 (l 0))] [(3,l 1),(4,l 2)])
 .ret))))
def f_qcp:AFunc:=⟨20,2,.pure,[.env 3,.env 4],b_qcp⟩
def b_qck:ACode:=
 (.seq (.reg [i (.box 12 (e 1)),i (.mov (v (.nil0)))] [(2,l 0),(3,l 1),(4,v (.int .i64 0))])
 (.seq (.reg [i (.nilck (e 0)),i (.fld 7 (l 0)),i (.load false 1 (l 1)),i (.fld 1 (e 2)),i (.load false 1 (l 3)),i (.idxs 1 (l 2) (l 4)),i (.load false 1 (l 5)),i (.load true 12 (e 2)),i (.call 119 [l 6,l 7,(v (.bool true)),(v (.fn 195 [] []))] false),i (.ext 0 (l 8)),i (.ext 1 (l 8))] [(3,l 9),(4,l 10)])
 .ret))
def f_qck:AFunc:=⟨5,2,.pure,[.env 3,.env 4],b_qck⟩
def b_qco:ACode:=
 (.seq (.reg [i (.box 12 (e 1)),i (.mov (v (.nil0)))] [(2,l 0),(3,l 1),(4,v (.int .i64 0))])
 (.seq (.reg [i (.load true 12 (e 2)),i (.nilck (e 0)),i (.fld 7 (l 1)),i (.load false 1 (l 2)),i (.fld 1 (e 2)),i (.load false 1 (l 4)),i (.idxs 1 (l 3) (l 5)),i (.load false 1 (l 6)),i (.call 50 [l 0,l 7] false),i (.ext 0 (l 8)),i (.ext 1 (l 8))] [(3,l 9),(4,l 10)])
 .ret))
def f_qco:AFunc:=⟨5,2,.pure,[.env 3,.env 4],b_qco⟩
def b_qci:ACode:=
 (.seq (.reg [i (.box 12 (e 1)),i (.mov (v (.nil0)))] [(2,l 0),(3,l 1),(4,v (.int .i64 0))])
 (.seq (.reg [i (.load true 12 (e 2)),i (.nilck (e 0)),i (.fld 7 (l 1)),i (.load false 1 (l 2)),i (.fld 1 (e 2)),i (.load false 1 (l 4)),i (.idxs 1 (l 3) (l 5)),i (.load false 1 (l 6)),i (.call 52 [l 0,l 7] false),i (.ext 0 (l 8)),i (.ext 1 (l 8))] [(3,l 9),(4,l 10)])
 .ret))
def f_qci:AFunc:=⟨5,2,.pure,[.env 3,.env 4],b_qci⟩
def b_qcg:ACode:=
 (.seq (.reg [i (.box 12 (e 1)),i (.mov (v (.nil0)))] [(2,l 0),(3,l 1),(4,v (.int .i64 0))])
 (.seq (.reg [i (.nilck (e 0)),i (.fld 7 (l 0)),i (.load false 1 (l 1)),i (.fld 1 (e 2)),i (.load false 1 (l 3)),i (.idxs 1 (l 2) (l 4)),i (.load false 1 (l 5)),i (.call 173 [l 6] false),i (.ext 0 (l 7)),i (.ext 1 (l 7))] [(3,l 8),(4,l 9)])
 .ret))
def f_qcg:AFunc:=⟨5,2,.pure,[.env 3,.env 4],b_qcg⟩
def b_qcr:ACode:=
 (.seq (.reg [i (.box 12 (e 1)),i (.mov (v (.nil0)))] [(2,l 0),(3,l 1),(4,v (.int .i64 0))])
 (.seq (.reg [i (.nilck (e 0)),i (.fld 7 (l 0)),i (.load false 1 (l 1)),i (.fld 1 (e 2)),i (.load false 1 (l 3)),i (.idxs 1 (l 2) (l 4)),i (.load false 1 (l 5)),i (.nilck (e 0)),i (.fld 7 (l 7)),i (.load false 1 (l 8)),i (.fld 2 (e 2)),i (.load false 1 (l 10)),i (.idxs 1 (l 9) (l 11)),i (.load false 1 (l 12)),i (.mkl 1 [l 6,l 13]),i (.call 78 [l 14] false),i (.call 191 [l 15] false),i (.ext 0 (l 16)),i (.ext 1 (l 16))] [(3,l 17),(4,l 18)])
 .ret))
def f_qcr:AFunc:=⟨5,2,.pure,[.env 3,.env 4],b_qcr⟩
def b_qcq:ACode:=
 (.seq (.reg [i (.box 12 (e 1)),i (.mov (v (.nil0)))] [(2,l 0),(3,l 1),(4,v (.int .i64 0))])
 (.seq (.reg [i (.nilck (e 0)),i (.fld 7 (l 0)),i (.load false 1 (l 1)),i (.fld 1 (e 2)),i (.load false 1 (l 3)),i (.idxs 1 (l 2) (l 4)),i (.load false 1 (l 5)),i (.fld 10 (e 2)),i (.load false 1 (l 7)),i (.fld 11 (e 2)),i (.load false 1 (l 9)),i (.call 8 [l 6,l 8,l 10] false),i (.ext 0 (l 11)),i (.ext 1 (l 11))] [(3,l 12),(4,l 13)])
 .ret))
def f_qcq:AFunc:=⟨5,2,.pure,[.env 3,.env 4],b_qcq⟩
def b_qfu:ACode:=
 (.seq (.reg [] [(2,v (.bool false))])
 (.seq (.reg [i (.call 196 [e 0,e 1] false),i (.bin .geq (l 0) (v (.int .i64 0)))] [(2,l 1)])
 .ret))
def f_qfu:AFunc:=⟨3,2,.pure,[.env 2],b_qfu⟩
def b_qbh:ACode:=
 (.seq (.reg [i (.box 2 (e 0))] [(2,l 0),(3,v (.bool false))])
 (.seq (.reg [i (.fld 0 (e 2)),i (.load false 1 (l 0)),i (.bin .lss (l 1) (v (.int .i64 0))),g (l 2) false (.fld 0 (e 2)),g (l 2) false (.load false 1 (l 3)),g (l 2) false (.load false 1 (e 1)),g (l 2) false (.len (l 5)),g (l 2) false (.bin .geq (l 4) (l 6)),i (.pick (l 2) (v (.bool true)) (l 7))] [(3,l 8)])
 .ret))
def f_qbh:AFunc:=⟨4,2,.pure,[.env 3],b_qbh⟩
def b_qbj:ACode:=
 (.seq (.reg [] [(1,v (.bool false))])
 (.seq (.reg [i (.call 197 [e 0] false),i (.bin .neq (l 0) (v (.int .i64 0)))] [(1,l 1)])
 .ret))
def f_qbj:AFunc:=⟨2,1,.pure,[.env 1],b_qbj⟩
def b_qen:ACode:=
 (.seq (.reg [] [(1,v (.int .i64 0))])
 (.seq (.seq (.reg [i (.call 163 [e 0] false),i (.una .not (l 0))] [(2,l 1)])
 (.cond (e 2) (.seq (.reg [] [(1,v (.int .i64 150))])
 .ret) .skip))
 (.seq (.reg [] [(1,v (.int .i64 0))])
 .ret)))
def f_qen:AFunc:=⟨3,1,.pure,[.env 1],b_qen⟩
def l_qgh_0:ACode:=
 (.seq (.reg [i (.bin .lss (e 5) (e 4))] [(6,l 0)])
 (.seq (.cond (e 6) .skip (.exit 0))
 (.seq (.blk 1 (.seq (.reg [] [(3,e 5)])
 (.seq (.reg [i (.idxs 1 (e 0) (e 3)),i (.load false 1 (l 0)),i (.callv (e 1) [l 1])] [(7,l 2)])
 (.cond (e 7) (.seq (.reg [] [(2,e 3)])
 .ret) .skip))))
 (.reg [i (.bin .add (e 5) (v (.int .i64 1)))] [(5,l 0)]))))
def b_qgh:ACode:=
 (.seq (.reg [] [(2,v (.int .i64 0))])
 (.seq (.seq (.reg [i (.len (e 0))] [(4,l 0),(5,v (.int .i64 0))])
 (.blk 0 (.loop [2,3,6,7] l_qgh_0)))
 (.seq (.reg [] [(2,v (.int .i64 (-1)))])
 .ret)))
def f_qgh:AFunc:=⟨8,2,.pure,[.env 2],b_qgh⟩
def b_qfl:ACode:=
 (.seq (.reg [i (.mov (v (.nil0)))] [(1,l 0)])
 (.seq (.seq (.reg [i (.nils false (e 0))] [(2,l 0)])
 (.cond (e 2) (.seq (.reg [i (.mov (v (.nil0)))] [(1,l 0)])
 .ret) .skip))
 (.seq (.reg [i (.mov (v .nil0)),i (.app 4 (l 0) (e 0))] [(1,l 1)])
 .ret)))
def f_qfl:AFunc:=⟨3,1,.fresh 4,[.env 1],b_qfl⟩
def b_qbe:ACode:=
 (.seq (.reg [i (.box 1 (e 0))] [(1,l 0),(2,v (.nilf))])
 (.seq (.reg [i (.mkfn 198 [] [e 1])] [(2,l 0)])
 .ret))
def f_qbe:AFunc:=⟨3,1,.pure,[.env 2],b_qbe⟩
def l_qga_0:ACode:=
 (.seq (.reg [i (.bin .lss (e 10) (e 9))] [(11,l 0)])
 (.seq (.cond (e 11) .skip (.exit 0))
 (.seq (.blk 1 (.seq (.reg [i (.idxs 1 (e 8) (e 10)),i (.load false 1 (l 0))] [(4,e 10),(5,l 1)])
 (.seq (.reg [i (.idxs 1 (e 1) (e 4)),i (.load false 1 (l 0))] [(6,l 1)])
 (.seq (.reg [i (.callv (e 2) [e 5,e 6]),i (.una .not (l 0))] [(12,l 1)])
 (.cond (e 12) (.seq (.reg [] [(3,v (.bool false))])
 .ret) .skip)))))
 (.reg [i (.bin .add (e 10) (v (.int .i64 1)))] [(10,l 0)]))))
def b_qga:ACode:=
 (.seq (.reg [] [(3,v (.bool false))])
 (.seq (.seq (.reg [i (.len (e 0)),i (.len (e 1)),i (.bin .neq (l 0) (l 1))] [(7,l 2)])
 (.cond (e 7) (.seq (.reg [] [(3,v (.bool false))])
 .ret) .skip))
 (.seq (.seq (.reg [i (.len (e 0))] [(8,e 0),(9,l 0),(10,v (.int .i64 0))])
 (.blk 0 (.loop [3,4,5,6,11,12] l_qga_0)))
 (.seq (.reg [] [(3,v (.bool true))])
 .ret))))
def f_qga:AFunc:=⟨13,3,.pure,[.env 3],b_qga⟩
def b_qw:ACode:=
 (.seq (.reg [i (.mov (v (.nil0)))] [(2,l 0)])
 (.seq (.reg [i (.mknil 8),i (.len (e 0)),i (.mins (l 1) [e 1]),i (.slice 8 (e 0) none (some (l 2))),i (.app 8 (l 0) (l 3))] [(2,l 4)])
 .ret))
def f_qw:AFunc:=⟨3,2,.fresh 8,[.env 2],b_qw⟩
def b_qbq:ACode:=
 (.seq (.reg [] [(2,v (.bool false))])
 (.seq (.reg [i (.load false 1 (e 1)),i (.len (e 0)),i (.bin .lss (l 0) (l 1)),g (l 2) true (.mov (e 0)),g (l 2) true (.load false 1 (e 1)),g (l 2) true (.idxs 4 (l 3) (l 4)),g (l 2) true (.fld 0 (l 5)),g (l 2) true (.load false 1 (l 6)),g (l 2) true (.bin .neq (l 7) (v (.int .i64 0))),i (.pick (l 2) (l 8) (v (.bool false)))] [(2,l 9)])
 .ret))
def f_qbq:AFunc:=⟨3,2,.pure,[.env 2],b_qbq⟩
def l_qby_0:ACode:=
 (.seq (.reg [i (.bin .lss (e 19) (e 18))] [(20,l 0)])
 (.seq (.cond (e 20) .skip (.exit 2))
 (.seq (.blk 3 (.seq (.reg [i (.idxs 2 (e 17) (e 19)),i (.load true 2 (l 0)),i (.box 2 (v (.agg [.int .i64 0,.nil0]))),i (.store 2 (l 2) (l 1))] [(12,l 2),(11,e 19)])
 (.seq (.reg [i (.load false 1 (e 5)),i (.load true 2 (e 12)),i (.fld 1 (e 9)),i (.load false 1 (l 2)),i (.callv (l 0) [e 11,l 1,l 3]),i (.ext 0 (l 4)),i (.ext 1 (l 4)),i (.box 4 (v (.agg [.int .i64 0,.int .i64 0,.int .u64 0,.str []]))),i (.store 4 (l 7) (l 5))] [(13,l 7),(14,l 6)])
 (.seq (.seq (.reg [i (.bin .neq (e 14) (v (.int .i64 0)))] [(21,l 0)])
 (.cond (e 21) (.seq (.reg [i (.store 1 (e 6) (v (.nil0))),i (.store 1 (e 7) (v (.int .i64 140)))] [])
 .ret) .skip))
 (.reg [i (.load true 4 (e 13)),i (.mkl 4 [l 0]),i (.app 4 (e 10) (l 1))] [(10,l 2)])))))
 (.reg [i (.bin .add (e 19) (v (.int .i64 1)))] [(19,l 0)]))))
def q_exec_grouped_0:ACode:=
 (.blk 1 (.seq (.reg [i (.fld 0 (e 9)),i (.load false 1 (l 0)),i (.call 114 [l 1] true)] [(10,l 2)])
 (.seq (.seq (.reg [i (.fld 8 (e 4)),i (.load false 1 (l 0)),i (.len (l 1))] [(17,l 1),(18,l 2),(19,v (.int .i64 0))])
 (.blk 2 (.loop [20] l_qby_0)))
 (.reg [i (.load false 1 (e 8)),i (.mkl 1 [e 10]),i (.app 1 (l 0) (l 1)),i (.store 1 (e 8) (l 2))] []))))
def q_exec_grouped_0p:ACode:=
 (.reg [i (.box 2 (v (.agg [.nil0,.nil0]))),i (.store 2 (l 0) (e 16))] [(9,l 0)])
def b_qby:ACode:=
 (.seq (.reg [i (.box 12 (e 1)),i (.box 1 (e 3)),i (.box 1 (v (.nil0))),i (.box 1 (v (.int .i64 0)))] [(4,l 0),(5,l 1),(6,l 2),(7,l 3)])
 (.seq (.reg [i (.box 1 (v (.nil0)))] [(8,l 0)])
 (.seq (.seq (.lift 8 0 1 (.reg [i (.fld 7 (e 4)),i (.load false 1 (l 0)),i (.call 200 [e 0,l 1,e 2] false)] [(15,l 2)]))
 (.blk 0 (.rng 22 (e 15) 199)))
 (.seq (.reg [i (.load false 1 (e 8)),i (.call 191 [l 0] false),i (.ext 0 (l 1)),i (.ext 1 (l 1)),i (.store 1 (e 6) (l 2)),i (.store 1 (e 7) (l 3))] [])
 .ret))))
def f_qby:AFunc:=⟨22,4,.pure,[.cell false 1 6,.cell false 1 7],b_qby⟩
def r_exec_grouped_0:ARound:=⟨22,[16],q_exec_grouped_0p,q_exec_grouped_0⟩
def l_qcf_0:ACode:=
 (.seq (.reg [i (.bin .lss (e 13) (e 12))] [(14,l 0)])
 (.seq (.cond (e 14) .skip (.exit 0))
 (.seq (.blk 1 (.seq (.reg [i (.idxs 1 (e 11) (e 13)),i (.load false 1 (l 0))] [(7,l 1)])
 (.seq (.reg [i (.fld 1 (e 3)),i (.load true 1 (l 0)),i (.call 172 [l 1,e 7] false),i (.ext 0 (l 2)),i (.ext 1 (l 2)),i (.box 4 (v (.agg [.int .i64 0,.int .i64 0,.int .u64 0,.str []]))),i (.store 4 (l 5) (l 3))] [(8,l 5),(9,l 4)])
 (.seq (.seq (.reg [i (.bin .eql (e 9) (v (.int .i64 0)))] [(15,l 0)])
 (.cond (e 15) (.reg [i (.load true 4 (e 6)),i (.load true 4 (e 8)),i (.call 201 [l 0,l 1] false),i (.ext 0 (l 2)),i (.ext 1 (l 2)),i (.store 4 (e 6) (l 3))] [(9,l 4)]) .skip))
 (.seq (.reg [i (.bin .neq (e 9) (v (.int .i64 0)))] [(16,l 0)])
 (.cond (e 16) (.seq (.reg [i (.load true 4 (e 6)),i (.store 4 (e 4) (l 0))] [(5,e 9)])
 .ret) .skip))))))
 (.reg [i (.bin .add (e 13) (v (.int .i64 1)))] [(13,l 0)]))))
def b_qcf:ACode:=
 (.seq (.reg [i (.box 2 (e 1)),i (.box 4 (v (.agg [.int .i64 0,.int .i64 0,.int .u64 0,.str []])))] [(3,l 0),(4,l 1),(5,v (.int .i64 0))])
 (.seq (.seq (.reg [i (.fld 0 (e 3)),i (.load false 1 (l 0)),i (.bin .neq (l 1) (v (.int .i64 3)))] [(10,l 2)])
 (.cond (e 10) (.seq (.reg [i (.load true 2 (e 3)),i (.call 19 [l 0,e 2] false),i (.ext 0 (l 1)),i (.ext 1 (l 1)),i (.store 4 (e 4) (l 2))] [(5,l 3)])
 .ret) .skip))
 (.seq (.reg [i (.call 202 [] false),i (.box 4 (v (.agg [.int .i64 0,.int .i64 0,.int .u64 0,.str []]))),i (.store 4 (l 1) (l 0))] [(6,l 1)])
 (.seq (.seq (.reg [i (.len (e 2))] [(11,e 2),(12,l 0),(13,v (.int .i64 0))])
 (.blk 0 (.loop [5,7,8,9,14,15,16] l_qcf_0)))
 (.seq (.reg [i (.load true 4 (e 6)),i (.store 4 (e 4) (l 0))] [(5,v (.int .i64 0))])
 .ret)))))
def f_qcf:AFunc:=⟨17,3,.pure,[.cell true 4 4,.env 5],b_qcf⟩
def b_qhb:ACode:=
 (.seq (.reg [i (.box 4 (v (.agg [.int .i64 0,.int .i64 0,.int .u64 0,.str []])))] [(0,l 0)])
 (.seq (.reg [i (.build [.int .i64 0,.int .i64 0,.int .u64 0,.str []] []),i (.store 4 (e 0) (l 0))] [])
 .ret))
def f_qhb:AFunc:=⟨1,0,.pure,[.cell true 4 0],b_qhb⟩
def l_qcw_0:ACode:=
 (.seq (.reg [i (.bin .lss (e 12) (e 11))] [(13,l 0)])
 (.seq (.cond (e 13) .skip (.exit 0))
 (.seq (.blk 1 (.seq (.reg [i (.idxs 1 (e 10) (e 12)),i (.load false 1 (l 0))] [(7,l 1)])
 (.seq (.reg [i (.load false 1 (e 3)),i (.len (l 0)),i (.bin .geq (e 7) (l 1)),g (l 2) false (.load false 1 (e 3)),g (l 2) false (.mov (e 7)),g (l 2) false (.idxs 4 (l 3) (l 4)),g (l 2) false (.load true 4 (l 5)),g (l 2) false (.call 206 [l 6] false),g (l 2) false (.una .not (l 7)),i (.pick (l 2) (v (.bool true)) (l 8))] [(14,l 9)])
 (.cond (e 14) (.seq (.reg [i (.build [.int .i64 0,.int .i64 0,.int .u64 0,.str []] []),i (.store 4 (e 4) (l 0))] [(5,v (.int .i64 2))])
 .ret) .skip))))
 (.reg [i (.bin .add (e 12) (v (.int .i64 1)))] [(12,l 0)]))))
def b_qcw:ACode:=
 (.seq (.reg [i (.box 1 (e 0)),i (.box 1 (e 1)),i (.box 4 (v (.agg [.int .i64 0,.int .i64 0,.int .u64 0,.str []])))] [(2,l 0),(3,l 1),(4,l 2),(5,v (.int .i64 0))])
 (.seq (.seq (.reg [i (.load true 1 (e 2)),i (.call 71 [l 0] false)] [(6,l 1)])
 (.seq (.reg [i (.bin .neq (e 6) (v (.int .i64 0)))] [(9,l 0)])
 (.cond (e 9) (.seq (.reg [i (.build [.int .i64 0,.int .i64 0,.int .u64 0,.str []] []),i (.store 4 (e 4) (l 0))] [(5,e 6)])
 .ret) .skip)))
 (.seq (.seq (.reg [i (.load true 1 (e 2)),i (.call 207 [l 0] false),i (.len (l 1))] [(10,l 1),(11,l 2),(12,v (.int .i64 0))])
 (.blk 0 (.loop [5,7,13,14] l_qcw_0)))
 (.seq (.reg [i (.call 205 [] false),i (.box 1 (v (.nilm))),i (.store 1 (l 1) (l 0))] [(8,l 1)])
 (.seq (.reg [i (.load true 1 (e 2)),i (.mkfn 203 [] [e 3,e 8]),i (.call 204 [l 0,l 1] false),i (.ext 0 (l 2)),i (.ext 1 (l 2)),i (.store 4 (e 4) (l 3))] [(5,l 4)])
 .ret)))))
def f_qcw:AFunc:=⟨15,2,.pure,[.cell true 4 4,.env 5],b_qcw⟩
def b_qm:ACode:=
 (.seq (.reg [i (.box 4 (e 0)),i (.box 4 (e 1)),i (.box 4 (v (.agg [.int .i64 0,.int .i64 0,.int .u64 0,.str []])))] [(2,l 0),(3,l 1),(4,l 2),(5,v (.int .i64 0))])
 (.seq (.seq (.reg [i (.load true 4 (e 2)),i (.mkl 4 [l 0]),i (.call 210 [(v (.int .i64 4)),l 1] false),i (.load true 4 (e 3)),i (.mkl 4 [l 3]),i (.call 210 [(v (.int .i64 2)),l 4] false)] [(6,l 2),(7,l 5)])
 (.blk 0 (.seq (.reg [i (.bin .eql (e 6) (v (.int .i64 120))),g (l 0) false (.mov (e 7)),g (l 0) false (.bin .eql (l 1) (v (.int .i64 120))),i (.pick (l 0) (v (.bool true)) (l 2))] [(8,l 3)])
 (.cond (e 8) (.seq (.reg [i (.build [.int .i64 0,.int .i64 0,.int .u64 0,.str []] []),i (.store 4 (e 4) (l 0))] [(5,v (.int .i64 120))])
 .ret) (.seq (.reg [i (.bin .neq (e 6) (v (.int .i64 0))),g (l 0) false (.mov (e 7)),g (l 0) false (.bin .neq (l 1) (v (.int .i64 0))),i (.pick (l 0) (v (.bool true)) (l 2))] [(9,l 3)])
 (.cond (e 9) (.seq (.reg [i (.build [.int .i64 0,.int .i64 0,.int .u64 0,.str []] []),i (.store 4 (e 4) (l 0))] [(5,v (.int .i64 2))])
 .ret) (.seq (.reg [i (.fld 0 (e 3)),i (.load false 1 (l 0)),i (.bin .eql (l 1) (v (.int .i64 0)))] [(10,l 2)])
 (.cond (e 10) (.seq (.reg [i (.load true 4 (e 2)),i (.store 4 (e 4) (l 0))] [(5,v (.int .i64 0))])
 .ret) (.seq (.reg [i (.fld 0 (e 2)),i (.load false 1 (l 0)),i (.bin .eql (l 1) (v (.int .i64 0)))] [(11,l 2)])
 (.cond (e 11) (.seq (.reg [i (.load true 4 (e 3)),i (.call 208 [l 0] false),i (.store 4 (e 4) (l 1))] [(5,v (.int .i64 0))])
 .ret) .skip))))))))))
 (.seq (.reg [i (.load true 4 (e 2)),i (.load true 4 (e 3)),i (.call 208 [l 1] false),i (.call 209 [l 0,l 2] false),i (.ext 0 (l 3)),i (.ext 1 (l 3)),i (.store 4 (e 4) (l 4))] [(5,l 5)])
 .ret)))
def f_qm:AFunc:=⟨12,2,.pure,[.cell true 4 4,.env 5],b_qm⟩
def l_qbt_0:ACode:=
 (.seq (.reg [i (.bin .lss (e 13) (e 12))] [(14,l 0)])
 (.seq (.cond (e 14) .skip (.exit 0))
 (.seq (.blk 1 (.seq (.reg [i (.idxs 1 (e 11) (e 13)),i (.load false 1 (l 0))] [(8,l 1)])
 (.seq (.reg [i (.fld 7 (e 3)),i (.load false 1 (l 0)),i (.len (l 1)),i (.bin .add (l 2) (e 0)),i (.idxs 4 (e 8) (l 3)),i (.load true 4 (l 4)),i (.box 4 (v (.agg [.int .i64 0,.int .i64 0,.int .u64 0,.str []]))),i (.store 4 (l 6) (l 5))] [(9,l 6)])
 (.seq (.reg [i (.fld 0 (e 9)),i (.load false 1 (l 0)),i (.bin .neq (l 1) (v (.int .i64 0)))] [(15,l 2)])
 (.cond (e 15) (.reg [i (.load true 4 (e 9)),i (.mkl 4 [l 0]),i (.app 4 (e 7) (l 1))] [(7,l 2)]) .skip)))))
 (.reg [i (.bin .add (e 13) (v (.int .i64 1)))] [(13,l 0)]))))
def b_qbt:ACode:=
 (.seq (.reg [i (.box 2 (e 1)),i (.box 4 (v (.agg [.int .i64 0,.int .i64 0,.int .u64 0,.str []])))] [(4,l 0),(5,l 1),(6,v (.int .i64 0))])
 (.seq (.reg [i (.mknil 4)] [(7,l 0)])
 (.seq (.seq (.reg [i (.len (e 2))] [(11,e 2),(12,l 0),(13,v (.int .i64 0))])
 (.blk 0 (.loop [8,9,14,15] l_qbt_0)))
 (.seq (.reg [i (.mov (v (.fn 213 [] [])))] [(10,l 0)])
 (.seq (.blk 2 (.seq (.reg [i (.fld 0 (e 4)),i (.load false 1 (l 0)),i (.bin .eql (l 1) (v (.int .i64 3)))] [(16,l 2)])
 (.cond (e 16) (.seq (.reg [i (.call 211 [e 7,(v (.fn 212 [] []))] false),i (.ext 0 (l 0)),i (.ext 1 (l 0)),i (.store 4 (e 5) (l 1))] [(6,l 2)])
 .ret) (.seq (.reg [i (.fld 0 (e 4)),i (.load false 1 (l 0)),i (.bin .eql (l 1) (v (.int .i64 1))),g (l 2) false (.fld 0 (e 4)),g (l 2) false (.load false 1 (l 3)),g (l 2) false (.bin .eql (l 4) (v (.int .i64 2))),i (.pick (l 2) (v (.bool true)) (l 5))] [(17,l 6)])
 (.cond (e 17) (.seq (.reg [i (.call 149 [(v (.int .i64 0))] false),i (.mkl 4 [l 0]),i (.app 4 (e 7) (l 1)),i (.call 211 [l 2,(v (.fn 201 [] []))] false),i (.ext 0 (l 3)),i (.ext 1 (l 3)),i (.store 4 (e 5) (l 4))] [(6,l 5)])
 .ret) (.seq (.reg [i (.len (e 7)),i (.bin .eql (l 0) (v (.int .i64 0)))] [(18,l 1)])
 (.cond (e 18) (.seq (.reg [i (.call 202 [] false),i (.store 4 (e 5) (l 0))] [(6,v (.int .i64 0))])
 .ret) (.seq (.reg [i (.fld 0 (e 4)),i (.load false 1 (l 0)),i (.bin .eql (l 1) (v (.int .i64 4)))] [(19,l 2)])
 (.cond (e 19) (.seq (.reg [i (.call 151 [e 7,e 10] false),i (.store 4 (e 5) (l 0))] [(6,v (.int .i64 0))])
 .ret) .skip)))))))))
 (.seq (.reg [i (.call 147 [e 7,e 10] false),i (.store 4 (e 5) (l 0))] [(6,v (.int .i64 0))])
 .ret))))))
def f_qbt:AFunc:=⟨20,4,.pure,[.cell true 4 5,.env 6],b_qbt⟩
def b_qbu:ACode:=
 (.seq (.reg [i (.box 4 (e 0)),i (.box 4 (e 1))] [(2,l 0),(3,l 1),(4,v (.int .i64 0))])
 (.seq (.reg [i (.load true 4 (e 2)),i (.mkl 4 [l 0]),i (.load true 4 (e 3)),i (.mkl 4 [l 2]),i (.call 214 [l 1,l 3] false)] [(4,l 4)])
 .ret))
def f_qbu:AFunc:=⟨5,2,.pure,[.env 4],b_qbu⟩
def b_qeo:ACode:=
 (.seq (.reg [] [(2,v (.int .i64 0))])
 (.seq (.seq (.reg [i (.call 163 [e 0] false),i (.una .not (l 0)),g (l 1) false (.mov (e 1)),g (l 1) false (.call 163 [l 2] false),g (l 1) false (.una .not (l 3)),i (.pick (l 1) (v (.bool true)) (l 4))] [(3,l 5)])
 (.cond (e 3) (.seq (.reg [] [(2,v (.int .i64 0))])
 .ret) .skip))
 (.seq (.reg [i (.call 140 [e 0,e 1] false)] [(2,l 0)])
 .ret)))
def f_qeo:AFunc:=⟨4,2,.pure,[.env 2],b_qeo⟩
def l_qct_0:ACode:=
 (.seq (.reg [i (.bin .lss (e 10) (e 9))] [(11,l 0)])
 (.seq (.cond (e 11) .skip (.exit 0))
 (.seq (.blk 1 (.seq (.reg [i (.idxs 4 (e 8) (e 10)),i (.load true 4 (l 0)),i (.box 4 (v (.agg [.int .i64 0,.int .i64 0,.int .u64 0,.str []]))),i (.store 4 (l 2) (l 1))] [(5,l 2)])
 (.seq (.reg [i (.load true 4 (e 4)),i (.load true 4 (e 5)),i (.callv (e 1) [l 0,l 1]),i (.ext 0 (l 2)),i (.ext 1 (l 2)),i (.box 4 (v (.agg [.int .i64 0,.int .i64 0,.int .u64 0,.str []]))),i (.store 4 (l 5) (l 3))] [(6,l 5),(7,l 4)])
 (.seq (.seq (.reg [i (.bin .neq (e 7) (v (.int .i64 0)))] [(12,l 0)])
 (.cond (e 12) (.seq (.reg [i (.load true 4 (e 6)),i (.store 4 (e 2) (l 0))] [(3,e 7)])
 .ret) .skip))
 (.reg [i (.load true 4 (e 6)),i (.store 4 (e 4) (l 0))] [])))))
 (.reg [i (.bin .add (e 10) (v (.int .i64 1)))] [(10,l 0)]))))
def b_qct:ACode:=
 (.seq (.reg [i (.box 4 (v (.agg [.int .i64 0,.int .i64 0,.int .u64 0,.str []])))] [(2,l 0),(3,v (.int .i64 0))])
 (.seq (.reg [i (.call 202 [] false),i (.box 4 (v (.agg [.int .i64 0,.int .i64 0,.int .u64 0,.str []]))),i (.store 4 (l 1) (l 0))] [(4,l 1)])
 (.seq (.seq (.reg [i (.len (e 0))] [(8,e 0),(9,l 0),(10,v (.int .i64 0))])
 (.blk 0 (.loop [3,5,6,7,11,12] l_qct_0)))
 (.seq (.reg [i (.load true 4 (e 4)),i (.call 215 [l 0] false),i (.ext 0 (l 1)),i (.ext 1 (l 1)),i (.store 4 (e 2) (l 2))] [(3,l 3)])
 .ret))))
def f_qct:AFunc:=⟨13,2,.pure,[.cell true 4 2,.env 3],b_qct⟩
def b_qg:ACode:=
 (.seq (.reg [i (.box 4 (e 0)),i (.box 4 (e 1)),i (.box 4 (v (.agg [.int .i64 0,.int .i64 0,.int .u64 0,.str []])))] [(2,l 0),(3,l 1),(4,l 2),(5,v (.int .i64 0))])
 (.seq (.seq (.reg [i (.load true 4 (e 2)),i (.load true 4 (e 3)),i (.mkl 4 [l 0,l 1]),i (.call 210 [(v (.int .i64 4)),l 2] false)] [(6,l 3)])
 (.blk 0 (.seq (.reg [i (.bin .neq (e 6) (v (.int .i64 0)))] [(7,l 0)])
 (.cond (e 7) (.seq (.reg [i (.build [.int .i64 0,.int .i64 0,.int .u64 0,.str []] []),i (.store 4 (e 4) (l 0))] [(5,e 6)])
 .ret) (.seq (.reg [i (.fld 0 (e 2)),i (.load false 1 (l 0)),i (.bin .eql (l 1) (v (.int .i64 0)))] [(8,l 2)])
 (.cond (e 8) (.seq (.reg [i (.load true 4 (e 3)),i (.store 4 (e 4) (l 0))] [(5,v (.int .i64 0))])
 .ret) (.seq (.reg [i (.fld 0 (e 3)),i (.load false 1 (l 0)),i (.bin .eql (l 1) (v (.int .i64 0)))] [(9,l 2)])
 (.cond (e 9) (.seq (.reg [i (.load true 4 (e 2)),i (.store 4 (e 4) (l 0))] [(5,v (.int .i64 0))])
 .ret) .skip))))))))
 (.seq (.reg [i (.load true 4 (e 2)),i (.load true 4 (e 3)),i (.call 209 [l 0,l 1] false),i (.ext 0 (l 2)),i (.ext 1 (l 2)),i (.store 4 (e 4) (l 3))] [(5,l 4)])
 .ret)))
def f_qg:AFunc:=⟨10,2,.pure,[.cell true 4 4,.env 5],b_qg⟩
def b_qgw:ACode:=
 (.seq (.reg [i (.box 4 (v (.agg [.int .i64 0,.int .i64 0,.int .u64 0,.str []])))] [(1,l 0)])
 (.seq (.reg [i (.build [.int .i64 0,.int .i64 0,.int .u64 0,.str []] [(0,1,v (.int .i64 2)),(1,1,(e 0))]),i (.store 4 (e 1) (l 0))] [])
 .ret))
def f_qgw:AFunc:=⟨2,1,.pure,[.cell true 4 1],b_qgw⟩
def l_qgn_0:ACode:=
 (.seq (.seq (.reg [i (.len (e 0)),i (.bin .lss (e 4) (l 0))] [(6,l 1)])
 (.cond (e 6) .skip (.exit 0)))
 (.seq (.blk 1 (.seq (.reg [i (.idxs 4 (e 0) (e 4)),i (.load true 4 (l 0)),i (.load true 4 (e 3)),i (.callv (e 1) [l 1,l 2]),i (.bin .lss (l 3) (v (.int .i64 0)))] [(7,l 4)])
 (.cond (e 7) (.reg [i (.idxs 4 (e 0) (e 4)),i (.load true 4 (l 0)),i (.store 4 (e 3) (l 1))] []) .skip)))
 (.reg [i (.bin .add (e 4) (v (.int .i64 1)))] [(4,l 0)])))
def b_qgn:ACode:=
 (.seq (.reg [i (.box 4 (v (.agg [.int .i64 0,.int .i64 0,.int .u64 0,.str []])))] [(2,l 0)])
 (.seq (.seq (.reg [i (.len (e 0)),i (.bin .lss (l 0) (v (.int .i64 1)))] [(5,l 1)])
 (.cond (e 5) (.reg [i (.bad),i (.bad)] []) .skip))
 (.seq (.reg [i (.idxs 4 (e 0) (v (.int .i64 0))),i (.load true 4 (l 0)),i (.box 4 (v (.agg [.int .i64 0,.int .i64 0,.int .u64 0,.str []]))),i (.store 4 (l 2) (l 1))] [(3,l 2)])
 (.seq (.seq (.reg [] [(4,v (.int .i64 1))])
 (.blk 0 (.loop [6,7] l_qgn_0)))
 (.seq (.reg [i (.load true 4 (e 3)),i (.store 4 (e 2) (l 0))] [])
 .ret)))))
def f_qgn:AFunc:=⟨8,2,.pure,[.cell true 4 2],b_qgn⟩
def l_qgm_0:ACode:=
 (.seq (.seq (.reg [i (.len (e 0)),i (.bin .lss (e 4) (l 0))] [(6,l 1)])
 (.cond (e 6) .skip (.exit 0)))
 (.seq (.blk 1 (.seq (.reg [i (.idxs 4 (e 0) (e 4)),i (.load true 4 (l 0)),i (.load true 4 (e 3)),i (.callv (e 1) [l 1,l 2]),i (.bin .gtr (l 3) (v (.int .i64 0)))] [(7,l 4)])
 (.cond (e 7) (.reg [i (.idxs 4 (e 0) (e 4)),i (.load true 4 (l 0)),i (.store 4 (e 3) (l 1))] []) .skip)))
 (.reg [i (.bin .add (e 4) (v (.int .i64 1)))] [(4,l 0)])))
def b_qgm:ACode:=
 (.seq (.reg [i (.box 4 (v (.agg [.int .i64 0,.int .i64 0,.int .u64 0,.str []])))] [(2,l 0)])
 (.seq (.seq (.reg [i (.len (e 0)),i (.bin .lss (l 0) (v (.int .i64 1)))] [(5,l 1)])
 (.cond (e 5) (.reg [i (.bad),i (.bad)] []) .skip))
 (.seq (.reg [i (.idxs 4 (e 0) (v (.int .i64 0))),i (.load true 4 (l 0)),i (.box 4 (v (.agg [.int .i64 0,.int .i64 0,.int .u64 0,.str []]))),i (.store 4 (l 2) (l 1))] [(3,l 2)])
 (.seq (.seq (.reg [] [(4,v (.int .i64 1))])
 (.blk 0 (.loop [6,7] l_qgm_0)))
 (.seq (.reg [i (.load true 4 (e 3)),i (.store 4 (e 2) (l 0))] [])
 .ret)))))
def f_qgm:AFunc:=⟨8,2,.pure,[.cell true 4 2],b_qgm⟩
def b_qam:ACode:=
 (.seq (.reg [i (.box 4 (e 0)),i (.box 4 (e 1))] [(2,l 0),(3,l 1),(4,v (.int .i64 0))])
 (.seq (.seq (.reg [i (.fld 0 (e 2)),i (.load false 1 (l 0)),i (.fld 0 (e 3)),i (.load false 1 (l 2)),i (.bin .neq (l 1) (l 3))] [(5,l 4)])
 (.cond (e 5) (.seq (.reg [i (.fld 0 (e 2)),i (.load false 1 (l 0)),i (.fld 0 (e 3)),i (.load false 1 (l 2)),i (.bin .lss (l 1) (l 3)),i (.call 137 [l 4] false)] [(4,l 5)])
 .ret) .skip))
 (.seq (.seq (.reg [i (.fld 1 (e 2)),i (.load false 1 (l 0)),i (.fld 1 (e 3)),i (.load false 1 (l 2)),i (.bin .neq (l 1) (l 3))] [(6,l 4)])
 (.cond (e 6) (.seq (.reg [i (.fld 1 (e 2)),i (.load false 1 (l 0)),i (.fld 1 (e 3)),i (.load false 1 (l 2)),i (.bin .lss (l 1) (l 3)),i (.call 137 [l 4] false)] [(4,l 5)])
 .ret) .skip))
 (.seq (.seq (.reg [i (.fld 2 (e 2)),i (.load false 1 (l 0)),i (.fld 2 (e 3)),i (.load false 1 (l 2)),i (.bin .neq (l 1) (l 3))] [(7,l 4)])
 (.cond (e 7) (.seq (.reg [i (.fld 2 (e 2)),i (.load false 1 (l 0)),i (.fld 2 (e 3)),i (.load false 1 (l 2)),i (.bin .lss (l 1) (l 3)),i (.call 137 [l 4] false)] [(4,l 5)])
 .ret) .skip))
 (.seq (.seq (.reg [i (.fld 3 (e 2)),i (.load false 1 (l 0)),i (.fld 3 (e 3)),i (.load false 1 (l 2)),i (.bin .neq (l 1) (l 3))] [(8,l 4)])
 (.cond (e 8) (.seq (.reg [i (.fld 3 (e 2)),i (.load false 1 (l 0)),i (.fld 3 (e 3)),i (.load false 1 (l 2)),i (.bin .lss (l 1) (l 3)),i (.call 137 [l 4] false)] [(4,l 5)])
 .ret) .skip))
 (.seq (.reg [] [(4,v (.int .i64 0))])
 .ret))))))
def f_qam:AFunc:=⟨9,2,.pure,[.env 4],b_qam⟩
def b_qan:ACode:=
 (.seq (.reg [] [(1,v (.int .i64 0))])
 (.seq (.seq (.reg [] [(2,e 0)])
 (.cond (e 2) (.seq (.reg [] [(1,v (.int .i64 (-1)))])
 .ret) .skip))
 (.seq (.reg [] [(1,v (.int .i64 1))])
 .ret)))
def f_qan:AFunc:=⟨3,1,.pure,[.env 1],b_qan⟩
def b_qew:ACode:=
 (.seq (.reg [] [(1,v (.bool false))])
 (.seq (.reg [i (.bin .lss (e 0) (v (.int .i64 0)))] [(1,l 0)])
 .ret))
def f_qew:AFunc:=⟨2,1,.pure,[.env 1],b_qew⟩
def b_qez:ACode:=
 (.seq (.reg [i (.box 1 (e 0))] [(2,l 0),(3,v (.bool false))])
 (.seq (.reg [i (.mkfn 230 [] [e 2])] [(4,l 0)])
 (.seq (.reg [i (.len (e 1)),i (.bin .leq (l 0) (v (.int .i64 16))),g (l 1) true (.mov (e 1)),g (l 1) true (.mov (e 4)),g (l 1) true (.call 77 [l 2,l 3] false),g (l 1) true (.una .not (l 4)),i (.pick (l 1) (l 5) (v (.bool false)))] [(3,l 6)])
 .ret)))
def f_qez:AFunc:=⟨5,2,.pure,[.env 3],b_qez⟩
def l_qfq_0:ACode:=
 (.seq (.reg [i (.bin .lss (e 10) (e 9))] [(11,l 0)])
 (.seq (.cond (e 11) .skip (.exit 0))
 (.seq (.blk 1 (.seq (.reg [i (.idxs 4 (e 8) (e 10)),i (.load true 4 (l 0)),i (.box 4 (v (.agg [.int .i64 0,.int .i64 0,.int .u64 0,.str []]))),i (.store 4 (l 2) (l 1))] [(5,l 2),(4,e 10)])
 (.seq (.seq (.reg [i (.len (e 1)),i (.bin .geq (e 4) (l 0))] [(12,l 1)])
 (.cond (e 12) (.seq (.reg [] [(3,v (.int .i64 1))])
 .ret) .skip))
 (.seq (.reg [i (.idxs 4 (e 1) (e 4)),i (.load true 4 (l 0)),i (.box 4 (v (.agg [.int .i64 0,.int .i64 0,.int .u64 0,.str []]))),i (.store 4 (l 2) (l 1))] [(6,l 2)])
 (.seq (.reg [i (.load true 4 (e 5)),i (.load true 4 (e 6)),i (.callv (e 2) [l 0,l 1])] [(7,l 2)])
 (.seq (.reg [i (.bin .neq (e 7) (v (.int .i64 0)))] [(13,l 0)])
 (.cond (e 13) (.seq (.reg [] [(3,e 7)])
 .ret) .skip)))))))
 (.reg [i (.bin .add (e 10) (v (.int .i64 1)))] [(10,l 0)]))))
def b_qfq:ACode:=
 (.seq (.reg [] [(3,v (.int .i64 0))])
 (.seq (.seq (.reg [i (.len (e 0))] [(8,e 0),(9,l 0),(10,v (.int .i64 0))])
 (.blk 0 (.loop [3,4,5,6,7,11,12,13] l_qfq_0)))
 (.seq (.seq (.reg [i (.len (e 0)),i (.len (e 1)),i (.bin .lss (l 0) (l 1))] [(14,l 2)])
 (.cond (e 14) (.seq (.reg [] [(3,v (.int .i64 (-1)))])
 .ret) .skip))
 (.seq (.reg [] [(3,v (.int .i64 0))])
 .ret))))
def f_qfq:AFunc:=⟨15,3,.pure,[.env 3],b_qfq⟩
def b_qfj:ACode:=
 (.seq (.reg [i (.box 4 (e 0)),i (.box 4 (e 1))] [(2,l 0),(3,l 1),(4,v (.int .i64 0))])
 (.seq (.reg [i (.fld 0 (e 2)),i (.load false 1 (l 0)),i (.fld 0 (e 3)),i (.load false 1 (l 2)),i (.call 242 [l 1,l 3] false),i (.fld 1 (e 2)),i (.load false 1 (l 5)),i (.fld 1 (e 3)),i (.load false 1 (l 7)),i (.call 243 [l 6,l 8] false),i (.fld 2 (e 2)),i (.load false 1 (l 10)),i (.fld 2 (e 3)),i (.load false 1 (l 12)),i (.call 244 [l 11,l 13] false),i (.fld 3 (e 2)),i (.load false 1 (l 15)),i (.fld 3 (e 3)),i (.load false 1 (l 17)),i (.call 245 [l 16,l 18] false),i (.mkl 1 [l 4,l 9,l 14,l 19]),i (.call 141 [l 20] false)] [(4,l 21)])
 .ret))
def f_qfj:AFunc:=⟨5,2,.pure,[.env 4],b_qfj⟩
def l_qgc_0:ACode:=
 (.seq (.reg [i (.bin .lss (e 6) (e 5))] [(7,l 0)])
 (.seq (.cond (e 7) .skip (.exit 0))
 (.seq (.blk 1 (.seq (.reg [] [(3,e 6)])
 (.seq (.reg [i (.idxs 4 (e 0) (e 3)),i (.load true 4 (l 0)),i (.idxs 4 (e 1) (e 3)),i (.load true 4 (l 2)),i (.eqa true [0,0,0,2] (l 1) (l 3))] [(8,l 4)])
 (.cond (e 8) (.seq (.reg [] [(2,v (.bool false))])
 .ret) .skip))))
 (.reg [i (.bin .add (e 6) (v (.int .i64 1)))] [(6,l 0)]))))
def b_qgc:ACode:=
 (.seq (.reg [] [(2,v (.bool false))])
 (.seq (.seq (.reg [i (.len (e 0)),i (.len (e 1)),i (.bin .neq (l 0) (l 1))] [(4,l 2)])
 (.cond (e 4) (.seq (.reg [] [(2,v (.bool false))])
 .ret) .skip))
 (.seq (.seq (.reg [i (.len (e 0))] [(5,l 0),(6,v (.int .i64 0))])
 (.blk 0 (.loop [2,3,7,8] l_qgc_0)))
 (.seq (.reg [] [(2,v (.bool true))])
 .ret))))
def f_qgc:AFunc:=⟨9,2,.pure,[.env 2],b_qgc⟩
def l_qfg_0:ACode:=
 (.seq (.seq (.reg [i (.load false 1 (e 1)),i (.len (l 0)),i (.bin .lss (e 3) (l 1)),g (l 2) true (.load false 1 (e 2)),g (l 2) true (.load false 1 (e 1)),g (l 2) true (.idxs 1 (l 4) (v (.int .i64 0))),g (l 2) true (.load false 1 (l 5)),g (l 2) true (.load false 1 (e 1)),g (l 2) true (.mov (e 3)),g (l 2) true (.idxs 1 (l 7) (l 8)),g (l 2) true (.load false 1 (l 9)),g (l 2) true (.callv (l 3) [l 6,l 10]),i (.pick (l 2) (l 11) (v (.bool false)))] [(5,l 12)])
 (.cond (e 5) .skip (.exit 2)))
 (.blk 3 (.reg [i (.bin .add (e 3) (v (.int .i64 1)))] [(3,l 0)])))
def l_qfg_1:ACode:=
 (.seq (.seq (.reg [i (.load false 1 (e 1)),i (.len (l 0)),i (.bin .gtr (l 1) (v (.int .i64 0)))] [(4,l 2)])
 (.cond (e 4) .skip (.exit 0)))
 (.blk 1 (.seq (.reg [] [(3,v (.int .i64 1))])
 (.seq (.blk 2 (.loop [5] l_qfg_0))
 (.seq (.seq (.reg [i (.load false 1 (e 1)),i (.slice 1 (l 0) none (some (e 3))),i (.callv (e 0) [l 1]),i (.una .not (l 2))] [(6,l 3)])
 (.cond (e 6) .ret .skip))
 (.reg [i (.load false 1 (e 1)),i (.slice 1 (l 0) (some (e 3)) none),i (.store 1 (e 1) (l 1))] []))))))
def b_qfg:ACode:=
 (.blk 0 (.loop [3,4,5,6] l_qfg_1))
def f_qfg:AFunc:=⟨7,3,.keep,[],b_qfg⟩
def l_qdf_0:ACode:=
 (.seq (.reg [i (.bin .lss (e 21) (e 20))] [(22,l 0)])
 (.seq (.cond (e 22) .skip (.exit 2))
 (.seq (.blk 3 (.seq (.reg [i (.idxs 1 (e 19) (e 21)),i (.load false 1 (l 0))] [(12,e 21),(13,l 1)])
 (.regd [i (.idxs 1 (e 4) (e 13)),i (.load false 1 (l 0)),i (.mins (e 11) [l 1]),i (.idxa 2 1 (e 10) (e 12)),i (.store 1 (l 3) (e 13))] [(11,l 2)] [(0,5),(1,5)])))
 (.reg [i (.bin .add (e 21) (v (.int .i64 1)))] [(21,l 0)]))))
def l_qdf_1:ACode:=
 (.seq (.reg [i (.bin .lss (e 16) (e 15))] [(17,l 0)])
 (.seq (.cond (e 17) .skip (.exit 0))
 (.seq (.blk 1 (.seq (.reg [i (.idxs 8 (e 14) (e 16)),i (.load true 8 (l 0)),i (.box 8 (v (.agg [.int .i64 0,.int .i64 0,.int .i64 0,.int .i64 0,.int .i64 0,.int .i64 0,.int .u64 0,.str []]))),i (.store 8 (l 2) (l 1))] [(7,l 2),(6,e 16)])
 (.seq (.reg [i (.fld 0 (e 7)),i (.load false 1 (l 0)),i (.call 247 [l 1] false)] [(8,l 2)])
 (.seq (.seq (.reg [i (.bin .lss (e 8) (v (.int .i64 0))),g (l 0) false (.mov (e 8)),g (l 0) false (.mov (e 5)),g (l 0) false (.len (l 2)),g (l 0) false (.bin .gtr (l 1) (l 3)),i (.pick (l 0) (v (.bool true)) (l 4)),g (l 5) false (.load true 8 (e 7)),g (l 5) false (.call 246 [l 6] false),g (l 5) false (.una .not (l 7)),i (.pick (l 5) (v (.bool true)) (l 8))] [(18,l 9)])
 (.cond (e 18) (.seq (.reg [i (.mov (v (.nil0)))] [(2,l 0),(3,v (.bool false))])
 .ret) .skip))
 (.seq (.reg [i (.len (e 5)),i (.bin .sub (l 0) (e 8)),i (.slice 1 (e 5) (some (l 1)) none)] [(9,l 2)])
 (.seq (.reg [i (.build [.int .i64 0,.int .i64 0] [(0,1,v (.int .i64 (-1))),(1,1,v (.int .i64 (-1)))]),i (.box 2 (v (.agg [.int .i64 0,.int .i64 0]))),i (.store 2 (l 1) (l 0))] [(10,l 1)])
 (.seq (.reg [] [(11,e 6)])
 (.seq (.seq (.reg [i (.len (e 9))] [(19,e 9),(20,l 0),(21,v (.int .i64 0))])
 (.blk 2 (.loop [12,13,22] l_qdf_0)))
 (.seq (.seq (.reg [i (.load true 2 (e 10)),i (.fld 1 (e 7)),i (.load false 1 (l 1)),i (.fld 2 (e 7)),i (.load false 1 (l 3)),i (.build [.int .i64 0,.int .i64 0] [(0,1,(l 2)),(1,1,(l 4))]),i (.eqa true [0,0] (l 0) (l 5))] [(23,l 6)])
 (.cond (e 23) (.seq (.reg [i (.mov (v (.nil0)))] [(2,l 0),(3,v (.bool false))])
 .ret) .skip))
 (.seq (.reg [i (.mkl 1 [e 11]),i (.app 1 (e 4) (l 0))] [(4,l 1)])
 (.reg [i (.len (e 5)),i (.bin .sub (l 0) (e 8)),i (.slice 1 (e 5) none (some (l 1))),i (.mkl 1 [e 6]),i (.app 1 (l 2) (l 3))] [(5,l 4)])))))))))))
 (.reg [i (.bin .add (e 16) (v (.int .i64 1)))] [(16,l 0)]))))
def b_qdf:ACode:=
 (.seq (.reg [i (.box 1 (e 0)),i (.mov (v (.nil0)))] [(1,l 0),(2,l 1),(3,v (.bool false))])
 (.seq (.reg [i (.mknil 1),i (.mknil 1)] [(4,l 0),(5,l 1)])
 (.seq (.seq (.reg [i (.fld 0 (e 1)),i (.load false 1 (l 0)),i (.len (l 1))] [(14,l 1),(15,l 2),(16,v (.int .i64 0))])
 (.blk 0 (.loop [2,3,6,7,8,9,10,11,12,13,17,18,19,20,21,22,23] l_qdf_1)))
 (.seq (.reg [i (.len (e 5)),i (.bin .eql (l 0) (v (.int .i64 1))),g (l 1) true (.mov (e 4)),g (l 1) true (.len (l 2)),g (l 1) true (.bin .leq (l 3) (v (.int .i64 1000))),i (.pick (l 1) (l 4) (v (.bool false)))] [(2,e 4),(3,l 5)])
 .ret))))
def f_qdf:AFunc:=⟨24,1,.pure,[.env 2,.env 3],b_qdf⟩
def l_qbd_0:ACode:=
 (.seq (.reg [i (.bin .lss (e 12) (e 11))] [(13,l 0)])
 (.seq (.cond (e 13) .skip (.exit 0))
 (.seq (.blk 1 (.seq (.reg [i (.idxs 1 (e 10) (e 12)),i (.load false 1 (l 0))] [(7,l 1)])
 (.seq (.reg [i (.fld 1 (e 2)),i (.load true 1 (l 0)),i (.call 172 [l 1,e 7] false),i (.ext 0 (l 2)),i (.ext 1 (l 2)),i (.box 4 (v (.agg [.int .i64 0,.int .i64 0,.int .u64 0,.str []]))),i (.store 4 (l 5) (l 3))] [(8,l 5),(9,l 4)])
 (.blk 2 (.seq (.reg [i (.bin .eql (e 9) (v (.int .i64 140)))] [(14,l 0)])
 (.cond (e 14) (.reg [] [(6,e 9)]) (.seq (.reg [i (.bin .neq (e 9) (v (.int .i64 0)))] [(15,l 0)])
 (.cond (e 15) (.seq (.reg [i (.mov (v (.nil0)))] [(3,l 0),(4,v (.int .i64 2))])
 .ret) (.seq (.reg [i (.fld 0 (e 8)),i (.load false 1 (l 0)),i (.bin .neq (l 1) (v (.int .i64 0)))] [(16,l 2)])
 (.cond (e 16) (.reg [i (.load true 4 (e 8)),i (.mkl 4 [l 0]),i (.app 4 (e 5) (l 1))] [(5,l 2)]) .skip))))))))))
 (.reg [i (.bin .add (e 12) (v (.int .i64 1)))] [(12,l 0)]))))
def b_qbd:ACode:=
 (.seq (.reg [i (.box 2 (e 0)),i (.mov (v (.nil0)))] [(2,l 0),(3,l 1),(4,v (.int .i64 0))])
 (.seq (.reg [i (.mknil 4)] [(5,l 0)])
 (.seq (.reg [] [(6,v (.int .i64 0))])
 (.seq (.seq (.reg [i (.len (e 1))] [(10,e 1),(11,l 0),(12,v (.int .i64 0))])
 (.blk 0 (.loop [3,4,7,8,9,13,14,15,16] l_qbd_0)))
 (.seq (.reg [] [(3,e 5),(4,e 6)])
 .ret)))))
def f_qbd:AFunc:=⟨17,2,.pure,[.env 3,.env 4],b_qbd⟩
def b_qbc:ACode:=
 (.seq (.reg [i (.box 4 (e 0))] [(1,l 0),(2,v (.bool false))])
 (.seq (.reg [i (.fld 0 (e 1)),i (.load false 1 (l 0)),i (.bin .neq (l 1) (v (.int .i64 2)))] [(2,l 2)])
 .ret))
def f_qbc:AFunc:=⟨3,1,.pure,[.env 2],b_qbc⟩
def b_qfx:ACode:=
 (.seq (.reg [] [(2,v (.bool false))])
 (.seq (.reg [i (.call 248 [e 0,e 1] false),i (.bin .geq (l 0) (v (.int .i64 0)))] [(2,l 1)])
 .ret))
def f_qfx:AFunc:=⟨3,2,.pure,[.env 2],b_qfx⟩
def l_qc_0:ACode:=
 (.seq (.reg [i (.bin .lss (e 10) (e 9))] [(11,l 0)])
 (.seq (.cond (e 11) .skip (.exit 0))
 (.seq (.blk 1 (.seq (.reg [i (.idxs 4 (e 8) (e 10)),i (.load true 4 (l 0)),i (.box 4 (v (.agg [.int .i64 0,.int .i64 0,.int .u64 0,.str []]))),i (.store 4 (l 2) (l 1))] [(4,l 2)])
 (.seq (.reg [i (.load true 4 (e 3)),i (.load true 4 (e 4)),i (.call 201 [l 0,l 1] false),i (.ext 0 (l 2)),i (.ext 1 (l 2)),i (.box 4 (v (.agg [.int .i64 0,.int .i64 0,.int .u64 0,.str []]))),i (.store 4 (l 5) (l 3))] [(5,l 5),(6,l 4)])
 (.seq (.seq (.reg [i (.bin .neq (e 6) (v (.int .i64 0)))] [(12,l 0)])
 (.cond (e 12) (.seq (.reg [i (.load true 4 (e 5)),i (.store 4 (e 1) (l 0))] [(2,e 6)])
 .ret) .skip))
 (.reg [i (.load true 4 (e 5)),i (.store 4 (e 3) (l 0))] [])))))
 (.reg [i (.bin .add (e 10) (v (.int .i64 1)))] [(10,l 0)]))))
def b_qc:ACode:=
 (.seq (.reg [i (.box 4 (v (.agg [.int .i64 0,.int .i64 0,.int .u64 0,.str []])))] [(1,l 0),(2,v (.int .i64 0))])
 (.seq (.seq (.reg [i (.len (e 0)),i (.bin .gtr (l 0) (v (.int .i64 1048576)))] [(7,l 1)])
 (.cond (e 7) (.seq (.reg [i (.build [.int .i64 0,.int .i64 0,.int .u64 0,.str []] []),i (.store 4 (e 1) (l 0))] [(2,v (.int .i64 3))])
 .ret) .skip))
 (.seq (.reg [i (.call 202 [] false),i (.box 4 (v (.agg [.int .i64 0,.int .i64 0,.int .u64 0,.str []]))),i (.store 4 (l 1) (l 0))] [(3,l 1)])
 (.seq (.seq (.reg [i (.len (e 0))] [(8,e 0),(9,l 0),(10,v (.int .i64 0))])
 (.blk 0 (.loop [2,4,5,6,11,12] l_qc_0)))
 (.seq (.reg [i (.load true 4 (e 3)),i (.call 215 [l 0] false),i (.ext 0 (l 1)),i (.ext 1 (l 1)),i (.store 4 (e 1) (l 2))] [(2,l 3)])
 .ret)))))
def f_qc:AFunc:=⟨13,1,.pure,[.cell true 4 1,.env 2],b_qc⟩
def b_qbl:ACode:=
 (.seq (.reg [i (.box 4 (e 0)),i (.box 4 (e 1))] [(2,l 0),(3,l 1),(4,v (.int .i64 0))])
 (.seq (.reg [i (.load true 4 (e 2)),i (.mkl 4 [l 0]),i (.load true 4 (e 3)),i (.mkl 4 [l 2]),i (.call 214 [l 1,l 3] false)] [(4,l 4)])
 .ret))
def f_qbl:AFunc:=⟨5,2,.pure,[.env 4],b_qbl⟩
def l_qgk_0:ACode:=
 (.seq (.reg [i (.bin .lss (e 5) (e 4))] [(6,l 0)])
 (.seq (.cond (e 6) .skip (.exit 0))
 (.seq (.blk 1 (.seq (.reg [] [(3,e 5)])
 (.seq (.reg [i (.idxs 1 (e 0) (e 3)),i (.load false 1 (l 0)),i (.callv (e 1) [l 1])] [(7,l 2)])
 (.cond (e 7) (.seq (.reg [] [(2,e 3)])
 .ret) .skip))))
 (.reg [i (.bin .add (e 5) (v (.int .i64 1)))] [(5,l 0)]))))
def b_qgk:ACode:=
 (.seq (.reg [] [(2,v (.int .i64 0))])
 (.seq (.seq (.reg [i (.len (e 0))] [(4,l 0),(5,v (.int .i64 0))])
 (.blk 0 (.loop [2,3,6,7] l_qgk_0)))
 (.seq (.reg [] [(2,v (.int .i64 (-1)))])
 .ret)))
def f_qgk:AFunc:=⟨8,2,.pure,[.env 2],b_qgk⟩
def b_qbw:ACode:=
 (.seq (.reg [] [(2,v (.bool false))])
 (.seq (.reg [i (.load false 1 (e 1)),i (.call 253 [e 0,l 0,(v (.fn 254 [] []))] false),i (.una .not (l 1))] [(2,l 2)])
 .ret))
def f_qbw:AFunc:=⟨3,2,.pure,[.env 2],b_qbw⟩
def l_qgb_0:ACode:=
 (.seq (.reg [i (.bin .lss (e 10) (e 9))] [(11,l 0)])
 (.seq (.cond (e 11) .skip (.exit 0))
 (.seq (.blk 1 (.seq (.reg [i (.idxs 4 (e 8) (e 10)),i (.load true 4 (l 0)),i (.box 4 (v (.agg [.int .i64 0,.int .i64 0,.int .u64 0,.str []]))),i (.store 4 (l 2) (l 1))] [(5,l 2),(4,e 10)])
 (.seq (.reg [i (.idxs 1 (e 1) (e 4)),i (.load false 1 (l 0))] [(6,l 1)])
 (.seq (.reg [i (.load true 4 (e 5)),i (.callv (e 2) [l 0,e 6]),i (.una .not (l 1))] [(12,l 2)])
 (.cond (e 12) (.seq (.reg [] [(3,v (.bool false))])
 .ret) .skip)))))
 (.reg [i (.bin .add (e 10) (v (.int .i64 1)))] [(10,l 0)]))))
def b_qgb:ACode:=
 (.seq (.reg [] [(3,v (.bool false))])
 (.seq (.seq (.reg [i (.len (e 0)),i (.len (e 1)),i (.bin .neq (l 0) (l 1))] [(7,l 2)])
 (.cond (e 7) (.seq (.reg [] [(3,v (.bool false))])
 .ret) .skip))
 (.seq (.seq (.reg [i (.len (e 0))] [(8,e 0),(9,l 0),(10,v (.int .i64 0))])
 (.blk 0 (.loop [3,4,5,6,11,12] l_qgb_0)))
 (.seq (.reg [] [(3,v (.bool true))])
 .ret))))
def f_qgb:AFunc:=⟨13,3,.pure,[.env 3],b_qgb⟩
def b_qbx:ACode:=
 (.seq (.reg [i (.box 4 (e 0))] [(2,l 0),(3,v (.bool false))])
 (.seq (.reg [i (.load true 4 (e 2)),i (.call 255 [l 0] false),i (.bin .eql (l 1) (v (.int .i64 0))),g (l 2) true (.fld 0 (e 2)),g (l 2) true (.load false 1 (l 3)),g (l 2) true (.bin .eql (l 4) (v (.int .i64 0))),g (l 2) true (.mov (l 5)),g (l 6) false (.fld 0 (e 2)),g (l 6) false (.load false 1 (l 7)),g (l 6) false (.mov (e 1)),g (l 6) false (.bin .eql (l 8) (l 9)),g (l 2) true (.pick (l 6) (v (.bool true)) (l 10)),i (.pick (l 2) (l 11) (v (.bool false)))] [(3,l 12)])
 .ret))
def f_qbx:AFunc:=⟨4,2,.pure,[.env 3],b_qbx⟩
def b_qgs:ACode:=
 (.seq (.reg [i (.box 4 (e 0))] [(1,l 0),(2,v (.int .i64 0))])
 (.seq (.seq (.reg [i (.load true 4 (e 1)),i (.call 256 [l 0] false),i (.build [.int .i64 0,.int .i64 0,.int .u64 0,.str []] []),i (.eqa true [0,0,0,2] (l 1) (l 2))] [(3,l 3)])
 (.cond (e 3) (.seq (.reg [] [(2,v (.int .i64 120))])
 .ret) .skip))
 (.seq (.reg [] [(2,v (.int .i64 0))])
 .ret)))
def f_qgs:AFunc:=⟨4,1,.pure,[.env 2],b_qgs⟩
def b_qfd:ACode:=
 (.seq (.reg [] [(1,v (.bool false))])
 (.seq (.reg [i (.mov (v (.fn 260 [] [])))] [(2,l 0)])
 (.seq (.reg [i (.len (e 0)),i (.bin .leq (l 0) (v (.int .i64 16))),g (l 1) true (.mov (e 0)),g (l 1) true (.mov (e 2)),g (l 1) true (.call 259 [l 2,l 3] false),g (l 1) true (.una .not (l 4)),i (.pick (l 1) (l 5) (v (.bool false)))] [(1,l 6)])
 .ret)))
def f_qfd:AFunc:=⟨3,1,.pure,[.env 1],b_qfd⟩
def b_qgd:ACode:=
 (.seq (.reg [i (.mov (v (.nil0)))] [(2,l 0)])
 (.seq (.seq (.reg [i (.bin .lss (e 1) (v (.int .i64 0)))] [(3,l 0)])
 (.cond (e 3) (.reg [i (.bad),i (.bad)] []) .skip))
 (.seq (.seq (.reg [i (.cap (e 0)),i (.len (e 0)),i (.bin .sub (l 0) (l 1)),i (.bin .sub (e 1) (l 2))] [(1,l 3)])
 (.seq (.reg [i (.bin .gtr (e 1) (v (.int .i64 0)))] [(4,l 0)])
 (.cond (e 4) (.reg [i (.cap (e 0)),i (.slice 1 (e 0) none (some (l 0))),i (.appz 1 (.nil0) (l 1) (e 1)),i (.len (e 0)),i (.slice 1 (l 2) none (some (l 3)))] [(0,l 4)]) .skip)))
 (.seq (.reg [] [(2,e 0)])
 .ret))))
def f_qgd:AFunc:=⟨5,2,.keep,[.env 2],b_qgd⟩
def l_qfs_0:ACode:=
 (.seq (.reg [i (.bin .lss (e 13) (e 12))] [(14,l 0)])
 (.seq (.cond (e 14) .skip (.exit 2))
 (.seq (.blk 3 (.seq (.reg [i (.idxs 1 (e 11) (e 13)),i (.load false 1 (l 0))] [(5,l 1)])
 (.reg [i (.app 4 (e 4) (e 5))] [(4,l 0)])))
 (.reg [i (.bin .add (e 13) (v (.int .i64 1)))] [(13,l 0)]))))
def l_qfs_1:ACode:=
 (.seq (.reg [i (.bin .lss (e 8) (e 7))] [(9,l 0)])
 (.seq (.cond (e 9) .skip (.exit 0))
 (.seq (.blk 1 (.seq (.reg [i (.idxs 1 (e 6) (e 8)),i (.load false 1 (l 0))] [(3,l 1)])
 (.seq (.reg [i (.len (e 3)),i (.bin .add (e 2) (l 0))] [(2,l 1)])
 (.seq (.reg [i (.bin .lss (e 2) (v (.int .i64 0)))] [(10,l 0)])
 (.cond (e 10) (.reg [i (.bad),i (.bad)] []) .skip)))))
 (.reg [i (.bin .add (e 8) (v (.int .i64 1)))] [(8,l 0)]))))
def b_qfs:ACode:=
 (.seq (.reg [i (.mov (v (.nil0)))] [(1,l 0)])
 (.seq (.reg [] [(2,v (.int .i64 0))])
 (.seq (.seq (.reg [i (.len (e 0))] [(6,e 0),(7,l 0),(8,v (.int .i64 0))])
 (.blk 0 (.loop [3,9,10] l_qfs_1)))
 (.seq (.reg [i (.call 265 [(v (.nil0)),e 2] false)] [(4,l 0)])
 (.seq (.seq (.reg [i (.len (e 0))] [(11,e 0),(12,l 0),(13,v (.int .i64 0))])
 (.blk 2 (.loop [5,14] l_qfs_0)))
 (.seq (.reg [] [(1,e 4)])
 .ret))))))
def f_qfs:AFunc:=⟨15,1,.pure,[.env 1],b_qfs⟩
def b_qep:ACode:=
 (.seq (.reg [i (.mov (v (.nil0)))] [(1,l 0),(2,v (.int .i64 0))])
 (.seq (.seq (.reg [i (.mkl 1 [e 0]),i (.call 79 [l 0] false)] [(3,l 1)])
 (.seq (.reg [i (.bin .neq (e 3) (v (.int .i64 0)))] [(4,l 0)])
 (.cond (e 4) (.seq (.reg [i (.mov (v (.nil0)))] [(1,l 0),(2,e 3)])
 .ret) .skip)))
 (.seq (.reg [i (.call 80 [e 0] true),i (.call 266 [l 0,(v (.fn 116 [] []))] false)] [(1,l 1),(2,v (.int .i64 0))])
 .ret)))
def f_qep:AFunc:=⟨5,1,.pure,[.env 1,.env 2],b_qep⟩
def b_qef:ACode:=
 (.seq (.reg [] [(1,v (.bool false))])
 (.seq (.reg [i (.nilck (e 0)),i (.fld 3 (l 0)),i (.fld 4 (l 1)),i (.load false 1 (l 2)),i (.nilck (e 0)),i (.fld 17 (l 4)),i (.store 1 (l 5) (l 3))] [])
 (.seq (.reg [i (.nilck (e 0)),i (.fld 3 (l 0)),i (.fld 4 (l 1)),i (.load false 1 (l 2)),i (.call 77 [l 3,(v (.fn 272 [] []))] false),i (.una .not (l 4))] [(2,l 5)])
 (.seq (.reg [g (e 2) true (.mov (e 0)),g (e 2) true (.nilck (l 0)),g (e 2) true (.fld 3 (l 1)),g (e 2) true (.fld 3 (l 2)),g (e 2) true (.load false 1 (l 3)),g (e 2) true (.bin .geq (l 4) (v (.int .i64 0))),i (.pick (e 2) (l 5) (v (.bool false))),g (l 6) true (.mov (e 0)),g (l 6) true (.nilck (l 7)),g (l 6) true (.fld 3 (l 8)),g (l 6) true (.fld 3 (l 9)),g (l 6) true (.load false 1 (l 10)),g (l 6) true (.bin .lss (l 11) (v (.int .i64 4))),i (.pick (l 6) (l 12) (v (.bool false))),g (l 13) true (.mov (e 0)),g (l 13) true (.nilck (l 14)),g (l 13) true (.fld 3 (l 15)),g (l 13) true (.fld 4 (l 16)),g (l 13) true (.load false 1 (l 17)),g (l 13) true (.len (l 18)),g (l 13) true (.bin .gtr (l 19) (v (.int .i64 0))),i (.pick (l 13) (l 20) (v (.bool false))),g (l 21) true (.mov (e 0)),g (l 21) true (.nilck (l 22)),g (l 21) true (.fld 3 (l 23)),g (l 21) true (.fld 4 (l 24)),g (l 21) true (.load false 1 (l 25)),g (l 21) true (.len (l 26)),g (l 21) true (.bin .leq (l 27) (v (.int .i64 4))),i (.pick (l 21) (l 28) (v (.bool false)))] [(1,l 29)])
 .ret))))
def f_qef:AFunc:=⟨3,1,.keep,[.env 1],b_qef⟩
def b_qdz:ACode:=
 (.seq (.reg [] [(1,v (.bool false))])
 (.seq (.reg [i (.nilck (e 0)),i (.fld 3 (l 0)),i (.fld 4 (l 1)),i (.load false 1 (l 2)),i (.nilck (e 0)),i (.fld 17 (l 4)),i (.store 1 (l 5) (l 3))] [])
 (.seq (.reg [i (.nilck (e 0)),i (.fld 3 (l 0)),i (.fld 4 (l 1)),i (.load false 1 (l 2)),i (.call 77 [l 3,(v (.fn 273 [] []))] false),i (.una .not (l 4))] [(2,l 5)])
 (.seq (.reg [g (e 2) true (.mov (e 0)),g (e 2) true (.nilck (l 0)),g (e 2) true (.fld 3 (l 1)),g (e 2) true (.fld 3 (l 2)),g (e 2) true (.load false 1 (l 3)),g (e 2) true (.bin .geq (l 4) (v (.int .i64 0))),i (.pick (e 2) (l 5) (v (.bool false))),g (l 6) true (.mov (e 0)),g (l 6) true (.nilck (l 7)),g (l 6) true (.fld 3 (l 8)),g (l 6) true (.fld 3 (l 9)),g (l 6) true (.load false 1 (l 10)),g (l 6) true (.bin .lss (l 11) (v (.int .i64 30))),i (.pick (l 6) (l 12) (v (.bool false))),g (l 13) true (.mov (e 0)),g (l 13) true (.nilck (l 14)),g (l 13) true (.fld 3 (l 15)),g (l 13) true (.fld 4 (l 16)),g (l 13) true (.load false 1 (l 17)),g (l 13) true (.len (l 18)),g (l 13) true (.bin .gtr (l 19) (v (.int .i64 0))),i (.pick (l 13) (l 20) (v (.bool false))),g (l 21) true (.mov (e 0)),g (l 21) true (.nilck (l 22)),g (l 21) true (.fld 3 (l 23)),g (l 21) true (.fld 4 (l 24)),g (l 21) true (.load false 1 (l 25)),g (l 21) true (.len (l 26)),g (l 21) true (.bin .leq (l 27) (v (.int .i64 16))),i (.pick (l 21) (l 28) (v (.bool false)))] [(1,l 29)])
 .ret))))
def f_qdz:AFunc:=⟨3,1,.keep,[.env 1],b_qdz⟩
def b_qeb:ACode:=
 (.seq (.reg [] [(1,v (.bool false))])
 (.seq (.reg [i (.nilck (e 0)),i (.fld 15 (l 0)),i (.load false 1 (l 1)),i (.nilck (e 0)),i (.fld 16 (l 3)),i (.load false 1 (l 4)),i (.mkl 1 [l 2,l 5]),i (.call 275 [l 6] false),i (.nilck (e 0)),i (.fld 17 (l 8)),i (.store 1 (l 9) (l 7))] [])
 (.seq (.reg [i (.nilck (e 0)),i (.fld 3 (l 0)),i (.fld 6 (l 1)),i (.load true 1 (l 2)),i (.nilck (e 0)),i (.fld 17 (l 4)),i (.load false 1 (l 5)),i (.call 274 [l 3,l 6] false)] [(1,l 7)])
 .ret)))
def f_qeb:AFunc:=⟨2,1,.keep,[.env 1],b_qeb⟩
def b_qdw:ACode:=
 (.seq (.reg [] [(1,v (.bool false))])
 (.seq (.reg [i (.nilck (e 0)),i (.fld 15 (l 0)),i (.load false 1 (l 1)),i (.nilck (e 0)),i (.fld 17 (l 3)),i (.store 1 (l 4) (l 2))] [])
 (.seq (.reg [i (.nilck (e 0)),i (.fld 3 (l 0)),i (.fld 6 (l 1)),i (.load true 1 (l 2)),i (.nilck (e 0)),i (.fld 15 (l 4)),i (.load false 1 (l 5)),i (.call 274 [l 3,l 6] false)] [(1,l 7)])
 .ret)))
def f_qdw:AFunc:=⟨2,1,.keep,[.env 1],b_qdw⟩
def l_qdy_0:ACode:=
 (.seq (.reg [i (.bin .lss (e 16) (e 15))] [(17,l 0)])
 (.seq (.cond (e 17) .skip (.exit 2))
 (.seq (.blk 3 (.seq (.reg [i (.idxs 2 (e 14) (e 16)),i (.load true 2 (l 0)),i (.box 2 (v (.agg [.int .i64 0,.nil0]))),i (.store 2 (l 2) (l 1))] [(5,l 2)])
 (.seq (.reg [] [(6,v (.int .i64 2))])
 (.seq (.seq (.reg [i (.fld 0 (e 5)),i (.load false 1 (l 0)),i (.bin .eql (l 1) (v (.int .i64 1)))] [(18,l 2)])
 (.cond (e 18) (.reg [g (e 3) true (.fld 1 (e 5)),g (e 3) true (.fld 0 (l 0)),g (e 3) true (.load false 1 (l 1)),g (e 3) true (.len (l 2)),g (e 3) true (.bin .eql (l 3) (v (.int .i64 0))),i (.pick (e 3) (l 4) (v (.bool false)))] [(3,l 5)]) (.seq (.reg [i (.fld 1 (e 5)),i (.load true 1 (l 0)),i (.nilck (e 0)),i (.fld 15 (l 2)),i (.load false 1 (l 3)),i (.call 276 [l 1,l 4] false),i (.ext 0 (l 5)),i (.ext 1 (l 5))] [(7,l 6),(8,l 7)])
 (.seq (.reg [g (e 3) true (.mov (e 8)),g (e 3) true (.bin .eql (l 0) (v (.int .i64 0))),i (.pick (e 3) (l 1) (v (.bool false))),g (l 2) true (.fld 0 (e 5)),g (l 2) true (.load false 1 (l 3)),g (l 2) true (.bin .gtr (l 4) (v (.int .i64 1))),i (.pick (l 2) (l 5) (v (.bool false))),g (l 6) true (.fld 0 (e 5)),g (l 6) true (.load false 1 (l 7)),g (l 6) true (.bin .leq (l 8) (v (.int .i64 5))),i (.pick (l 6) (l 9) (v (.bool false)))] [(3,l 10)])
 (.seq (.reg [i (.fld 0 (e 5)),i (.load false 1 (l 0))] [(19,l 1)])
 (.blk 4 (.seq (.reg [i (.bin .eql (e 19) (v (.int .i64 3)))] [(20,l 0)])
 (.cond (e 20) (.reg [g (e 3) true (.mov (e 7)),g (e 3) true (.bin .eql (l 0) (v (.int .i64 2))),g (e 3) true (.mov (l 1)),g (l 2) false (.mov (e 7)),g (l 2) false (.bin .eql (l 3) (v (.int .i64 0))),g (e 3) true (.pick (l 2) (v (.bool true)) (l 4)),i (.pick (e 3) (l 5) (v (.bool false)))] [(3,l 6)]) (.seq (.seq (.reg [i (.bin .eql (e 19) (v (.int .i64 4)))] [(21,l 0)])
 (.cond (e 21) .skip (.reg [i (.bin .eql (e 19) (v (.int .i64 5)))] [(21,l 0)])))
 (.cond (e 21) (.reg [] [(6,e 7)]) .skip))))))))))
 (.reg [i (.nilck (e 0)),i (.fld 17 (l 0)),i (.load false 1 (l 1)),i (.mkl 1 [e 6]),i (.app 1 (l 2) (l 3)),i (.nilck (e 0)),i (.fld 17 (l 5)),i (.store 1 (l 6) (l 4))] [])))))
 (.reg [i (.bin .add (e 16) (v (.int .i64 1)))] [(16,l 0)]))))
def l_qdy_1:ACode:=
 (.seq (.reg [i (.bin .lss (e 11) (e 10))] [(12,l 0)])
 (.seq (.cond (e 12) .skip (.exit 0))
 (.seq (.blk 1 (.seq (.reg [i (.idxs 1 (e 9) (e 11)),i (.load false 1 (l 0))] [(4,l 1)])
 (.seq (.seq (.reg [i (.bin .lss (e 4) (v (.int .i64 0))),g (l 0) false (.mov (e 4)),g (l 0) false (.mov (e 0)),g (l 0) false (.nilck (l 2)),g (l 0) false (.fld 15 (l 3)),g (l 0) false (.load false 1 (l 4)),g (l 0) false (.len (l 5)),g (l 0) false (.bin .geq (l 1) (l 6)),i (.pick (l 0) (v (.bool true)) (l 7))] [(13,l 8)])
 (.cond (e 13) (.seq (.reg [] [(1,v (.bool false))])
 .ret) .skip))
 (.reg [i (.nilck (e 0)),i (.fld 17 (l 0)),i (.load false 1 (l 1)),i (.nilck (e 0)),i (.fld 15 (l 3)),i (.load false 1 (l 4)),i (.idxs 1 (l 5) (e 4)),i (.load false 1 (l 6)),i (.mkl 1 [l 7]),i (.app 1 (l 2) (l 8)),i (.nilck (e 0)),i (.fld 17 (l 10)),i (.store 1 (l 11) (l 9))] []))))
 (.reg [i (.bin .add (e 11) (v (.int .i64 1)))] [(11,l 0)]))))
def b_qdy:ACode:=
 (.seq (.reg [] [(1,v (.bool false))])
 (.seq (.reg [i (.nilck (e 0)),i (.fld 3 (l 0)),i (.load true 12 (l 1)),i (.box 12 (v (.agg [.int .i64 0,.int .i64 0,.int .i64 0,.int .i64 0,.nil0,.bool false,.nil0,.nil0,.nil0,.nil0,.nil0,.int .i64 0]))),i (.store 12 (l 3) (l 2))] [(2,l 3)])
 (.seq (.reg [i (.fld 7 (e 2)),i (.load false 1 (l 0)),i (.len (l 1)),i (.bin .leq (l 2) (v (.int .i64 3))),g (l 3) true (.fld 8 (e 2)),g (l 3) true (.load false 1 (l 4)),g (l 3) true (.len (l 5)),g (l 3) true (.bin .leq (l 6) (v (.int .i64 12))),i (.pick (l 3) (l 7) (v (.bool false))),g (l 8) true (.fld 7 (e 2)),g (l 8) true (.load false 1 (l 9)),g (l 8) true (.len (l 10)),g (l 8) true (.fld 8 (e 2)),g (l 8) true (.load false 1 (l 12)),g (l 8) true (.len (l 13)),g (l 8) true (.bin .add (l 11) (l 14)),g (l 8) true (.bin .gtr (l 15) (v (.int .i64 0))),i (.pick (l 8) (l 16) (v (.bool false)))] [(3,l 17)])
 (.seq (.reg [i (.nilck (e 0)),i (.fld 17 (l 0)),i (.store 1 (l 1) (v (.nil0)))] [])
 (.seq (.seq (.lift 0 17 1 (.reg [i (.fld 7 (e 2)),i (.load false 1 (l 0)),i (.len (l 1))] [(9,l 1),(10,l 2),(11,v (.int .i64 0))]))
 (.blk 0 (.loop [1,4,12,13] l_qdy_1)))
 (.seq (.seq (.reg [i (.fld 8 (e 2)),i (.load false 1 (l 0)),i (.len (l 1))] [(14,l 1),(15,l 2),(16,v (.int .i64 0))])
 (.blk 2 (.loop [5,6,7,8,17,18,19,20,21] l_qdy_0)))
 (.seq (.reg [] [(1,e 3)])
 .ret)))))))
def f_qdy:AFunc:=⟨22,1,.keep,[.env 1],b_qdy⟩
def l_qed_0:ACode:=
 (.seq (.reg [i (.bin .lss (e 8) (e 7))] [(9,l 0)])
 (.seq (.cond (e 9) .skip (.exit 0))
 (.seq (.blk 1 (.seq (.reg [i (.idxs 2 (e 6) (e 8)),i (.load true 2 (l 0)),i (.box 2 (v (.agg [.int .i64 0,.nil0]))),i (.store 2 (l 2) (l 1))] [(4,l 2),(3,e 8)])
 (.seq (.reg [i (.fld 0 (e 4)),i (.load false 1 (l 0)),i (.bin .eql (l 1) (v (.int .i64 3)))] [(10,l 2)])
 (.cond (e 10) (.reg [i (.nilck (e 0)),i (.fld 17 (l 0)),i (.load false 1 (l 1)),i (.nilck (e 0)),i (.fld 3 (l 3)),i (.fld 7 (l 4)),i (.load false 1 (l 5)),i (.len (l 6)),i (.bin .add (l 7) (e 3)),i (.idxs 1 (l 2) (l 8)),i (.store 1 (l 9) (v (.int .i64 4)))] []) .skip))))
 (.reg [i (.bin .add (e 8) (v (.int .i64 1)))] [(8,l 0)]))))
def b_qed:ACode:=
 (.seq (.reg [] [(1,v (.bool false))])
 (.seq (.reg [i (.call 181 [e 0] false)] [(2,l 0)])
 (.seq (.seq (.reg [i (.una .not (e 2))] [(5,l 0)])
 (.cond (e 5) (.seq (.reg [] [(1,v (.bool false))])
 .ret) .skip))
 (.seq (.seq (.reg [i (.nilck (e 0)),i (.fld 3 (l 0)),i (.fld 8 (l 1)),i (.load false 1 (l 2)),i (.len (l 3))] [(6,l 3),(7,l 4),(8,v (.int .i64 0))])
 (.blk 0 (.loop [3,4,9,10] l_qed_0)))
 (.seq (.reg [] [(1,v (.bool true))])
 .ret)))))
def f_qed:AFunc:=⟨11,1,.keep,[.env 1],b_qed⟩
def l_qdx_0:ACode:=
 (.seq (.reg [i (.bin .lss (e 17) (e 16))] [(18,l 0)])
 (.seq (.cond (e 18) .skip (.exit 2))
 (.seq (.blk 3 (.seq (.reg [i (.idxs 2 (e 15) (e 17)),i (.load true 2 (l 0)),i (.box 2 (v (.agg [.int .i64 0,.nil0]))),i (.store 2 (l 2) (l 1))] [(8,l 2),(7,e 17)])
 (.seq (.reg [i (.nilck (e 0)),i (.fld 15 (l 0)),i (.load false 1 (l 1)),i (.bin .add (e 3) (e 7)),i (.idxs 1 (l 2) (l 3)),i (.load false 1 (l 4))] [(9,l 5)])
 (.seq (.reg [g (e 4) true (.fld 1 (e 8)),g (e 4) true (.fld 0 (l 0)),g (e 4) true (.load false 1 (l 1)),g (e 4) true (.len (l 2)),g (e 4) true (.bin .eql (l 3) (v (.int .i64 0))),i (.pick (e 4) (l 4) (v (.bool false)))] [(4,l 5)])
 (.seq (.reg [i (.fld 0 (e 8)),i (.load false 1 (l 0))] [(19,l 1)])
 (.blk 4 (.seq (.seq (.reg [i (.bin .eql (e 19) (v (.int .i64 1)))] [(20,l 0)])
 (.cond (e 20) .skip (.reg [i (.bin .eql (e 19) (v (.int .i64 2)))] [(20,l 0)])))
 (.cond (e 20) (.reg [g (e 4) true (.mov (e 9)),g (e 4) true (.bin .eql (l 0) (v (.int .i64 2))),i (.pick (e 4) (l 1) (v (.bool false)))] [(4,l 2)]) (.seq (.reg [i (.bin .eql (e 19) (v (.int .i64 3)))] [(21,l 0)])
 (.cond (e 21) (.seq (.reg [g (e 4) true (.mov (e 9)),g (e 4) true (.bin .eql (l 0) (v (.int .i64 4))),i (.pick (e 4) (l 1) (v (.bool false)))] [(4,l 2)])
 (.reg [i (.nilck (e 0)),i (.fld 17 (l 0)),i (.load false 1 (l 1)),i (.bin .add (e 3) (e 7)),i (.idxs 1 (l 2) (l 3)),i (.store 1 (l 4) (v (.int .i64 2)))] [])) (.seq (.seq (.reg [i (.bin .eql (e 19) (v (.int .i64 4)))] [(22,l 0)])
 (.cond (e 22) .skip (.reg [i (.bin .eql (e 19) (v (.int .i64 5)))] [(22,l 0)])))
 (.cond (e 22) (.reg [g (e 4) true (.mov (e 9)),g (e 4) true (.bin .neq (l 0) (v (.int .i64 4))),i (.pick (e 4) (l 1) (v (.bool false)))] [(4,l 2)]) (.reg [] [(4,v (.bool false))])))))))))))))
 (.reg [i (.bin .add (e 17) (v (.int .i64 1)))] [(17,l 0)]))))
def l_qdx_1:ACode:=
 (.seq (.reg [i (.bin .lss (e 13) (e 12))] [(14,l 0)])
 (.seq (.cond (e 14) .skip (.exit 0))
 (.seq (.blk 1 (.seq (.reg [i (.idxs 1 (e 11) (e 13)),i (.load false 1 (l 0))] [(5,e 13),(6,l 1)])
 (.reg [g (e 4) true (.mov (e 6)),g (e 4) true (.mov (e 5)),g (e 4) true (.bin .eql (l 0) (l 1)),i (.pick (e 4) (l 2) (v (.bool false))),g (l 3) true (.mov (e 0)),g (l 3) true (.nilck (l 4)),g (l 3) true (.fld 15 (l 5)),g (l 3) true (.load false 1 (l 6)),g (l 3) true (.mov (e 5)),g (l 3) true (.idxs 1 (l 7) (l 8)),g (l 3) true (.load false 1 (l 9)),g (l 3) true (.bin .neq (l 10) (v (.int .i64 4))),i (.pick (l 3) (l 11) (v (.bool false)))] [(4,l 12)])))
 (.reg [i (.bin .add (e 13) (v (.int .i64 1)))] [(13,l 0)]))))
def b_qdx:ACode:=
 (.seq (.reg [] [(1,v (.bool false))])
 (.seq (.reg [i (.nilck (e 0)),i (.fld 3 (l 0)),i (.load true 12 (l 1)),i (.box 12 (v (.agg [.int .i64 0,.int .i64 0,.int .i64 0,.int .i64 0,.nil0,.bool false,.nil0,.nil0,.nil0,.nil0,.nil0,.int .i64 0]))),i (.store 12 (l 3) (l 2))] [(2,l 3)])
 (.seq (.reg [i (.fld 7 (e 2)),i (.load false 1 (l 0)),i (.len (l 1))] [(3,l 2)])
 (.seq (.reg [i (.nilck (e 0)),i (.fld 0 (l 0)),i (.load false 1 (l 1)),i (.fld 1 (e 2)),i (.load false 1 (l 3)),i (.idxs 12 (l 2) (l 4)),i (.fld 0 (l 5)),i (.load false 1 (l 6)),i (.bin .eql (l 7) (v (.int .i64 9))),g (l 8) true (.mov (e 3)),g (l 8) true (.bin .leq (l 9) (v (.int .i64 3))),i (.pick (l 8) (l 10) (v (.bool false))),g (l 11) true (.fld 8 (e 2)),g (l 11) true (.load false 1 (l 12)),g (l 11) true (.len (l 13)),g (l 11) true (.bin .leq (l 14) (v (.int .i64 12))),i (.pick (l 11) (l 15) (v (.bool false))),g (l 16) true (.mov (e 3)),g (l 16) true (.fld 8 (e 2)),g (l 16) true (.load false 1 (l 18)),g (l 16) true (.len (l 19)),g (l 16) true (.bin .add (l 17) (l 20)),g (l 16) true (.mov (e 0)),g (l 16) true (.nilck (l 22)),g (l 16) true (.fld 15 (l 23)),g (l 16) true (.load false 1 (l 24)),g (l 16) true (.len (l 25)),g (l 16) true (.bin .eql (l 21) (l 26)),i (.pick (l 16) (l 27) (v (.bool false)))] [(4,l 28)])
 (.seq (.seq (.reg [i (.una .not (e 4))] [(10,l 0)])
 (.cond (e 10) (.seq (.reg [] [(1,v (.bool false))])
 .ret) .skip))
 (.seq (.reg [i (.nilck (e 0)),i (.fld 15 (l 0)),i (.load false 1 (l 1)),i (.call 95 [l 2] true),i (.nilck (e 0)),i (.fld 17 (l 4)),i (.store 1 (l 5) (l 3))] [])
 (.seq (.seq (.reg [i (.fld 7 (e 2)),i (.load false 1 (l 0)),i (.len (l 1))] [(11,l 1),(12,l 2),(13,v (.int .i64 0))])
 (.blk 0 (.loop [5,6,14] l_qdx_1)))
 (.seq (.seq (.reg [i (.fld 8 (e 2)),i (.load false 1 (l 0)),i (.len (l 1))] [(15,l 1),(16,l 2),(17,v (.int .i64 0))])
 (.blk 2 (.loop [7,8,9,18,19,20,21,22] l_qdx_0)))
 (.seq (.reg [] [(1,e 4)])
 .ret)))))))))
def f_qdx:AFunc:=⟨23,1,.keep,[.env 1],b_qdx⟩
def l_qee_0:ACode:=
 (.seq (.reg [i (.bin .lss (e 7) (e 6))] [(8,l 0)])
 (.seq (.cond (e 8) .skip (.exit 0))
 (.seq (.blk 1 (.seq (.reg [i (.idxs 1 (e 5) (e 7)),i (.load true 1 (l 0)),i (.box 1 (v (.agg [.nil0]))),i (.store 1 (l 2) (l 1))] [(2,l 2)])
 (.seq (.reg [i (.load true 1 (e 2)),i (.nilck (e 0)),i (.fld 15 (l 1)),i (.load false 1 (l 2)),i (.call 276 [l 0,l 3] false),i (.ext 0 (l 4)),i (.ext 1 (l 4))] [(3,l 5),(4,l 6)])
 (.seq (.seq (.reg [i (.bin .neq (e 4) (v (.int .i64 0)))] [(9,l 0)])
 (.cond (e 9) (.seq (.reg [] [(1,v (.bool false))])
 .ret) .skip))
 (.reg [i (.nilck (e 0)),i (.fld 17 (l 0)),i (.load false 1 (l 1)),i (.mkl 1 [e 3]),i (.app 1 (l 2) (l 3)),i (.nilck (e 0)),i (.fld 17 (l 5)),i (.store 1 (l 6) (l 4))] [])))))
 (.reg [i (.bin .add (e 7) (v (.int .i64 1)))] [(7,l 0)]))))
def b_qee:ACode:=
 (.seq (.reg [] [(1,v (.bool false))])
 (.seq (.reg [i (.nilck (e 0)),i (.fld 17 (l 0)),i (.store 1 (l 1) (v (.nil0)))] [])
 (.seq (.seq (.lift 0 17 1 (.reg [i (.nilck (e 0)),i (.fld 3 (l 0)),i (.fld 9 (l 1)),i (.load false 1 (l 2)),i (.len (l 3))] [(5,l 3),(6,l 4),(7,v (.int .i64 0))]))
 (.blk 0 (.loop [1,2,3,4,8,9] l_qee_0)))
 (.seq (.reg [i (.nilck (e 0)),i (.fld 17 (l 0)),i (.load false 1 (l 1)),i (.len (l 2)),i (.bin .gtr (l 3) (v (.int .i64 0)))] [(1,l 4)])
 .ret))))
def f_qee:AFunc:=⟨10,1,.keep,[.env 1],b_qee⟩
def b_qec:ACode:=
 (.seq (.reg [] [(1,v (.bool false))])
 (.seq (.reg [i (.nilck (e 0)),i (.fld 15 (l 0)),i (.load false 1 (l 1)),i (.nilck (e 0)),i (.fld 17 (l 3)),i (.store 1 (l 4) (l 2))] [])
 (.seq (.reg [] [(1,v (.bool true))])
 .ret)))
def f_qec:AFunc:=⟨2,1,.keep,[.env 1],b_qec⟩
def l_qek_0:ACode:=
 (.seq (.reg [i (.bin .lss (e 8) (e 7))] [(9,l 0)])
 (.seq (.cond (e 9) .skip (.exit 0))
 (.seq (.blk 1 (.seq (.reg [i (.idxs 1 (e 6) (e 8)),i (.load false 1 (l 0))] [(2,e 8),(3,l 1)])
 (.seq (.reg [i (.nilck (e 0)),i (.fld 16 (l 0)),i (.load false 1 (l 1)),i (.idxs 1 (l 2) (e 2)),i (.load false 1 (l 3))] [(4,l 4)])
 (.seq (.seq (.reg [i (.bin .eql (e 3) (v (.int .i64 0)))] [(10,l 0)])
 (.cond (e 10) (.reg [] [(3,e 4)]) .skip))
 (.seq (.seq (.reg [i (.bin .neq (e 4) (v (.int .i64 0))),g (l 0) true (.mov (e 4)),g (l 0) true (.mov (e 3)),g (l 0) true (.bin .neq (l 1) (l 2)),i (.pick (l 0) (l 3) (v (.bool false)))] [(11,l 4)])
 (.cond (e 11) (.seq (.reg [] [(1,v (.bool false))])
 .ret) .skip))
 (.reg [i (.nilck (e 0)),i (.fld 17 (l 0)),i (.load false 1 (l 1)),i (.mkl 1 [e 3]),i (.app 1 (l 2) (l 3)),i (.nilck (e 0)),i (.fld 17 (l 5)),i (.store 1 (l 6) (l 4))] []))))))
 (.reg [i (.bin .add (e 8) (v (.int .i64 1)))] [(8,l 0)]))))
def b_qek:ACode:=
 (.seq (.reg [] [(1,v (.bool false))])
 (.seq (.seq (.reg [i (.nilck (e 0)),i (.fld 15 (l 0)),i (.load false 1 (l 1)),i (.len (l 2)),i (.nilck (e 0)),i (.fld 16 (l 4)),i (.load false 1 (l 5)),i (.len (l 6)),i (.bin .neq (l 3) (l 7))] [(5,l 8)])
 (.cond (e 5) (.seq (.reg [] [(1,v (.bool false))])
 .ret) .skip))
 (.seq (.reg [i (.nilck (e 0)),i (.fld 17 (l 0)),i (.store 1 (l 1) (v (.nil0)))] [])
 (.seq (.seq (.lift 0 17 1 (.reg [i (.nilck (e 0)),i (.fld 15 (l 0)),i (.load false 1 (l 1)),i (.len (l 2))] [(6,l 2),(7,l 3),(8,v (.int .i64 0))]))
 (.blk 0 (.loop [1,2,3,4,9,10,11] l_qek_0)))
 (.seq (.reg [] [(1,v (.bool true))])
 .ret)))))
def f_qek:AFunc:=⟨12,1,.keep,[.env 1],b_qek⟩
def b_qeh:ACode:=
 (.seq (.reg [i (.box 1 (e 0))] [(1,l 0),(2,v (.bool false))])
 (.seq (.reg [i (.load false 1 (e 1)),i (.load false 1 (e 1)),i (.nilck (l 1)),i (.fld 15 (l 2)),i (.load false 1 (l 3)),i (.nilck (l 0)),i (.fld 17 (l 5)),i (.store 1 (l 6) (l 4))] [])
 (.seq (.reg [i (.load false 1 (e 1)),i (.nilck (l 0)),i (.fld 3 (l 1)),i (.fld 10 (l 2)),i (.load false 1 (l 3)),i (.mkfn 277 [] [e 1]),i (.call 110 [l 4,l 5] false)] [(3,l 6)])
 (.seq (.reg [i (.una .not (e 3)),g (l 0) true (.load false 1 (e 1)),g (l 0) true (.nilck (l 1)),g (l 0) true (.fld 3 (l 2)),g (l 0) true (.fld 10 (l 3)),g (l 0) true (.load false 1 (l 4)),g (l 0) true (.len (l 5)),g (l 0) true (.bin .leq (l 6) (v (.int .i64 3))),i (.pick (l 0) (l 7) (v (.bool false))),g (l 8) true (.load false 1 (e 1)),g (l 8) true (.nilck (l 9)),g (l 8) true (.fld 3 (l 10)),g (l 8) true (.fld 11 (l 11)),g (l 8) true (.load false 1 (l 12)),g (l 8) true (.bin .geq (l 13) (v (.int .i64 (-1)))),i (.pick (l 8) (l 14) (v (.bool false))),g (l 15) true (.load false 1 (e 1)),g (l 15) true (.nilck (l 16)),g (l 15) true (.fld 3 (l 17)),g (l 15) true (.fld 11 (l 18)),g (l 15) true (.load false 1 (l 19)),g (l 15) true (.bin .leq (l 20) (v (.int .i64 2147483647))),i (.pick (l 15) (l 21) (v (.bool false)))] [(2,l 22)])
 .ret))))
def f_qeh:AFunc:=⟨4,1,.keep,[.env 2],b_qeh⟩
def b_qel:ACode:=
 (.seq (.reg [] [(1,v (.int .i64 0))])
 (.seq (.seq (.reg [] [(2,e 0)])
 (.blk 0 (.seq (.seq (.reg [i (.bin .eql (e 2) (v (.int .i64 1)))] [(3,l 0)])
 (.cond (e 3) .skip (.reg [i (.bin .eql (e 2) (v (.int .i64 9)))] [(3,l 0)])))
 (.cond (e 3) (.seq (.reg [] [(1,v (.int .i64 0))])
 .ret) (.seq (.seq (.reg [i (.bin .eql (e 2) (v (.int .i64 2)))] [(4,l 0)])
 (.cond (e 4) .skip (.reg [i (.bin .eql (e 2) (v (.int .i64 7)))] [(4,l 0)])))
 (.cond (e 4) (.seq (.reg [] [(1,v (.int .i64 2))])
 .ret) (.seq (.seq (.reg [i (.bin .eql (e 2) (v (.int .i64 3)))] [(5,l 0)])
 (.cond (e 5) .skip (.seq (.reg [i (.bin .eql (e 2) (v (.int .i64 4)))] [(5,l 0)])
 (.cond (e 5) .skip (.seq (.reg [i (.bin .eql (e 2) (v (.int .i64 5)))] [(5,l 0)])
 (.cond (e 5) .skip (.seq (.reg [i (.bin .eql (e 2) (v (.int .i64 6)))] [(5,l 0)])
 (.cond (e 5) .skip (.seq (.reg [i (.bin .eql (e 2) (v (.int .i64 8)))] [(5,l 0)])
 (.cond (e 5) .skip (.seq (.reg [i (.bin .eql (e 2) (v (.int .i64 10)))] [(5,l 0)])
 (.cond (e 5) .skip (.reg [i (.bin .eql (e 2) (v (.int .i64 11)))] [(5,l 0)])))))))))))))
 (.cond (e 5) (.seq (.reg [] [(1,v (.int .i64 1))])
 .ret) .skip))))))))
 (.seq (.reg [] [(1,v (.int .i64 (-1)))])
 .ret)))
def f_qel:AFunc:=⟨6,1,.pure,[.env 1],b_qel⟩
def b_qdv:ACode:=
 (.seq (.reg [i (.box 12 (e 0))] [(1,l 0),(2,v (.bool false))])
 (.seq (.reg [i (.fld 0 (e 1)),i (.load false 1 (l 0)),i (.bin .eql (l 1) (v (.int .i64 1))),g (l 2) false (.fld 0 (e 1)),g (l 2) false (.load false 1 (l 3)),g (l 2) false (.bin .eql (l 4) (v (.int .i64 9))),i (.pick (l 2) (v (.bool true)) (l 5)),i (.fld 0 (e 1)),i (.load false 1 (l 7)),i (.bin .eql (l 8) (v (.int .i64 4))),g (l 9) false (.fld 0 (e 1)),g (l 9) false (.load false 1 (l 10)),g (l 9) false (.bin .eql (l 11) (v (.int .i64 10))),i (.pick (l 9) (v (.bool true)) (l 12)),g (l 13) false (.fld 0 (e 1)),g (l 13) false (.load false 1 (l 14)),g (l 13) false (.bin .eql (l 15) (v (.int .i64 11))),i (.pick (l 13) (v (.bool true)) (l 16))] [(3,l 6),(4,l 17)])
 (.seq (.reg [g (e 3) false (.fld 3 (e 1)),g (e 3) false (.load false 1 (l 0)),g (e 3) false (.bin .eql (l 1) (v (.int .i64 0))),g (e 3) false (.mov (l 2)),g (l 3) true (.fld 4 (e 1)),g (l 3) true (.load false 1 (l 4)),g (l 3) true (.len (l 5)),g (l 3) true (.bin .eql (l 6) (v (.int .i64 0))),g (e 3) false (.pick (l 3) (l 7) (v (.bool false))),i (.pick (e 3) (v (.bool true)) (l 8))] [(5,l 9)])
 (.seq (.reg [g (e 5) true (.fld 0 (e 1)),g (e 5) true (.load false 1 (l 0)),g (e 5) true (.bin .eql (l 1) (v (.int .i64 2))),g (e 5) true (.mov (l 2)),g (l 3) false (.fld 5 (e 1)),g (l 3) false (.load false 1 (l 4)),g (l 3) false (.una .not (l 5)),g (e 5) true (.pick (l 3) (v (.bool true)) (l 6)),i (.pick (e 5) (l 7) (v (.bool false))),g (l 8) true (.fld 0 (e 1)),g (l 8) true (.load false 1 (l 9)),g (l 8) true (.bin .eql (l 10) (v (.int .i64 2))),g (l 8) true (.mov (l 11)),g (l 12) false (.fld 0 (e 1)),g (l 12) false (.load false 1 (l 13)),g (l 12) false (.bin .eql (l 14) (v (.int .i64 3))),g (l 8) true (.pick (l 12) (v (.bool true)) (l 15)),g (l 8) true (.mov (l 16)),g (l 17) false (.fld 6 (e 1)),g (l 17) false (.fld 0 (l 18)),g (l 17) false (.load false 1 (l 19)),g (l 17) false (.len (l 20)),g (l 17) false (.bin .eql (l 21) (v (.int .i64 0))),g (l 8) true (.pick (l 17) (v (.bool true)) (l 22)),i (.pick (l 8) (l 23) (v (.bool false)))] [(5,l 24)])
 (.seq (.reg [g (e 5) true (.mov (e 4)),g (e 5) true (.mov (l 0)),g (l 1) false (.fld 7 (e 1)),g (l 1) false (.load false 1 (l 2)),g (l 1) false (.len (l 3)),g (l 1) false (.fld 8 (e 1)),g (l 1) false (.load false 1 (l 5)),g (l 1) false (.len (l 6)),g (l 1) false (.bin .add (l 4) (l 7)),g (l 1) false (.bin .eql (l 8) (v (.int .i64 0))),g (e 5) true (.pick (l 1) (v (.bool true)) (l 9)),i (.pick (e 5) (l 10) (v (.bool false))),g (l 11) true (.fld 0 (e 1)),g (l 11) true (.load false 1 (l 12)),g (l 11) true (.bin .eql (l 13) (v (.int .i64 5))),g (l 11) true (.mov (l 14)),g (l 15) false (.fld 9 (e 1)),g (l 15) false (.load false 1 (l 16)),g (l 15) false (.len (l 17)),g (l 15) false (.bin .eql (l 18) (v (.int .i64 0))),g (l 11) true (.pick (l 15) (v (.bool true)) (l 19)),i (.pick (l 11) (l 20) (v (.bool false)))] [(5,l 21)])
 (.seq (.reg [g (e 5) true (.fld 0 (e 1)),g (e 5) true (.load false 1 (l 0)),g (e 5) true (.bin .eql (l 1) (v (.int .i64 8))),g (e 5) true (.mov (l 2)),g (l 3) false (.fld 10 (e 1)),g (l 3) false (.load false 1 (l 4)),g (l 3) false (.len (l 5)),g (l 3) false (.bin .eql (l 6) (v (.int .i64 0))),g (l 3) false (.mov (l 7)),g (l 8) true (.fld 11 (e 1)),g (l 8) true (.load false 1 (l 9)),g (l 8) true (.bin .eql (l 10) (v (.int .i64 0))),g (l 3) false (.pick (l 8) (l 11) (v (.bool false))),g (e 5) true (.pick (l 3) (v (.bool true)) (l 12)),i (.pick (e 5) (l 13) (v (.bool false)))] [(2,l 14)])
 .ret))))))
def f_qdv:AFunc:=⟨6,1,.pure,[.env 2],b_qdv⟩
def b_qfz:ACode:=
 (.seq (.reg [] [(2,v (.bool false))])
 (.seq (.reg [i (.call 278 [e 0,e 1] false),i (.bin .geq (l 0) (v (.int .i64 0)))] [(2,l 1)])
 .ret))
def f_qfz:AFunc:=⟨3,2,.pure,[.env 2],b_qfz⟩
def b_qcs:ACode:=
 (.seq (.reg [i (.mov (v (.nil0)))] [(1,l 0),(2,v (.int .i64 0))])
 (.seq (.seq (.reg [i (.len (e 0)),i (.bin .gtr (l 0) (v (.int .i64 8000)))] [(5,l 1)])
 (.cond (e 5) (.seq (.reg [] [(1,e 0),(2,v (.int .i64 0))])
 .ret) .skip))
 (.seq (.reg [i (.call 29 [e 0] false),i (.ext 0 (l 0)),i (.ext 1 (l 0))] [(3,l 1),(4,l 2)])
 (.seq (.seq (.reg [i (.bin .neq (e 4) (v (.int .i64 0)))] [(6,l 0)])
 (.cond (e 6) (.seq (.reg [i (.mov (v (.nil0)))] [(1,l 0),(2,v (.int .i64 140))])
 .ret) .skip))
 (.seq (.reg [] [(1,e 3),(2,v (.int .i64 0))])
 .ret)))))
def f_qcs:AFunc:=⟨7,1,.pure,[.env 1,.env 2],b_qcs⟩
def b_qcc:ACode:=
 (.seq (.reg [i (.box 1 (e 0)),i (.box 1 (e 1))] [(2,l 0),(3,l 1),(4,v (.nilf))])
 (.seq (.reg [i (.mkfn 279 [] [e 2,e 3])] [(4,l 0)])
 .ret))
def f_qcc:AFunc:=⟨5,2,.keep,[.env 4],b_qcc⟩
def b_qcb:ACode:=
 (.seq (.reg [i (.box 1 (e 0))] [(2,l 0),(3,v (.bool false)),(4,v (.bool false))])
 (.seq (.reg [i (.load true 1 (e 2)),i (.call 172 [l 0,e 1] false),i (.ext 0 (l 1)),i (.ext 1 (l 1)),i (.box 4 (v (.agg [.int .i64 0,.int .i64 0,.int .u64 0,.str []]))),i (.store 4 (l 4) (l 2))] [(5,l 4),(6,l 3)])
 (.seq (.reg [i (.load true 4 (e 5)),i (.call 264 [l 0] false),i (.bin .eql (e 6) (v (.int .i64 0)))] [(3,l 1),(4,l 2)])
 .ret)))
def f_qcb:AFunc:=⟨7,2,.pure,[.env 3,.env 4],b_qcb⟩
def b_qcl:ACode:=
 (.seq (.reg [i (.box 2 (e 1)),i (.box 4 (v (.agg [.int .i64 0,.int .i64 0,.int .u64 0,.str []])))] [(3,l 0),(4,l 1),(5,v (.int .i64 0))])
 (.seq (.reg [i (.load true 2 (e 3)),i (.call 19 [l 0,e 2] false),i (.ext 0 (l 1)),i (.ext 1 (l 1)),i (.store 4 (e 4) (l 2))] [(5,l 3)])
 .ret))
def f_qcl:AFunc:=⟨6,3,.pure,[.cell true 4 4,.env 5],b_qcl⟩
def l_qgg_0:ACode:=
 (.seq (.reg [i (.bin .lss (e 5) (e 4))] [(6,l 0)])
 (.seq (.cond (e 6) .skip (.exit 0))
 (.seq (.blk 1 (.seq (.reg [] [(3,e 5)])
 (.seq (.reg [i (.idxs 2 (e 0) (e 3)),i (.load true 2 (l 0)),i (.callv (e 1) [l 1])] [(7,l 2)])
 (.cond (e 7) (.seq (.reg [] [(2,e 3)])
 .ret) .skip))))
 (.reg [i (.bin .add (e 5) (v (.int .i64 1)))] [(5,l 0)]))))
def b_qgg:ACode:=
 (.seq (.reg [] [(2,v (.int .i64 0))])
 (.seq (.seq (.reg [i (.len (e 0))] [(4,l 0),(5,v (.int .i64 0))])
 (.blk 0 (.loop [2,3,6,7] l_qgg_0)))
 (.seq (.reg [] [(2,v (.int .i64 (-1)))])
 .ret)))
def f_qgg:AFunc:=⟨8,2,.pure,[.env 2],b_qgg⟩
def l_qbf_0:ACode:=
 (.seq (.reg [i (.bin .lss (e 8) (e 7))] [(9,l 0)])
 (.seq (.cond (e 9) .skip (.exit 0))
 (.seq (.blk 1 (.seq (.reg [i (.idxs 2 (e 6) (e 8)),i (.load true 2 (l 0)),i (.box 2 (v (.agg [.int .i64 0,.bool false]))),i (.store 2 (l 2) (l 1))] [(4,l 2)])
 (.seq (.reg [i (.fld 0 (e 4)),i (.load false 1 (l 0)),i (.idxs 4 (e 0) (l 1)),i (.load true 4 (l 2)),i (.fld 0 (e 4)),i (.load false 1 (l 4)),i (.idxs 4 (e 1) (l 5)),i (.load true 4 (l 6)),i (.call 148 [l 3,l 7] false)] [(5,l 8)])
 (.seq (.seq (.reg [i (.fld 1 (e 4)),i (.load false 1 (l 0))] [(10,l 1)])
 (.cond (e 10) (.reg [i (.una .neg (e 5))] [(5,l 0)]) .skip))
 (.seq (.reg [i (.bin .neq (e 5) (v (.int .i64 0)))] [(11,l 0)])
 (.cond (e 11) (.seq (.reg [] [(3,e 5)])
 .ret) .skip))))))
 (.reg [i (.bin .add (e 8) (v (.int .i64 1)))] [(8,l 0)]))))
def b_qbf:ACode:=
 (.seq (.reg [] [(3,v (.int .i64 0))])
 (.seq (.seq (.reg [i (.load false 1 (e 2)),i (.len (l 0))] [(6,l 0),(7,l 1),(8,v (.int .i64 0))])
 (.blk 0 (.loop [3,4,5,9,10,11] l_qbf_0)))
 (.seq (.reg [i (.call 214 [e 0,e 1] false)] [(3,l 0)])
 .ret)))
def f_qbf:AFunc:=⟨12,3,.pure,[.env 3],b_qbf⟩
def b_qbz:ACode:=
 (.seq (.reg [i (.box 1 (e 0)),i (.box 1 (e 1)),i (.box 1 (e 2))] [(3,l 0),(4,l 1),(5,l 2),(6,v (.nilf))])
 (.seq (.reg [i (.mkfn 280 [] [e 3,e 4,e 5])] [(6,l 0)])
 .ret))
def f_qbz:AFunc:=⟨7,3,.keep,[.env 6],b_qbz⟩
def l_qcv_0:ACode:=
 (.seq (.reg [i (.bin .lss (e 8) (e 7))] [(9,l 0)])
 (.seq (.cond (e 9) .skip (.exit 0))
 (.seq (.blk 1 (.seq (.reg [i (.idxs 8 (e 6) (e 8)),i (.load true 8 (l 0)),i (.box 8 (v (.agg [.int .i64 0,.int .i64 0,.int .i64 0,.int .i64 0,.int .i64 0,.int .i64 0,.int .u64 0,.str []]))),i (.store 8 (l 2) (l 1))] [(4,l 2)])
 (.seq (.reg [i (.fld 0 (e 4)),i (.load false 1 (l 0)),i (.bin .eql (l 1) (v (.int .i64 2)))] [(10,l 2)])
 (.cond (e 10) (.reg [i (.fld 3 (e 4)),i (.load false 1 (l 0)),i (.mkl 1 [l 1]),i (.app 1 (e 3) (l 2))] [(3,l 3)]) .skip))))
 (.reg [i (.bin .add (e 8) (v (.int .i64 1)))] [(8,l 0)]))))
def b_qcv:ACode:=
 (.seq (.reg [i (.box 1 (e 0)),i (.mov (v (.nil0)))] [(1,l 0),(2,l 1)])
 (.seq (.seq (.reg [i (.load true 1 (e 1)),i (.call 71 [l 0] false),i (.bin .neq (l 1) (v (.int .i64 0)))] [(5,l 2)])
 (.cond (e 5) (.seq (.reg [i (.mov (v (.nil0)))] [(2,l 0)])
 .ret) .skip))
 (.seq (.reg [i (.mknil 1)] [(3,l 0)])
 (.seq (.seq (.reg [i (.fld 0 (e 1)),i (.load false 1 (l 0)),i (.len (l 1))] [(6,l 1),(7,l 2),(8,v (.int .i64 0))])
 (.blk 0 (.loop [4,9,10] l_qcv_0)))
 (.seq (.reg [i (.call 282 [e 3] false)] [])
 (.seq (.reg [i (.call 281 [e 3] false)] [(2,l 0)])
 .ret))))))
def f_qcv:AFunc:=⟨11,1,.pure,[.env 2],b_qcv⟩
def b_qhe:ACode:=
 (.seq (.reg [i (.box 4 (e 0))] [(1,l 0),(2,v (.bool false))])
 (.seq (.reg [i (.load true 4 (e 1)),i (.call 255 [l 0] false),i (.bin .eql (l 1) (v (.int .i64 0))),g (l 2) true (.fld 0 (e 1)),g (l 2) true (.load false 1 (l 3)),g (l 2) true (.bin .neq (l 4) (v (.int .i64 4))),i (.pick (l 2) (l 5) (v (.bool false)))] [(2,l 6)])
 .ret))
def f_qhe:AFunc:=⟨3,1,.pure,[.env 2],b_qhe⟩
def b_qdc:ACode:=
 (.seq (.reg [] [(0,v (.nilm))])
 (.seq (.reg [i (.call 296 [(v (.fn 293 [] []))] false)] [(1,l 0)])
 (.seq (.reg [i (.mkmap),i (.call 283 [(v (.fn 284 [] []))] false),i (.mput (l 0) (v (.int .i64 4)) (l 1)),i (.call 283 [(v (.fn 285 [] []))] false),i (.mput (l 0) (v (.int .i64 5)) (l 3)),i (.call 286 [(v (.bool true))] false),i (.mput (l 0) (v (.int .i64 6)) (l 5)),i (.call 286 [(v (.bool false))] false),i (.mput (l 0) (v (.int .i64 7)) (l 7)),i (.mput (l 0) (v (.int .i64 12)) (v (.fn 287 [] []))),i (.mput (l 0) (v (.int .i64 13)) (v (.fn 288 [] []))),i (.mput (l 0) (v (.int .i64 14)) (v (.fn 289 [] []))),i (.mput (l 0) (v (.int .i64 15)) (v (.fn 290 [] []))),i (.mput (l 0) (v (.int .i64 16)) (v (.fn 291 [] []))),i (.call 292 [(v (.fn 291 [] []))] false),i (.mput (l 0) (v (.int .i64 17)) (l 14)),i (.mput (l 0) (v (.int .i64 18)) (v (.fn 293 [] []))),i (.mput (l 0) (v (.int .i64 20)) (e 1)),i (.call 292 [e 1] false),i (.mput (l 0) (v (.int .i64 19)) (l 18)),i (.call 292 [(v (.fn 293 [] []))] false),i (.mput (l 0) (v (.int .i64 21)) (l 20)),i (.mput (l 0) (v (.int .i64 22)) (v (.fn 294 [] []))),i (.mput (l 0) (v (.int .i64 23)) (v (.fn 295 [] [])))] [(0,l 0)])
 .ret)))
def f_qdc:AFunc:=⟨2,0,.pure,[.env 0],b_qdc⟩
def l_qdk_0:ACode:=
 (.seq (.reg [i (.bin .lss (e 14) (e 13))] [(15,l 0)])
 (.seq (.cond (e 15) .skip (.exit 0))
 (.seq (.blk 1 (.seq (.reg [i (.idxs 8 (e 12) (e 14)),i (.load true 8 (l 0)),i (.box 8 (v (.agg [.int .i64 0,.int .i64 0,.int .i64 0,.int .i64 0,.int .i64 0,.int .i64 0,.int .u64 0,.str []]))),i (.store 8 (l 2) (l 1))] [(9,l 2)])
 (.seq (.regd [i (.load true 8 (e 9)),i (.fld 0 (e 9)),i (.load false 1 (l 1)),i (.call 247 [l 2] false),i (.callv (e 7) [l 3]),i (.callv (e 1) [l 0,l 4]),i (.ext 0 (l 5)),i (.ext 1 (l 5)),i (.box 4 (v (.agg [.int .i64 0,.int .i64 0,.int .u64 0,.str []]))),i (.store 4 (l 8) (l 6))] [(10,l 8),(11,l 7)] [(0,5),(0,9),(1,9),(2,9),(3,9)])
 (.seq (.seq (.reg [i (.bin .neq (e 11) (v (.int .i64 0)))] [(16,l 0)])
 (.cond (e 16) (.seq (.reg [] [(8,e 11)])
 (.exit 0)) .skip))
 (.reg [i (.load false 1 (e 5)),i (.load true 4 (e 10)),i (.mkl 4 [l 1]),i (.app 4 (l 0) (l 2)),i (.store 1 (e 5) (l 3))] [])))))
 (.reg [i (.bin .add (e 14) (v (.int .i64 1)))] [(14,l 0)]))))
def b_qdk:ACode:=
 (.seq (.reg [i (.box 1 (e 0)),i (.box 4 (v (.agg [.int .i64 0,.int .i64 0,.int .u64 0,.str []])))] [(2,l 0),(3,l 1),(4,v (.int .i64 0))])
 (.scope (.seq (.reg [i (.box 1 (v (.nil0)))] [(5,l 0)])
 (.seq (.reg [i (.box 4 (v (.agg [.int .i64 0,.int .i64 0,.int .u64 0,.str []])))] [(6,l 0)])
 (.seq (.reg [i (.mkfn 297 [] [e 5])] [(7,l 0)])
 (.seq (.reg [] [(8,v (.int .i64 0))])
 (.seq (.seq (.lift 5 0 4 (.reg [i (.fld 0 (e 2)),i (.load false 1 (l 0)),i (.len (l 1))] [(12,l 1),(13,l 2),(14,v (.int .i64 0))]))
 (.blk 0 (.loop [9,10,11,15,16] l_qdk_0)))
 (.seq (.seq (.reg [i (.bin .neq (e 8) (v (.int .i64 0)))] [(17,l 0)])
 (.cond (e 17) (.seq (.reg [i (.load true 4 (e 6)),i (.store 4 (e 3) (l 0))] [(4,e 8)])
 .ret) .skip))
 (.seq (.reg [i (.load false 1 (e 5)),i (.idxs 4 (l 0) (v (.int .i64 0))),i (.load true 4 (l 1)),i (.store 4 (e 3) (l 2))] [(4,v (.int .i64 0))])
 .ret)))))))))
def f_qdk:AFunc:=⟨18,2,.pure,[.cell true 4 3,.env 4],b_qdk⟩
def b_qcx:ACode:=
 (.seq (.reg [i (.box 8 (e 0)),i (.box 4 (v (.agg [.int .i64 0,.int .i64 0,.int .u64 0,.str []])))] [(4,l 0),(5,l 1),(6,v (.int .i64 0))])
 (.seq (.seq (.reg [i (.fld 0 (e 4)),i (.load false 1 (l 0))] [(9,l 1)])
 (.blk 0 (.seq (.reg [i (.bin .eql (e 9) (v (.int .i64 1)))] [(10,l 0)])
 (.cond (e 10) (.seq (.reg [i (.fld 4 (e 4)),i (.load true 4 (l 0)),i (.store 4 (e 5) (l 1))] [(6,v (.int .i64 0))])
 .ret) (.seq (.reg [i (.bin .eql (e 9) (v (.int .i64 2)))] [(11,l 0)])
 (.cond (e 11) (.seq (.reg [i (.load false 1 (e 2)),i (.fld 3 (e 4)),i (.load false 1 (l 1)),i (.idxs 4 (l 0) (l 2)),i (.load true 4 (l 3)),i (.store 4 (e 5) (l 4))] [(6,v (.int .i64 0))])
 .ret) .skip))))))
 (.seq (.regd [i (.load false 1 (e 3)),i (.fld 0 (e 4)),i (.load false 1 (l 1)),i (.look (.nilf) false (l 0) (l 2)),i (.idxs 4 (e 1) (v (.int .i64 0))),i (.load true 4 (l 4)),i (.len (e 1)),i (.bin .sub (l 6) (v (.int .i64 1))),i (.idxs 4 (e 1) (l 7)),i (.load true 4 (l 8)),i (.callv (l 3) [l 5,l 9]),i (.ext 0 (l 10)),i (.ext 1 (l 10)),i (.box 4 (v (.agg [.int .i64 0,.int .i64 0,.int .u64 0,.str []]))),i (.store 4 (l 13) (l 11))] [(7,l 13),(8,l 12)] [(0,14),(1,14),(2,14),(3,14),(4,14),(5,14),(6,14),(8,14),(9,14)])
 (.seq (.seq (.reg [i (.bin .neq (e 8) (v (.int .i64 0))),g (l 0) true (.mov (e 8)),g (l 0) true (.bin .neq (l 1) (v (.int .i64 140))),i (.pick (l 0) (l 2) (v (.bool false)))] [(12,l 3)])
 (.cond (e 12) (.reg [] [(8,v (.int .i64 201))]) .skip))
 (.seq (.reg [i (.load true 4 (e 7)),i (.store 4 (e 5) (l 0))] [(6,e 8)])
 .ret)))))
def f_qcx:AFunc:=⟨13,4,.pure,[.cell true 4 5,.env 6],b_qcx⟩
def l_qn_0:ACode:=
 (.seq (.reg [i (.bin .lss (e 7) (e 6))] [(8,l 0)])
 (.seq (.cond (e 8) .skip (.exit 0))
 (.seq (.blk 1 (.seq (.reg [i (.idxs 4 (e 5) (e 7)),i (.load true 4 (l 0)),i (.box 4 (v (.agg [.int .i64 0,.int .i64 0,.int .u64 0,.str []]))),i (.store 4 (l 2) (l 1))] [(4,l 2)])
 (.seq (.seq (.reg [i (.load true 4 (e 4)),i (.call 255 [l 0] false),i (.bin .neq (l 1) (v (.int .i64 0)))] [(9,l 2)])
 (.cond (e 9) (.seq (.reg [] [(2,v (.int .i64 120))])
 .ret) .skip))
 (.seq (.reg [i (.fld 0 (e 4)),i (.load false 1 (l 0)),i (.bin .neq (l 1) (v (.int .i64 0))),g (l 2) true (.fld 0 (e 4)),g (l 2) true (.load false 1 (l 3)),g (l 2) true (.mov (e 0)),g (l 2) true (.bin .neq (l 4) (l 5)),i (.pick (l 2) (l 6) (v (.bool false)))] [(10,l 7)])
 (.cond (e 10) (.reg [] [(3,v (.int .i64 2))]) .skip)))))
 (.reg [i (.bin .add (e 7) (v (.int .i64 1)))] [(7,l 0)]))))
def b_qn:ACode:=
 (.seq (.reg [] [(2,v (.int .i64 0))])
 (.seq (.reg [] [(3,v (.int .i64 0))])
 (.seq (.seq (.reg [i (.len (e 1))] [(5,e 1),(6,l 0),(7,v (.int .i64 0))])
 (.blk 0 (.loop [2,4,8,9,10] l_qn_0)))
 (.seq (.reg [] [(2,e 3)])
 .ret))))
def f_qn:AFunc:=⟨11,2,.pure,[.env 2],b_qn⟩
def b_qs:ACode:=
 (.seq (.reg [i (.box 4 (e 0)),i (.box 4 (v (.agg [.int .i64 0,.int .i64 0,.int .u64 0,.str []])))] [(1,l 0),(2,l 1)])
 (.seq (.reg [i (.fld 1 (e 1)),i (.load false 1 (l 0)),i (.bin .shr (l 1) (v (.int .u64 63))),i (.fld 1 (e 1)),i (.load false 1 (l 3)),i (.conv .u64 (l 4)),i (.build [.int .i64 0,.int .i64 0,.int .u64 0,.str []] [(0,1,v (.int .i64 4)),(1,1,(l 2)),(2,1,(l 5))]),i (.store 4 (e 2) (l 6))] [])
 .ret))
def f_qs:AFunc:=⟨3,1,.pure,[.cell true 4 2],b_qs⟩
def b_qp:ACode:=
 (.seq (.reg [i (.box 4 (e 0)),i (.box 4 (e 1)),i (.box 4 (v (.agg [.int .i64 0,.int .i64 0,.int .u64 0,.str []])))] [(2,l 0),(3,l 1),(4,l 2),(5,v (.int .i64 0))])
 (.seq (.reg [i (.fld 2 (e 2)),i (.load false 1 (l 0)),i (.fld 2 (e 3)),i (.load false 1 (l 2)),i (.call 298 [l 1,l 3,(v (.int .u64 0))] false),i (.ext 0 (l 4)),i (.ext 1 (l 4))] [(6,l 5),(7,l 6)])
 (.seq (.reg [i (.fld 1 (e 2)),i (.load false 1 (l 0)),i (.conv .u64 (l 1)),i (.fld 1 (e 3)),i (.load false 1 (l 3)),i (.conv .u64 (l 4)),i (.call 298 [l 2,l 5,e 7] false),i (.ext 0 (l 6)),i (.ext 1 (l 6))] [(8,l 7)])
 (.seq (.reg [i (.conv .i64 (e 8))] [(9,l 0)])
 (.seq (.seq (.reg [i (.fld 1 (e 2)),i (.load false 1 (l 0)),i (.bin .xor (l 1) (e 9)),i (.fld 1 (e 3)),i (.load false 1 (l 3)),i (.bin .xor (l 4) (e 9)),i (.bin .and (l 2) (l 5)),i (.bin .lss (l 6) (v (.int .i64 0)))] [(10,l 7)])
 (.cond (e 10) (.seq (.reg [i (.build [.int .i64 0,.int .i64 0,.int .u64 0,.str []] []),i (.store 4 (e 4) (l 0))] [(5,v (.int .i64 140))])
 .ret) .skip))
 (.seq (.reg [i (.build [.int .i64 0,.int .i64 0,.int .u64 0,.str []] [(0,1,v (.int .i64 4)),(1,1,(e 9)),(2,1,(e 6))]),i (.store 4 (e 4) (l 0))] [(5,v (.int .i64 0))])
 .ret))))))
def f_qp:AFunc:=⟨11,2,.pure,[.cell true 4 4,.env 5],b_qp⟩
def b_qf:ACode:=
 (.seq (.reg [i (.box 4 (e 0)),i (.box 4 (v (.agg [.int .i64 0,.int .i64 0,.int .u64 0,.str []])))] [(1,l 0),(2,l 1),(3,v (.int .i64 0))])
 (.seq (.seq (.reg [i (.load true 4 (e 1)),i (.mkl 4 [l 0]),i (.call 210 [(v (.int .i64 4)),l 1] false)] [(4,l 2)])
 (.blk 0 (.seq (.reg [i (.bin .neq (e 4) (v (.int .i64 0)))] [(6,l 0)])
 (.cond (e 6) (.seq (.reg [i (.build [.int .i64 0,.int .i64 0,.int .u64 0,.str []] []),i (.store 4 (e 2) (l 0))] [(3,e 4)])
 .ret) (.seq (.reg [i (.fld 0 (e 1)),i (.load false 1 (l 0)),i (.bin .eql (l 1) (v (.int .i64 0)))] [(7,l 2)])
 (.cond (e 7) (.seq (.reg [i (.load true 4 (e 1)),i (.store 4 (e 2) (l 0))] [(3,v (.int .i64 0))])
 .ret) .skip))))))
 (.seq (.seq (.reg [i (.fld 2 (e 1)),i (.load false 1 (l 0)),i (.conv .i64 (l 1)),i (.call 149 [l 2] false),i (.box 4 (v (.agg [.int .i64 0,.int .i64 0,.int .u64 0,.str []]))),i (.store 4 (l 4) (l 3))] [(5,l 4)])
 (.seq (.reg [i (.load true 4 (e 5)),i (.call 208 [l 0] false),i (.load true 4 (e 1)),i (.eqa false [0,0,0,2] (l 1) (l 2))] [(8,l 3)])
 (.cond (e 8) (.seq (.reg [i (.load true 4 (e 5)),i (.store 4 (e 2) (l 0))] [(3,v (.int .i64 0))])
 .ret) .skip)))
 (.seq (.reg [i (.build [.int .i64 0,.int .i64 0,.int .u64 0,.str []] []),i (.store 4 (e 2) (l 0))] [(3,v (.int .i64 140))])
 .ret))))
def f_qf:AFunc:=⟨9,1,.pure,[.cell true 4 2,.env 3],b_qf⟩
def b_qfa:ACode:=
 (.seq (.reg [] [(2,v (.bool false))])
 (.seq (.reg [i (.bin .lss (e 0) (v (.int .i64 0))),g (l 0) false (.mov (e 0)),g (l 0) false (.load false 1 (e 1)),g (l 0) false (.len (l 2)),g (l 0) false (.bin .geq (l 1) (l 3)),i (.pick (l 0) (v (.bool true)) (l 4))] [(2,l 5)])
 .ret))
def f_qfa:AFunc:=⟨3,2,.pure,[.env 2],b_qfa⟩
def b_qap:ACode:=
 (.seq (.reg [] [(2,v (.int .i64 0))])
 (.seq (.reg [i (.call 316 [e 0] false)] [(3,l 0)])
 (.seq (.reg [i (.call 316 [e 1] false)] [(4,l 0)])
 (.seq (.seq (.reg [] [(5,e 3)])
 (.cond (e 5) (.seq (.seq (.reg [] [(6,e 4)])
 (.cond (e 6) (.seq (.reg [] [(2,v (.int .i64 0))])
 .ret) .skip))
 (.seq (.reg [] [(2,v (.int .i64 (-1)))])
 .ret)) .skip))
 (.seq (.seq (.reg [] [(7,e 4)])
 (.cond (e 7) (.seq (.reg [] [(2,v (.int .i64 1))])
 .ret) .skip))
 (.seq (.seq (.reg [i (.bin .lss (e 0) (e 1))] [(8,l 0)])
 (.cond (e 8) (.seq (.reg [] [(2,v (.int .i64 (-1)))])
 .ret) .skip))
 (.seq (.seq (.reg [i (.bin .gtr (e 0) (e 1))] [(9,l 0)])
 (.cond (e 9) (.seq (.reg [] [(2,v (.int .i64 1))])
 .ret) .skip))
 (.seq (.reg [] [(2,v (.int .i64 0))])
 .ret))))))))
def f_qap:AFunc:=⟨10,2,.pure,[.env 2],b_qap⟩
def b_qaq:ACode:=
 (.seq (.reg [] [(2,v (.int .i64 0))])
 (.seq (.reg [i (.call 317 [e 0] false)] [(3,l 0)])
 (.seq (.reg [i (.call 317 [e 1] false)] [(4,l 0)])
 (.seq (.seq (.reg [] [(5,e 3)])
 (.cond (e 5) (.seq (.seq (.reg [] [(6,e 4)])
 (.cond (e 6) (.seq (.reg [] [(2,v (.int .i64 0))])
 .ret) .skip))
 (.seq (.reg [] [(2,v (.int .i64 (-1)))])
 .ret)) .skip))
 (.seq (.seq (.reg [] [(7,e 4)])
 (.cond (e 7) (.seq (.reg [] [(2,v (.int .i64 1))])
 .ret) .skip))
 (.seq (.seq (.reg [i (.bin .lss (e 0) (e 1))] [(8,l 0)])
 (.cond (e 8) (.seq (.reg [] [(2,v (.int .i64 (-1)))])
 .ret) .skip))
 (.seq (.seq (.reg [i (.bin .gtr (e 0) (e 1))] [(9,l 0)])
 (.cond (e 9) (.seq (.reg [] [(2,v (.int .i64 1))])
 .ret) .skip))
 (.seq (.reg [] [(2,v (.int .i64 0))])
 .ret))))))))
def f_qaq:AFunc:=⟨10,2,.pure,[.env 2],b_qaq⟩
def b_qas:ACode:=
 (.seq (.reg [] [(2,v (.int .i64 0))])
 (.seq (.reg [i (.call 318 [e 0] false)] [(3,l 0)])
 (.seq (.reg [i (.call 318 [e 1] false)] [(4,l 0)])
 (.seq (.seq (.reg [] [(5,e 3)])
 (.cond (e 5) (.seq (.seq (.reg [] [(6,e 4)])
 (.cond (e 6) (.seq (.reg [] [(2,v (.int .i64 0))])
 .ret) .skip))
 (.seq (.reg [] [(2,v (.int .i64 (-1)))])
 .ret)) .skip))
 (.seq (.seq (.reg [] [(7,e 4)])
 (.cond (e 7) (.seq (.reg [] [(2,v (.int .i64 1))])
 .ret) .skip))
 (.seq (.seq (.reg [i (.bin .lss (e 0) (e 1))] [(8,l 0)])
 (.cond (e 8) (.seq (.reg [] [(2,v (.int .i64 (-1)))])
 .ret) .skip))
 (.seq (.seq (.reg [i (.bin .gtr (e 0) (e 1))] [(9,l 0)])
 (.cond (e 9) (.seq (.reg [] [(2,v (.int .i64 1))])
 .ret) .skip))
 (.seq (.reg [] [(2,v (.int .i64 0))])
 .ret))))))))
def f_qas:AFunc:=⟨10,2,.pure,[.env 2],b_qas⟩
def b_qar:ACode:=
 (.seq (.reg [] [(2,v (.int .i64 0))])
 (.seq (.reg [i (.call 319 [e 0] false)] [(3,l 0)])
 (.seq (.reg [i (.call 319 [e 1] false)] [(4,l 0)])
 (.seq (.seq (.reg [] [(5,e 3)])
 (.cond (e 5) (.seq (.seq (.reg [] [(6,e 4)])
 (.cond (e 6) (.seq (.reg [] [(2,v (.int .i64 0))])
 .ret) .skip))
 (.seq (.reg [] [(2,v (.int .i64 (-1)))])
 .ret)) .skip))
 (.seq (.seq (.reg [] [(7,e 4)])
 (.cond (e 7) (.seq (.reg [] [(2,v (.int .i64 1))])
 .ret) .skip))
 (.seq (.seq (.reg [i (.bin .lss (e 0) (e 1))] [(8,l 0)])
 (.cond (e 8) (.seq (.reg [] [(2,v (.int .i64 (-1)))])
 .ret) .skip))
 (.seq (.seq (.reg [i (.bin .gtr (e 0) (e 1))] [(9,l 0)])
 (.cond (e 9) (.seq (.reg [] [(2,v (.int .i64 1))])
 .ret) .skip))
 (.seq (.reg [] [(2,v (.int .i64 0))])
 .ret))))))))
def f_qar:AFunc:=⟨10,2,.pure,[.env 2],b_qar⟩
def b_qdo:ACode:=
 (.seq (.reg [] [(1,v (.int .i64 0))])
 (.seq (.blk 0 (.seq (.reg [i (.bin .eql (e 0) (v (.int .i64 1))),g (l 0) false (.mov (e 0)),g (l 0) false (.bin .eql (l 1) (v (.int .i64 2))),i (.pick (l 0) (v (.bool true)) (l 2))] [(2,l 3)])
 (.cond (e 2) (.seq (.reg [] [(1,v (.int .i64 0))])
 .ret) (.seq (.reg [i (.bin .geq (e 0) (v (.int .i64 4))),g (l 0) true (.mov (e 0)),g (l 0) true (.bin .leq (l 1) (v (.int .i64 7))),i (.pick (l 0) (l 2) (v (.bool false)))] [(3,l 3)])
 (.cond (e 3) (.seq (.reg [] [(1,v (.int .i64 1))])
 .ret) (.seq (.reg [i (.bin .geq (e 0) (v (.int .i64 12))),g (l 0) true (.mov (e 0)),g (l 0) true (.bin .leq (l 1) (v (.int .i64 23))),i (.pick (l 0) (l 2) (v (.bool false)))] [(4,l 3)])
 (.cond (e 4) (.seq (.reg [] [(1,v (.int .i64 2))])
 .ret) .skip)))))))
 (.seq (.reg [] [(1,v (.int .i64 (-1)))])
 .ret)))
def f_qdo:AFunc:=⟨5,1,.pure,[.env 1],b_qdo⟩
def b_qdb:ACode:=
 (.seq (.reg [i (.box 8 (e 0))] [(1,l 0),(2,v (.bool false))])
 (.seq (.seq (.reg [i (.fld 0 (e 1)),i (.load false 1 (l 0))] [(3,l 1)])
 (.blk 0 (.seq (.reg [i (.bin .eql (e 3) (v (.int .i64 1)))] [(4,l 0)])
 (.cond (e 4) (.seq (.reg [i (.fld 4 (e 1)),i (.load true 4 (l 0)),i (.call 206 [l 1] false),g (l 2) true (.fld 3 (e 1)),g (l 2) true (.load false 1 (l 3)),g (l 2) true (.bin .eql (l 4) (v (.int .i64 0))),i (.pick (l 2) (l 5) (v (.bool false)))] [(2,l 6)])
 .ret) (.seq (.reg [i (.bin .eql (e 3) (v (.int .i64 2)))] [(5,l 0)])
 (.cond (e 5) (.seq (.reg [i (.fld 4 (e 1)),i (.load true 4 (l 0)),i (.build [.int .i64 0,.int .i64 0,.int .u64 0,.str []] []),i (.eqa false [0,0,0,2] (l 1) (l 2)),g (l 3) true (.fld 3 (e 1)),g (l 3) true (.load false 1 (l 4)),g (l 3) true (.bin .geq (l 5) (v (.int .i64 0))),i (.pick (l 3) (l 6) (v (.bool false))),g (l 7) true (.fld 3 (e 1)),g (l 7) true (.load false 1 (l 8)),g (l 7) true (.bin .lss (l 9) (v (.int .i64 16))),i (.pick (l 7) (l 10) (v (.bool false)))] [(2,l 11)])
 .ret) .skip))))))
 (.seq (.reg [i (.fld 4 (e 1)),i (.load true 4 (l 0)),i (.build [.int .i64 0,.int .i64 0,.int .u64 0,.str []] []),i (.eqa false [0,0,0,2] (l 1) (l 2)),g (l 3) true (.fld 3 (e 1)),g (l 3) true (.load false 1 (l 4)),g (l 3) true (.bin .eql (l 5) (v (.int .i64 0))),i (.pick (l 3) (l 6) (v (.bool false)))] [(2,l 7)])
 .ret)))
def f_qdb:AFunc:=⟨6,1,.pure,[.env 2],b_qdb⟩
def l_qgj_0:ACode:=
 (.seq (.reg [i (.bin .lss (e 5) (e 4))] [(6,l 0)])
 (.seq (.cond (e 6) .skip (.exit 0))
 (.seq (.blk 1 (.seq (.reg [] [(3,e 5)])
 (.seq (.reg [i (.idxs 4 (e 0) (e 3)),i (.load true 4 (l 0)),i (.callv (e 1) [l 1])] [(7,l 2)])
 (.cond (e 7) (.seq (.reg [] [(2,e 3)])
 .ret) .skip))))
 (.reg [i (.bin .add (e 5) (v (.int .i64 1)))] [(5,l 0)]))))
def b_qgj:ACode:=
 (.seq (.reg [] [(2,v (.int .i64 0))])
 (.seq (.seq (.reg [i (.len (e 0))] [(4,l 0),(5,v (.int .i64 0))])
 (.blk 0 (.loop [2,3,6,7] l_qgj_0)))
 (.seq (.reg [] [(2,v (.int .i64 (-1)))])
 .ret)))
def f_qgj:AFunc:=⟨8,2,.pure,[.env 2],b_qgj⟩
def b_qhg:ACode:=
 (.seq (.reg [i (.box 4 (e 0)),i (.box 4 (v (.agg [.int .i64 0,.int .i64 0,.int .u64 0,.str []])))] [(1,l 0),(2,l 1)])
 (.seq (.seq (.reg [i (.fld 0 (e 1)),i (.load false 1 (l 0))] [(3,l 1)])
 (.blk 0 (.seq (.blk 5 (.seq (.blk 4 (.seq (.blk 3 (.seq (.blk 2 (.seq (.blk 1 (.seq (.seq (.seq (.reg [i (.bin .eql (e 3) (v (.int .i64 1)))] [(4,l 0)])
 (.cond (e 4) (.exit 1) .skip))
 (.seq (.seq (.reg [i (.bin .eql (e 3) (v (.int .i64 2)))] [(5,l 0)])
 (.cond (e 5) (.exit 2) .skip))
 (.seq (.seq (.reg [i (.bin .eql (e 3) (v (.int .i64 0)))] [(6,l 0)])
 (.cond (e 6) (.exit 3) .skip))
 (.seq (.seq (.reg [i (.bin .eql (e 3) (v (.int .i64 3)))] [(7,l 0)])
 (.cond (e 7) (.exit 4) .skip))
 (.seq (.reg [i (.bin .eql (e 3) (v (.int .i64 4)))] [(8,l 0)])
 (.cond (e 8) (.exit 5) .skip))))))
 (.exit 0)))
 (.seq (.reg [i (.fld 1 (e 1)),i (.load false 1 (l 0)),i (.bin .neq (l 1) (v (.int .i64 0))),g (l 2) true (.fld 1 (e 1)),g (l 2) true (.load false 1 (l 3)),g (l 2) true (.bin .neq (l 4) (v (.int .i64 1))),i (.pick (l 2) (l 5) (v (.bool false)))] [(9,l 6)])
 (.cond (e 9) (.exit 0) .skip))))
 (.reg [i (.fld 1 (e 1)),i (.store 1 (l 0) (v (.int .i64 0)))] [])))
 (.seq (.reg [i (.fld 0 (e 1)),i (.store 1 (l 0) (v (.int .i64 0)))] [])
 (.exit 0))))
 (.seq (.seq (.reg [i (.fld 3 (e 1)),i (.load false 1 (l 0)),i (.lent (l 1)),i (.bin .leq (l 2) (v (.int .i64 40)))] [(10,l 3)])
 (.cond (e 10) (.reg [i (.fld 0 (e 1)),i (.store 1 (l 0) (v (.int .i64 0))),i (.fld 3 (e 1)),i (.store 1 (l 2) (v (.str [])))] []) .skip))
 (.exit 0))))
 (.seq (.reg [i (.fld 0 (e 1)),i (.store 1 (l 0) (v (.int .i64 0))),i (.fld 1 (e 1)),i (.store 1 (l 2) (v (.int .i64 0))),i (.fld 2 (e 1)),i (.store 1 (l 4) (v (.int .u64 0)))] [])
 (.exit 0)))))
 (.seq (.reg [i (.load true 4 (e 1)),i (.store 4 (e 2) (l 0))] [])
 .ret)))
def f_qhg:AFunc:=⟨11,1,.pure,[.cell true 4 2],b_qhg⟩
def b_qds:ACode:=
 (.seq (.reg [] [(2,v (.int .u64 0)),(3,v (.int .u64 0))])
 (.seq (.reg [i (.bin .and (e 0) (v (.int .u64 4294967295)))] [(4,l 0)])
 (.seq (.reg [i (.bin .shr (e 0) (v (.int .u64 32)))] [(5,l 0)])
 (.seq (.reg [i (.bin .and (e 1) (v (.int .u64 4294967295)))] [(6,l 0)])
 (.seq (.reg [i (.bin .shr (e 1) (v (.int .u64 32)))] [(7,l 0)])
 (.seq (.reg [i (.bin .mul (e 4) (e 6))] [(8,l 0)])
 (.seq (.reg [i (.bin .mul (e 5) (e 6)),i (.bin .shr (e 8) (v (.int .u64 32))),i (.bin .add (l 0) (l 1))] [(9,l 2)])
 (.seq (.reg [i (.bin .and (e 9) (v (.int .u64 4294967295)))] [(10,l 0)])
 (.seq (.reg [i (.bin .shr (e 9) (v (.int .u64 32)))] [(11,l 0)])
 (.seq (.reg [i (.bin .mul (e 4) (e 7)),i (.bin .add (e 10) (l 0))] [(10,l 1)])
 (.seq (.reg [i (.bin .mul (e 5) (e 7)),i (.bin .add (l 0) (e 11)),i (.bin .shr (e 10) (v (.int .u64 32))),i (.bin .add (l 1) (l 2))] [(2,l 3)])
 (.seq (.reg [i (.bin .mul (e 0) (e 1))] [(3,l 0)])
 .ret))))))))))))
def f_qds:AFunc:=⟨12,2,.pure,[.env 2,.env 3],b_qds⟩
def b_qfe:ACode:=
 (.seq (.reg [i (.box 4 (e 0))] [(1,l 0),(2,v (.bool false))])
 (.seq (.reg [i (.load true 4 (e 1)),i (.call 255 [l 0] false),i (.bin .neq (l 1) (v (.int .i64 0)))] [(2,l 2)])
 .ret))
def f_qfe:AFunc:=⟨3,1,.pure,[.env 2],b_qfe⟩
def b_qfw:ACode:=
 (.seq (.reg [] [(2,v (.bool false))])
 (.seq (.reg [i (.call 320 [e 0,e 1] false),i (.bin .geq (l 0) (v (.int .i64 0)))] [(2,l 1)])
 .ret))
def f_qfw:AFunc:=⟨3,2,.pure,[.env 2],b_qfw⟩
def b_qhf:ACode:=
 (.seq (.reg [i (.box 4 (e 0))] [(1,l 0),(2,v (.bool false))])
 (.seq (.reg [i (.load true 4 (e 1)),i (.call 321 [(v (.bool true))] false),i (.eqa false [0,0,0,2] (l 0) (l 1))] [(2,l 2)])
 .ret))
def f_qhf:AFunc:=⟨3,1,.pure,[.env 2],b_qhf⟩
def b_qge:ACode:=
 (.seq (.reg [i (.mov (v (.nil0)))] [(2,l 0)])
 (.seq (.seq (.reg [i (.bin .lss (e 1) (v (.int .i64 0)))] [(3,l 0)])
 (.cond (e 3) (.reg [i (.bad),i (.bad)] []) .skip))
 (.seq (.seq (.reg [i (.cap (e 0)),i (.len (e 0)),i (.bin .sub (l 0) (l 1)),i (.bin .sub (e 1) (l 2))] [(1,l 3)])
 (.seq (.reg [i (.bin .gtr (e 1) (v (.int .i64 0)))] [(4,l 0)])
 (.cond (e 4) (.reg [i (.cap (e 0)),i (.slice 4 (e 0) none (some (l 0))),i (.appz 4 (.agg [.int .i64 0,.int .i64 0,.int .u64 0,.str []]) (l 1) (e 1)),i (.len (e 0)),i (.slice 4 (l 2) none (some (l 3)))] [(0,l 4)]) .skip)))
 (.seq (.reg [] [(2,e 0)])
 .ret))))
def f_qge:AFunc:=⟨5,2,.keep,[.env 2],b_qge⟩
def l_qfo_0:ACode:=
 (.seq (.seq (.reg [i (.len (e 4)),i (.bin .lss (e 5) (l 0))] [(9,l 1)])
 (.cond (e 9) .skip (.exit 2)))
 (.seq (.blk 3 (.seq (.reg [i (.idxs 1 (e 4) (e 5)),i (.load false 1 (l 0)),i (.bin .sub (e 5) (v (.int .i64 1))),i (.idxs 1 (e 4) (l 2)),i (.load false 1 (l 3)),i (.callv (e 1) [l 1,l 4]),i (.una .not (l 5))] [(10,l 6)])
 (.cond (e 10) (.seq (.reg [i (.idxs 1 (e 4) (e 5)),i (.load false 1 (l 0)),i (.idxs 1 (e 0) (e 3)),i (.store 1 (l 2) (l 1))] [])
 (.reg [i (.bin .add (e 3) (v (.int .i64 1)))] [(3,l 0)])) .skip)))
 (.reg [i (.bin .add (e 5) (v (.int .i64 1)))] [(5,l 0)])))
def l_qfo_1:ACode:=
 (.seq (.seq (.reg [i (.len (e 0)),i (.bin .lss (e 3) (l 0))] [(7,l 1)])
 (.cond (e 7) .skip (.exit 0)))
 (.seq (.blk 1 (.seq (.reg [i (.idxs 1 (e 0) (e 3)),i (.load false 1 (l 0)),i (.bin .sub (e 3) (v (.int .i64 1))),i (.idxs 1 (e 0) (l 2)),i (.load false 1 (l 3)),i (.callv (e 1) [l 1,l 4])] [(8,l 5)])
 (.cond (e 8) (.seq (.reg [i (.slice 1 (e 0) (some (e 3)) none)] [(4,l 0)])
 (.seq (.seq (.reg [] [(5,v (.int .i64 1))])
 (.blk 2 (.loop [9,10] l_qfo_0)))
 (.seq (.reg [i (.slice 1 (e 0) (some (e 3)) none),i (.clr (.nil0) (l 0))] [])
 (.seq (.reg [i (.slice 1 (e 0) none (some (e 3)))] [(2,l 0)])
 .ret)))) .skip)))
 (.reg [i (.bin .add (e 3) (v (.int .i64 1)))] [(3,l 0)])))
def b_qfo:ACode:=
 (.seq (.reg [i (.mov (v (.nil0)))] [(2,l 0)])
 (.seq (.seq (.reg [i (.len (e 0)),i (.bin .lss (l 0) (v (.int .i64 2)))] [(6,l 1)])
 (.cond (e 6) (.seq (.reg [] [(2,e 0)])
 .ret) .skip))
 (.seq (.seq (.reg [] [(3,v (.int .i64 1))])
 (.blk 0 (.loop [2,4,5,7,8,9,10] l_qfo_1)))
 (.seq (.reg [] [(2,e 0)])
 .ret))))
def f_qfo:AFunc:=⟨11,2,.keep,[.env 2],b_qfo⟩
def b_qeg:ACode:=
 (.seq (.reg [] [(1,v (.bool false))])
 (.seq (.reg [i (.bin .lss (e 0) (v (.int .i64 1))),g (l 0) false (.mov (e 0)),g (l 0) false (.bin .gtr (l 1) (v (.int .i64 3))),i (.pick (l 0) (v (.bool true)) (l 2))] [(1,l 3)])
 .ret))
def f_qeg:AFunc:=⟨2,1,.pure,[.env 1],b_qeg⟩
def b_qea:ACode:=
 (.seq (.reg [] [(1,v (.bool false))])
 (.seq (.reg [i (.bin .lss (e 0) (v (.int .i64 0))),g (l 0) false (.mov (e 0)),g (l 0) false (.bin .gtr (l 1) (v (.int .i64 4))),i (.pick (l 0) (v (.bool true)) (l 2))] [(1,l 3)])
 .ret))
def f_qea:AFunc:=⟨2,1,.pure,[.env 1],b_qea⟩
def l_qft_0:ACode:=
 (.seq (.reg [i (.bin .lss (e 13) (e 12))] [(14,l 0)])
 (.seq (.cond (e 14) .skip (.exit 2))
 (.seq (.blk 3 (.seq (.reg [i (.idxs 1 (e 11) (e 13)),i (.load false 1 (l 0))] [(5,l 1)])
 (.reg [i (.app 1 (e 4) (e 5))] [(4,l 0)])))
 (.reg [i (.bin .add (e 13) (v (.int .i64 1)))] [(13,l 0)]))))
def l_qft_1:ACode:=
 (.seq (.reg [i (.bin .lss (e 8) (e 7))] [(9,l 0)])
 (.seq (.cond (e 9) .skip (.exit 0))
 (.seq (.blk 1 (.seq (.reg [i (.idxs 1 (e 6) (e 8)),i (.load false 1 (l 0))] [(3,l 1)])
 (.seq (.reg [i (.len (e 3)),i (.bin .add (e 2) (l 0))] [(2,l 1)])
 (.seq (.reg [i (.bin .lss (e 2) (v (.int .i64 0)))] [(10,l 0)])
 (.cond (e 10) (.reg [i (.bad),i (.bad)] []) .skip)))))
 (.reg [i (.bin .add (e 8) (v (.int .i64 1)))] [(8,l 0)]))))
def b_qft:ACode:=
 (.seq (.reg [i (.mov (v (.nil0)))] [(1,l 0)])
 (.seq (.reg [] [(2,v (.int .i64 0))])
 (.seq (.seq (.reg [i (.len (e 0))] [(6,e 0),(7,l 0),(8,v (.int .i64 0))])
 (.blk 0 (.loop [3,9,10] l_qft_1)))
 (.seq (.reg [i (.call 339 [(v (.nil0)),e 2] false)] [(4,l 0)])
 (.seq (.seq (.reg [i (.len (e 0))] [(11,e 0),(12,l 0),(13,v (.int .i64 0))])
 (.blk 2 (.loop [5,14] l_qft_0)))
 (.seq (.reg [] [(1,e 4)])
 .ret))))))
def f_qft:AFunc:=⟨15,1,.pure,[.env 1],b_qft⟩
def b_qem:ACode:=
 (.seq (.reg [i (.box 1 (e 0))] [(2,l 0),(3,v (.bool false))])
 (.seq (.reg [i (.load true 1 (e 2)),i (.call 276 [l 0,e 1] false),i (.ext 0 (l 1)),i (.ext 1 (l 1))] [(4,l 2),(5,l 3)])
 (.seq (.reg [i (.bin .eql (e 5) (v (.int .i64 0))),g (l 0) true (.mov (e 4)),g (l 0) true (.bin .eql (l 1) (v (.int .i64 0))),g (l 0) true (.mov (l 2)),g (l 3) false (.mov (e 4)),g (l 3) false (.bin .eql (l 4) (v (.int .i64 1))),g (l 0) true (.pick (l 3) (v (.bool true)) (l 5)),i (.pick (l 0) (l 6) (v (.bool false)))] [(3,l 7)])
 .ret)))
def f_qem:AFunc:=⟨6,2,.pure,[.env 3],b_qem⟩
def l_qcy_0:ACode:=
 (.seq (.reg [i (.bin .lss (e 17) (e 16))] [(18,l 0)])
 (.seq (.cond (e 18) .skip (.exit 2))
 (.seq (.blk 3 (.seq (.reg [i (.idxs 1 (e 15) (e 17)),i (.load false 1 (l 0))] [(8,l 1)])
 (.seq (.reg [i (.load false 1 (e 3)),i (.len (l 0)),i (.bin .geq (e 8) (l 1))] [(19,l 2)])
 (.cond (e 19) (.seq (.reg [] [(4,v (.int .i64 0)),(5,v (.int .i64 2))])
 .ret) .skip))))
 (.reg [i (.bin .add (e 17) (v (.int .i64 1)))] [(17,l 0)]))))
def l_qcz:ACode:=
 (.seq (.reg [i (.bin .lss (e 12) (e 11))] [(13,l 0)])
 (.seq (.cond (e 13) .skip (.exit 0))
 (.seq (.blk 1 (.seq (.reg [i (.idxs 1 (e 10) (e 12)),i (.load false 1 (l 0))] [(7,l 1)])
 (.seq (.reg [i (.bin .lss (e 7) (v (.int .i64 0))),g (l 0) false (.mov (e 7)),g (l 0) false (.bin .gtr (l 1) (v (.int .i64 3))),i (.pick (l 0) (v (.bool true)) (l 2))] [(14,l 3)])
 (.cond (e 14) (.seq (.reg [] [(4,v (.int .i64 0)),(5,v (.int .i64 2))])
 .ret) .skip))))
 (.reg [i (.bin .add (e 12) (v (.int .i64 1)))] [(12,l 0)]))))
def b_qcy:ACode:=
 (.seq (.reg [i (.box 1 (e 0)),i (.box 1 (e 1))] [(2,l 0),(3,l 1),(4,v (.int .i64 0)),(5,v (.int .i64 0))])
 (.seq (.seq (.reg [i (.load true 1 (e 2)),i (.call 71 [l 0] false)] [(6,l 1)])
 (.seq (.reg [i (.bin .neq (e 6) (v (.int .i64 0)))] [(9,l 0)])
 (.cond (e 9) (.seq (.reg [] [(4,v (.int .i64 0)),(5,e 6)])
 .ret) .skip)))
 (.seq (.seq (.reg [i (.load false 1 (e 3)),i (.len (l 0))] [(10,l 0),(11,l 1),(12,v (.int .i64 0))])
 (.blk 0 (.loop [4,5,7,13,14] l_qcz)))
 (.seq (.seq (.reg [i (.load true 1 (e 2)),i (.call 207 [l 0] false),i (.len (l 1))] [(15,l 1),(16,l 2),(17,v (.int .i64 0))])
 (.blk 2 (.loop [4,5,8,18,19] l_qcy_0)))
 (.seq (.reg [i (.load true 1 (e 2)),i (.mkfn 340 [] [e 3]),i (.call 341 [l 0,l 1] false),i (.ext 0 (l 2)),i (.ext 1 (l 2))] [(4,l 3),(5,l 4)])
 .ret)))))
def f_qcy:AFunc:=⟨20,2,.pure,[.env 4,.env 5],b_qcy⟩
def b_qei:ACode:=
 (.seq (.reg [i (.box 2 (e 0))] [(2,l 0),(3,v (.bool false))])
 (.seq (.reg [i (.fld 0 (e 2)),i (.load false 1 (l 0)),i (.bin .lss (l 1) (v (.int .i64 0))),g (l 2) false (.fld 0 (e 2)),g (l 2) false (.load false 1 (l 3)),g (l 2) false (.load false 1 (e 1)),g (l 2) false (.nilck (l 5)),g (l 2) false (.fld 15 (l 6)),g (l 2) false (.load false 1 (l 7)),g (l 2) false (.len (l 8)),g (l 2) false (.bin .geq (l 4) (l 9)),i (.pick (l 2) (v (.bool true)) (l 10))] [(3,l 11)])
 .ret))
def f_qei:AFunc:=⟨4,2,.pure,[.env 3],b_qei⟩
def l_qgl_0:ACode:=
 (.seq (.reg [i (.bin .lss (e 5) (e 4))] [(6,l 0)])
 (.seq (.cond (e 6) .skip (.exit 0))
 (.seq (.blk 1 (.seq (.reg [] [(3,e 5)])
 (.seq (.reg [i (.idxs 1 (e 0) (e 3)),i (.load false 1 (l 0)),i (.bin .eql (e 1) (l 1))] [(7,l 2)])
 (.cond (e 7) (.seq (.reg [] [(2,e 3)])
 .ret) .skip))))
 (.reg [i (.bin .add (e 5) (v (.int .i64 1)))] [(5,l 0)]))))
def b_qgl:ACode:=
 (.seq (.reg [] [(2,v (.int .i64 0))])
 (.seq (.seq (.reg [i (.len (e 0))] [(4,l 0),(5,v (.int .i64 0))])
 (.blk 0 (.loop [2,3,6,7] l_qgl_0)))
 (.seq (.reg [] [(2,v (.int .i64 (-1)))])
 .ret)))
def f_qgl:AFunc:=⟨8,2,.pure,[.env 2],b_qgl⟩
def l_qcd_0:ACode:=
 (.seq (.reg [i (.bin .lss (e 12) (e 11))] [(13,l 0)])
 (.seq (.cond (e 13) .skip (.exit 2))
 (.seq (.blk 3 (.seq (.reg [i (.idxs 1 (e 10) (e 12)),i (.load false 1 (l 0))] [(5,l 1)])
 (.seq (.reg [i (.mkl 1 [e 4,e 5]),i (.call 168 [l 0] false),i (.callv (e 0) [e 3,l 1]),i (.una .not (l 2))] [(14,l 3)])
 (.cond (e 14) .ret .skip))))
 (.reg [i (.bin .add (e 12) (v (.int .i64 1)))] [(12,l 0)]))))
def l_qcd_1:ACode:=
 (.seq (.reg [i (.bin .lss (e 8) (e 7))] [(9,l 0)])
 (.seq (.cond (e 9) .skip (.exit 0))
 (.seq (.blk 1 (.seq (.reg [i (.idxs 1 (e 6) (e 8)),i (.load false 1 (l 0))] [(3,e 8),(4,l 1)])
 (.seq (.reg [i (.load false 1 (e 2)),i (.len (l 0))] [(10,l 0),(11,l 1),(12,v (.int .i64 0))])
 (.blk 2 (.loop [5,13,14] l_qcd_0)))))
 (.reg [i (.bin .add (e 8) (v (.int .i64 1)))] [(8,l 0)]))))
def b_qcd:ACode:=
 (.seq (.reg [i (.load false 1 (e 1)),i (.len (l 0))] [(6,l 0),(7,l 1),(8,v (.int .i64 0))])
 (.blk 0 (.loop [3,4,5,9,10,11,12,13,14] l_qcd_1)))
def f_qcd:AFunc:=⟨15,3,.keep,[],b_qcd⟩
def l_qca_0:ACode:=
 (.seq (.reg [i (.bin .lss (e 9) (e 8))] [(10,l 0)])
 (.seq (.cond (e 10) .skip (.exit 0))
 (.seq (.blk 1 (.seq (.reg [i (.idxs 2 (e 7) (e 9)),i (.load true 2 (l 0)),i (.box 2 (v (.agg [.nil0,.nil0]))),i (.store 2 (l 2) (l 1))] [(5,l 2)])
 (.seq (.reg [i (.load true 2 (e 5)),i (.callv (e 0) [l 0]),i (.una .not (l 1))] [(11,l 2)])
 (.cond (e 11) .ret .skip))))
 (.reg [i (.bin .add (e 9) (v (.int .i64 1)))] [(9,l 0)]))))
def b_qca:ACode:=
 (.seq (.reg [i (.load false 1 (e 1)),i (.load false 1 (e 2)),i (.call 20 [l 0,l 1] false),i (.ext 0 (l 2)),i (.ext 1 (l 2))] [(4,l 3)])
 (.seq (.seq (.reg [i (.len (e 4)),i (.bin .eql (l 0) (v (.int .i64 0))),g (l 1) true (.load false 1 (e 2)),g (l 1) true (.len (l 2)),g (l 1) true (.bin .eql (l 3) (v (.int .i64 0))),i (.pick (l 1) (l 4) (v (.bool false))),g (l 5) true (.load false 1 (e 3)),i (.pick (l 5) (l 6) (v (.bool false)))] [(6,l 7)])
 (.cond (e 6) (.reg [i (.build [.nil0,.nil0] []),i (.mkl 2 [l 0])] [(4,l 1)]) .skip))
 (.seq (.reg [i (.len (e 4))] [(7,e 4),(8,l 0),(9,v (.int .i64 0))])
 (.blk 0 (.loop [5,10,11] l_qca_0)))))
def f_qca:AFunc:=⟨12,4,.keep,[],b_qca⟩
def l_qfp_0:ACode:=
 (.seq (.seq (.reg [i (.len (e 3)),i (.bin .lss (e 4) (l 0))] [(8,l 1)])
 (.cond (e 8) .skip (.exit 2)))
 (.seq (.blk 3 (.seq (.reg [i (.idxs 1 (e 3) (e 4)),i (.load false 1 (l 0)),i (.bin .sub (e 4) (v (.int .i64 1))),i (.idxs 1 (e 3) (l 2)),i (.load false 1 (l 3)),i (.bin .neq (l 1) (l 4))] [(9,l 5)])
 (.cond (e 9) (.seq (.reg [i (.idxs 1 (e 3) (e 4)),i (.load false 1 (l 0)),i (.idxs 1 (e 0) (e 2)),i (.store 1 (l 2) (l 1))] [])
 (.reg [i (.bin .add (e 2) (v (.int .i64 1)))] [(2,l 0)])) .skip)))
 (.reg [i (.bin .add (e 4) (v (.int .i64 1)))] [(4,l 0)])))
def l_qfp_1:ACode:=
 (.seq (.seq (.reg [i (.len (e 0)),i (.bin .lss (e 2) (l 0))] [(6,l 1)])
 (.cond (e 6) .skip (.exit 0)))
 (.seq (.blk 1 (.seq (.reg [i (.idxs 1 (e 0) (e 2)),i (.load false 1 (l 0)),i (.bin .sub (e 2) (v (.int .i64 1))),i (.idxs 1 (e 0) (l 2)),i (.load false 1 (l 3)),i (.bin .eql (l 1) (l 4))] [(7,l 5)])
 (.cond (e 7) (.seq (.reg [i (.slice 1 (e 0) (some (e 2)) none)] [(3,l 0)])
 (.seq (.seq (.reg [] [(4,v (.int .i64 1))])
 (.blk 2 (.loop [8,9] l_qfp_0)))
 (.seq (.reg [i (.slice 1 (e 0) (some (e 2)) none),i (.clr (.int .i64 0) (l 0))] [])
 (.seq (.reg [i (.slice 1 (e 0) none (some (e 2)))] [(1,l 0)])
 .ret)))) .skip)))
 (.reg [i (.bin .add (e 2) (v (.int .i64 1)))] [(2,l 0)])))
def b_qfp:ACode:=
 (.seq (.reg [i (.mov (v (.nil0)))] [(1,l 0)])
 (.seq (.seq (.reg [i (.len (e 0)),i (.bin .lss (l 0) (v (.int .i64 2)))] [(5,l 1)])
 (.cond (e 5) (.seq (.reg [] [(1,e 0)])
 .ret) .skip))
 (.seq (.seq (.reg [] [(2,v (.int .i64 1))])
 (.blk 0 (.loop [1,3,4,6,7,8,9] l_qfp_1)))
 (.seq (.reg [] [(1,e 0)])
 .ret))))
def f_qfp:AFunc:=⟨10,1,.keep,[.env 1],b_qfp⟩
def b_qdp:ACode:=
 (.seq (.reg [i (.box 1 (e 0))] [(1,l 0),(2,v (.nilf))])
 (.seq (.reg [i (.mkfn 342 [] [e 1])] [(2,l 0)])
 .ret))
def f_qdp:AFunc:=⟨3,1,.pure,[.env 2],b_qdp⟩
def b_qgx:ACode:=
 (.seq (.reg [i (.box 4 (e 0)),i (.box 4 (e 1)),i (.box 4 (v (.agg [.int .i64 0,.int .i64 0,.int .u64 0,.str []])))] [(2,l 0),(3,l 1),(4,l 2),(5,v (.int .i64 0))])
 (.seq (.reg [i (.load true 4 (e 2)),i (.load true 4 (e 3)),i (.call 343 [l 0,l 1,(v (.fn 344 [] []))] false),i (.ext 0 (l 2)),i (.ext 1 (l 2)),i (.store 4 (e 4) (l 3))] [(5,l 4)])
 .ret))
def f_qgx:AFunc:=⟨6,2,.pure,[.cell true 4 4,.env 5],b_qgx⟩
def b_qdd:ACode:=
 (.seq (.reg [i (.box 1 (e 0))] [(1,l 0),(2,v (.nilf))])
 (.seq (.reg [i (.mkfn 345 [] [e 1])] [(2,l 0)])
 .ret))
def f_qdd:AFunc:=⟨3,1,.pure,[.env 2],b_qdd⟩
def b_qj:ACode:=
 (.seq (.reg [i (.box 4 (e 0)),i (.box 4 (v (.agg [.int .i64 0,.int .i64 0,.int .u64 0,.str []])))] [(1,l 0),(2,l 1),(3,v (.int .i64 0))])
 (.seq (.reg [i (.call 149 [(v (.int .i64 0))] false),i (.load true 4 (e 1)),i (.call 288 [l 0,l 1] false),i (.ext 0 (l 2)),i (.ext 1 (l 2)),i (.store 4 (e 2) (l 3))] [(3,l 4)])
 .ret))
def f_qj:AFunc:=⟨4,1,.pure,[.cell true 4 2,.env 3],b_qj⟩
def b_qgz:ACode:=
 (.seq (.reg [i (.box 4 (e 0)),i (.box 4 (v (.agg [.int .i64 0,.int .i64 0,.int .u64 0,.str []])))] [(1,l 0),(2,l 1),(3,v (.int .i64 0))])
 (.seq (.reg [i (.load true 4 (e 1)),i (.mkl 4 [l 0]),i (.call 346 [(v (.fn 347 [] [])),l 1] false),i (.ext 0 (l 2)),i (.ext 1 (l 2)),i (.store 4 (e 2) (l 3))] [(3,l 4)])
 .ret))
def f_qgz:AFunc:=⟨4,1,.pure,[.cell true 4 2,.env 3],b_qgz⟩
def b_qdi:ACode:=
 (.seq (.reg [i (.box 1 (e 0))] [(1,l 0),(2,v (.nilf))])
 (.seq (.reg [i (.mkfn 348 [] [e 1])] [(2,l 0)])
 .ret))
def f_qdi:AFunc:=⟨3,1,.pure,[.env 2],b_qdi⟩
def b_qa:ACode:=
 (.seq (.reg [i (.box 4 (e 0)),i (.box 4 (e 1)),i (.box 4 (v (.agg [.int .i64 0,.int .i64 0,.int .u64 0,.str []])))] [(2,l 0),(3,l 1),(4,l 2),(5,v (.int .i64 0))])
 (.seq (.reg [i (.load true 4 (e 2)),i (.load true 4 (e 3)),i (.call 349 [l 0,l 1,(v (.fn 350 [] []))] false),i (.ext 0 (l 2)),i (.ext 1 (l 2)),i (.store 4 (e 4) (l 3))] [(5,l 4)])
 .ret))
def f_qa:AFunc:=⟨6,2,.pure,[.cell true 4 4,.env 5],b_qa⟩
def b_qk:ACode:=
 (.seq (.reg [i (.box 4 (e 0)),i (.box 4 (e 1)),i (.box 4 (v (.agg [.int .i64 0,.int .i64 0,.int .u64 0,.str []])))] [(2,l 0),(3,l 1),(4,l 2),(5,v (.int .i64 0))])
 (.seq (.reg [i (.load true 4 (e 2)),i (.load true 4 (e 3)),i (.call 349 [l 0,l 1,(v (.fn 351 [] []))] false),i (.ext 0 (l 2)),i (.ext 1 (l 2)),i (.store 4 (e 4) (l 3))] [(5,l 4)])
 .ret))
def f_qk:AFunc:=⟨6,2,.pure,[.cell true 4 4,.env 5],b_qk⟩
def b_qh:ACode:=
 (.seq (.reg [i (.box 4 (e 0)),i (.box 4 (e 1)),i (.box 4 (v (.agg [.int .i64 0,.int .i64 0,.int .u64 0,.str []])))] [(2,l 0),(3,l 1),(4,l 2),(5,v (.int .i64 0))])
 (.seq (.reg [i (.load true 4 (e 2)),i (.load true 4 (e 3)),i (.call 349 [l 0,l 1,(v (.fn 352 [] []))] false),i (.ext 0 (l 2)),i (.ext 1 (l 2)),i (.store 4 (e 4) (l 3))] [(5,l 4)])
 .ret))
def f_qh:AFunc:=⟨6,2,.pure,[.cell true 4 4,.env 5],b_qh⟩
def b_qd:ACode:=
 (.seq (.reg [i (.box 4 (e 0)),i (.box 4 (e 1)),i (.box 4 (v (.agg [.int .i64 0,.int .i64 0,.int .u64 0,.str []])))] [(2,l 0),(3,l 1),(4,l 2),(5,v (.int .i64 0))])
 (.seq (.reg [i (.load true 4 (e 2)),i (.load true 4 (e 3)),i (.call 349 [l 0,l 1,(v (.fn 353 [] []))] false),i (.ext 0 (l 2)),i (.ext 1 (l 2)),i (.store 4 (e 4) (l 3))] [(5,l 4)])
 .ret))
def f_qd:AFunc:=⟨6,2,.pure,[.cell true 4 4,.env 5],b_qd⟩
def b_qgu:ACode:=
 (.seq (.reg [i (.box 4 (e 0)),i (.box 4 (e 1)),i (.box 4 (v (.agg [.int .i64 0,.int .i64 0,.int .u64 0,.str []])))] [(2,l 0),(3,l 1),(4,l 2),(5,v (.int .i64 0))])
 (.seq (.reg [i (.load true 4 (e 2)),i (.load true 4 (e 3)),i (.call 343 [l 0,l 1,(v (.fn 354 [] []))] false),i (.ext 0 (l 2)),i (.ext 1 (l 2)),i (.store 4 (e 4) (l 3))] [(5,l 4)])
 .ret))
def f_qgu:AFunc:=⟨6,2,.pure,[.cell true 4 4,.env 5],b_qgu⟩
def b_qdg:ACode:=
 (.seq (.reg [i (.box 1 (e 0))] [(1,l 0),(2,v (.nilf))])
 (.seq (.reg [i (.mkfn 355 [] [e 1])] [(2,l 0)])
 .ret))
def f_qdg:AFunc:=⟨3,1,.pure,[.env 2],b_qdg⟩
def b_qgp:ACode:=
 (.seq (.reg [i (.box 4 (e 0)),i (.box 4 (e 1)),i (.box 4 (v (.agg [.int .i64 0,.int .i64 0,.int .u64 0,.str []])))] [(2,l 0),(3,l 1),(4,l 2),(5,v (.int .i64 0))])
 (.seq (.reg [i (.load true 4 (e 2)),i (.load true 4 (e 3)),i (.mkl 4 [l 0,l 1]),i (.call 346 [(v (.fn 356 [] [])),l 2] false),i (.ext 0 (l 3)),i (.ext 1 (l 3)),i (.store 4 (e 4) (l 4))] [(5,l 5)])
 .ret))
def f_qgp:AFunc:=⟨6,2,.pure,[.cell true 4 4,.env 5],b_qgp⟩
def b_qhc:ACode:=
 (.seq (.reg [i (.box 4 (e 0)),i (.box 4 (e 1)),i (.box 4 (v (.agg [.int .i64 0,.int .i64 0,.int .u64 0,.str []])))] [(2,l 0),(3,l 1),(4,l 2),(5,v (.int .i64 0))])
 (.seq (.reg [i (.load true 4 (e 2)),i (.load true 4 (e 3)),i (.mkl 4 [l 0,l 1]),i (.call 346 [(v (.fn 357 [] [])),l 2] false),i (.ext 0 (l 3)),i (.ext 1 (l 3)),i (.store 4 (e 4) (l 4))] [(5,l 5)])
 .ret))
def f_qhc:AFunc:=⟨6,2,.pure,[.cell true 4 4,.env 5],b_qhc⟩
def b_qdl:ACode:=
 (.seq (.reg [i (.mov (v (.nil0)))] [(2,l 0)])
 (.seq (.reg [i (.load false 1 (e 1)),i (.load false 1 (e 1)),i (.len (l 1)),i (.bin .sub (l 2) (e 0)),i (.slice 4 (l 0) (some (l 3)) none),i (.call 358 [l 4] true)] [(3,l 5)])
 (.seq (.reg [i (.load false 1 (e 1)),i (.load false 1 (e 1)),i (.len (l 1)),i (.bin .sub (l 2) (e 0)),i (.slice 4 (l 0) none (some (l 3))),i (.store 1 (e 1) (l 4))] [])
 (.seq (.reg [] [(2,e 3)])
 .ret))))
def f_qdl:AFunc:=⟨4,2,.keep,[.env 2],b_qdl⟩
def b_qfm:ACode:=
 (.seq (.reg [i (.mov (v (.nil0)))] [(1,l 0)])
 (.seq (.seq (.reg [i (.nils false (e 0))] [(2,l 0)])
 (.cond (e 2) (.seq (.reg [i (.mov (v (.nil0)))] [(1,l 0)])
 .ret) .skip))
 (.seq (.reg [i (.mov (v .nil0)),i (.app 4 (l 0) (e 0))] [(1,l 1)])
 .ret)))
def f_qfm:AFunc:=⟨3,1,.fresh 4,[.env 1],b_qfm⟩
def b_qau:ACode:=
 (.seq (.reg [] [(1,v (.bool false))])
 (.seq (.reg [i (.bin .neq (e 0) (e 0))] [(1,l 0)])
 .ret))
def f_qau:AFunc:=⟨2,1,.pure,[.env 1],b_qau⟩
def b_qav:ACode:=
 (.seq (.reg [] [(1,v (.bool false))])
 (.seq (.reg [i (.bin .neq (e 0) (e 0))] [(1,l 0)])
 .ret))
def f_qav:AFunc:=⟨2,1,.pure,[.env 1],b_qav⟩
def b_qax:ACode:=
 (.seq (.reg [] [(1,v (.bool false))])
 (.seq (.reg [i (.bin .neq (e 0) (e 0))] [(1,l 0)])
 .ret))
def f_qax:AFunc:=⟨2,1,.pure,[.env 1],b_qax⟩
def b_qaw:ACode:=
 (.seq (.reg [] [(1,v (.bool false))])
 (.seq (.reg [i (.bin .neq (e 0) (e 0))] [(1,l 0)])
 .ret))
def f_qaw:AFunc:=⟨2,1,.pure,[.env 1],b_qaw⟩
def l_qgi_0:ACode:=
 (.seq (.reg [i (.bin .lss (e 5) (e 4))] [(6,l 0)])
 (.seq (.cond (e 6) .skip (.exit 0))
 (.seq (.blk 1 (.seq (.reg [] [(3,e 5)])
 (.seq (.reg [i (.idxs 4 (e 0) (e 3)),i (.load true 4 (l 0)),i (.callv (e 1) [l 1])] [(7,l 2)])
 (.cond (e 7) (.seq (.reg [] [(2,e 3)])
 .ret) .skip))))
 (.reg [i (.bin .add (e 5) (v (.int .i64 1)))] [(5,l 0)]))))
def b_qgi:ACode:=
 (.seq (.reg [] [(2,v (.int .i64 0))])
 (.seq (.seq (.reg [i (.len (e 0))] [(4,l 0),(5,v (.int .i64 0))])
 (.blk 0 (.loop [2,3,6,7] l_qgi_0)))
 (.seq (.reg [] [(2,v (.int .i64 (-1)))])
 .ret)))
def f_qgi:AFunc:=⟨8,2,.pure,[.env 2],b_qgi⟩
def b_qgr:ACode:=
 (.seq (.reg [i (.box 4 (v (.agg [.int .i64 0,.int .i64 0,.int .u64 0,.str []])))] [(1,l 0)])
 (.seq (.reg [i (.build [.int .i64 0,.int .i64 0,.int .u64 0,.str []] [(0,1,v (.int .i64 1))]),i (.box 4 (v (.agg [.int .i64 0,.int .i64 0,.int .u64 0,.str []]))),i (.store 4 (l 1) (l 0))] [(2,l 1)])
 (.seq (.seq (.reg [] [(3,e 0)])
 (.cond (e 3) (.reg [i (.fld 1 (e 2)),i (.store 1 (l 0) (v (.int .i64 1)))] []) .skip))
 (.seq (.reg [i (.load true 4 (e 2)),i (.store 4 (e 1) (l 0))] [])
 .ret))))
def f_qgr:AFunc:=⟨4,1,.pure,[.cell true 4 1],b_qgr⟩
def b_qgf:ACode:=
 (.seq (.reg [i (.mov (v (.nil0)))] [(2,l 0)])
 (.seq (.seq (.reg [i (.bin .lss (e 1) (v (.int .i64 0)))] [(3,l 0)])
 (.cond (e 3) (.reg [i (.bad),i (.bad)] []) .skip))
 (.seq (.seq (.reg [i (.cap (e 0)),i (.len (e 0)),i (.bin .sub (l 0) (l 1)),i (.bin .sub (e 1) (l 2))] [(1,l 3)])
 (.seq (.reg [i (.bin .gtr (e 1) (v (.int .i64 0)))] [(4,l 0)])
 (.cond (e 4) (.reg [i (.cap (e 0)),i (.slice 1 (e 0) none (some (l 0))),i (.appz 1 (.int .i64 0) (l 1) (e 1)),i (.len (e 0)),i (.slice 1 (l 2) none (some (l 3)))] [(0,l 4)]) .skip)))
 (.seq (.reg [] [(2,e 0)])
 .ret))))
def f_qgf:AFunc:=⟨5,2,.keep,[.env 2],b_qgf⟩
def l_qdm_0:ACode:=
 (.seq (.reg [i (.bin .lss (e 14) (e 13))] [(15,l 0)])
 (.seq (.cond (e 15) .skip (.exit 0))
 (.seq (.blk 1 (.seq (.reg [i (.idxs 8 (e 12) (e 14)),i (.load true 8 (l 0)),i (.box 8 (v (.agg [.int .i64 0,.int .i64 0,.int .i64 0,.int .i64 0,.int .i64 0,.int .i64 0,.int .u64 0,.str []]))),i (.store 8 (l 2) (l 1))] [(9,l 2)])
 (.seq (.regd [i (.load true 8 (e 9)),i (.fld 0 (e 9)),i (.load false 1 (l 1)),i (.call 247 [l 2] false),i (.callv (e 7) [l 3]),i (.callv (e 1) [l 0,l 4]),i (.ext 0 (l 5)),i (.ext 1 (l 5))] [(10,l 6),(11,l 7)] [(0,5)])
 (.seq (.seq (.reg [i (.bin .neq (e 11) (v (.int .i64 0)))] [(16,l 0)])
 (.cond (e 16) (.seq (.reg [] [(8,e 11)])
 (.exit 0)) .skip))
 (.reg [i (.load false 1 (e 5)),i (.mkl 1 [e 10]),i (.app 1 (l 0) (l 1)),i (.store 1 (e 5) (l 2))] [])))))
 (.reg [i (.bin .add (e 14) (v (.int .i64 1)))] [(14,l 0)]))))
def b_qdm:ACode:=
 (.seq (.reg [i (.box 1 (e 0))] [(2,l 0),(3,v (.int .i64 0)),(4,v (.int .i64 0))])
 (.scope (.seq (.reg [i (.box 1 (v (.nil0)))] [(5,l 0)])
 (.seq (.reg [] [(6,v (.int .i64 0))])
 (.seq (.reg [i (.mkfn 374 [] [e 5])] [(7,l 0)])
 (.seq (.reg [] [(8,v (.int .i64 0))])
 (.seq (.seq (.lift 5 0 1 (.reg [i (.fld 0 (e 2)),i (.load false 1 (l 0)),i (.len (l 1))] [(12,l 1),(13,l 2),(14,v (.int .i64 0))]))
 (.blk 0 (.loop [9,10,11,15,16] l_qdm_0)))
 (.seq (.seq (.reg [i (.bin .neq (e 8) (v (.int .i64 0)))] [(17,l 0)])
 (.cond (e 17) (.seq (.reg [] [(3,e 6),(4,e 8)])
 .ret) .skip))
 (.seq (.reg [i (.load false 1 (e 5)),i (.idxs 1 (l 0) (v (.int .i64 0))),i (.load false 1 (l 1))] [(3,l 2),(4,v (.int .i64 0))])
 .ret)))))))))
def f_qdm:AFunc:=⟨18,2,.pure,[.env 3,.env 4],b_qdm⟩
def l_qcz_0:ACode:=
 (.seq (.reg [i (.bin .lss (e 12) (e 11))] [(13,l 0)])
 (.seq (.cond (e 13) .skip (.exit 0))
 (.seq (.blk 1 (.seq (.reg [i (.idxs 1 (e 10) (e 12)),i (.load false 1 (l 0))] [(7,l 1)])
 (.blk 2 (.seq (.reg [i (.bin .eql (e 7) (v (.int .i64 0))),g (l 0) false (.mov (e 7)),g (l 0) false (.mov (e 6)),g (l 0) false (.bin .eql (l 1) (l 2)),i (.pick (l 0) (v (.bool true)) (l 3))] [(14,l 4)])
 (.cond (e 14) .skip (.seq (.reg [i (.bin .eql (e 6) (v (.int .i64 0)))] [(15,l 0)])
 (.cond (e 15) (.reg [] [(6,e 7)]) (.reg [] [(6,v (.int .i64 (-1)))]))))))))
 (.reg [i (.bin .add (e 12) (v (.int .i64 1)))] [(12,l 0)]))))
def b_qcz:ACode:=
 (.seq (.reg [i (.box 8 (e 0))] [(3,l 0),(4,v (.int .i64 0)),(5,v (.int .i64 0))])
 (.seq (.reg [] [(6,v (.int .i64 0))])
 (.seq (.seq (.reg [i (.len (e 1))] [(10,e 1),(11,l 0),(12,v (.int .i64 0))])
 (.blk 0 (.loop [7,13,14,15] l_qcz_0)))
 (.seq (.reg [] [(8,e 6)])
 (.seq (.reg [] [(9,v (.int .i64 1))])
 (.seq (.blk 3 (.seq (.reg [i (.fld 0 (e 3)),i (.load false 1 (l 0)),i (.bin .eql (l 1) (v (.int .i64 1)))] [(16,l 2)])
 (.cond (e 16) (.seq (.reg [i (.fld 4 (e 3)),i (.fld 0 (l 0)),i (.load false 1 (l 1))] [(4,l 2),(5,v (.int .i64 0))])
 .ret) (.seq (.reg [i (.fld 0 (e 3)),i (.load false 1 (l 0)),i (.bin .eql (l 1) (v (.int .i64 2)))] [(17,l 2)])
 (.cond (e 17) (.seq (.reg [i (.load false 1 (e 2)),i (.fld 3 (e 3)),i (.load false 1 (l 1)),i (.idxs 1 (l 0) (l 2)),i (.load false 1 (l 3))] [(4,l 4),(5,v (.int .i64 0))])
 .ret) (.seq (.reg [i (.fld 0 (e 3)),i (.load false 1 (l 0)),i (.call 375 [l 1] false)] [(18,l 2)])
 (.cond (e 18) (.reg [] [(8,v (.int .i64 2)),(9,v (.int .i64 2))]) (.seq (.reg [i (.fld 0 (e 3)),i (.load false 1 (l 0)),i (.bin .eql (l 1) (v (.int .i64 5))),g (l 2) false (.fld 0 (e 3)),g (l 2) false (.load false 1 (l 3)),g (l 2) false (.bin .eql (l 4) (v (.int .i64 22))),i (.pick (l 2) (v (.bool true)) (l 5)),g (l 6) false (.fld 0 (e 3)),g (l 6) false (.load false 1 (l 7)),g (l 6) false (.bin .eql (l 8) (v (.int .i64 23))),i (.pick (l 6) (v (.bool true)) (l 9))] [(19,l 10)])
 (.cond (e 19) (.reg [] [(8,v (.int .i64 1))]) .skip)))))))))
 (.seq (.seq (.reg [i (.bin .eql (e 6) (v (.int .i64 (-1)))),g (l 0) false (.mov (e 6)),g (l 0) false (.bin .neq (l 1) (v (.int .i64 0))),g (l 0) false (.mov (l 2)),g (l 3) true (.mov (e 6)),g (l 3) true (.mov (e 8)),g (l 3) true (.bin .neq (l 4) (l 5)),g (l 0) false (.pick (l 3) (l 6) (v (.bool false))),i (.pick (l 0) (v (.bool true)) (l 7))] [(20,l 8)])
 (.cond (e 20) (.seq (.reg [] [(4,v (.int .i64 0)),(5,v (.int .i64 201))])
 .ret) .skip))
 (.seq (.reg [] [(4,e 9),(5,v (.int .i64 0))])
 .ret))))))))
def f_qcz:AFunc:=⟨21,3,.pure,[.env 4,.env 5],b_qcz⟩
def b_qda:ACode:=
 (.seq (.reg [] [(1,v (.bool false))])
 (.seq (.reg [i (.bin .eql (e 0) (v (.int .i64 4))),g (l 0) false (.mov (e 0)),g (l 0) false (.bin .geq (l 1) (v (.int .i64 12))),g (l 0) false (.mov (l 2)),g (l 3) true (.mov (e 0)),g (l 3) true (.bin .leq (l 4) (v (.int .i64 15))),g (l 0) false (.pick (l 3) (l 5) (v (.bool false))),i (.pick (l 0) (v (.bool true)) (l 6))] [(1,l 7)])
 .ret))
def f_qda:AFunc:=⟨2,1,.pure,[.env 1],b_qda⟩
def b_qdq:ACode:=
 (.seq (.reg [i (.box 4 (e 0)),i (.box 4 (e 1)),i (.box 4 (v (.agg [.int .i64 0,.int .i64 0,.int .u64 0,.str []])))] [(3,l 0),(4,l 1),(5,l 2),(6,v (.int .i64 0))])
 (.seq (.reg [i (.load false 1 (e 2)),i (.load true 4 (e 4)),i (.load true 4 (e 3)),i (.callv (l 0) [l 1,l 2]),i (.ext 0 (l 3)),i (.ext 1 (l 3)),i (.store 4 (e 5) (l 4))] [(6,l 5)])
 .ret))
def f_qdq:AFunc:=⟨7,3,.pure,[.cell true 4 5,.env 6],b_qdq⟩
def b_qhh:ACode:=
 (.seq (.reg [i (.box 4 (e 0)),i (.box 4 (e 1)),i (.box 4 (v (.agg [.int .i64 0,.int .i64 0,.int .u64 0,.str []])))] [(3,l 0),(4,l 1),(5,l 2),(6,v (.int .i64 0))])
 (.seq (.seq (.reg [i (.load true 4 (e 3)),i (.load true 4 (e 4)),i (.mkl 4 [l 0,l 1]),i (.call 387 [l 2] false)] [(7,l 3)])
 (.seq (.reg [i (.bin .neq (e 7) (v (.int .i64 0)))] [(9,l 0)])
 (.cond (e 9) (.seq (.reg [i (.build [.int .i64 0,.int .i64 0,.int .u64 0,.str []] []),i (.store 4 (e 5) (l 0))] [(6,e 7)])
 .ret) .skip)))
 (.seq (.reg [i (.fld 0 (e 3)),i (.load false 1 (l 0)),i (.bin .eql (l 1) (v (.int .i64 0))),g (l 2) false (.fld 0 (e 4)),g (l 2) false (.load false 1 (l 3)),g (l 2) false (.bin .eql (l 4) (v (.int .i64 0))),i (.pick (l 2) (v (.bool true)) (l 5))] [(8,l 6)])
 (.seq (.blk 0 (.seq (.reg [i (.fld 0 (e 3)),i (.load false 1 (l 0)),i (.bin .eql (l 1) (v (.int .i64 4))),g (l 2) false (.fld 0 (e 4)),g (l 2) false (.load false 1 (l 3)),g (l 2) false (.bin .eql (l 4) (v (.int .i64 4))),i (.pick (l 2) (v (.bool true)) (l 5)),g (l 6) false (.mov (e 8)),g (l 6) false (.una .not (l 7)),g (l 6) false (.mov (l 8)),g (l 9) true (.fld 0 (e 3)),g (l 9) true (.load false 1 (l 10)),g (l 9) true (.fld 0 (e 4)),g (l 9) true (.load false 1 (l 12)),g (l 9) true (.bin .neq (l 11) (l 13)),g (l 6) false (.pick (l 9) (l 14) (v (.bool false))),i (.pick (l 6) (v (.bool true)) (l 15))] [(10,l 16)])
 (.cond (e 10) (.seq (.reg [i (.build [.int .i64 0,.int .i64 0,.int .u64 0,.str []] []),i (.store 4 (e 5) (l 0))] [(6,v (.int .i64 2))])
 .ret) (.seq (.reg [] [(11,e 8)])
 (.cond (e 11) (.seq (.reg [i (.call 202 [] false),i (.store 4 (e 5) (l 0))] [(6,v (.int .i64 0))])
 .ret) .skip)))))
 (.seq (.reg [i (.load true 4 (e 3)),i (.load true 4 (e 4)),i (.call 386 [l 0,l 1] false),i (.callv (e 2) [l 2]),i (.call 321 [l 3] false),i (.store 4 (e 5) (l 4))] [(6,v (.int .i64 0))])
 .ret)))))
def f_qhh:AFunc:=⟨12,3,.pure,[.cell true 4 5,.env 6],b_qhh⟩
def b_qgy:ACode:=
 (.seq (.reg [] [(1,v (.bool false))])
 (.seq (.reg [i (.bin .lss (e 0) (v (.int .i64 0)))] [(1,l 0)])
 .ret))
def f_qgy:AFunc:=⟨2,1,.pure,[.env 1],b_qgy⟩
def b_qde:ACode:=
 (.seq (.reg [i (.box 4 (e 0)),i (.box 4 (e 1)),i (.box 4 (v (.agg [.int .i64 0,.int .i64 0,.int .u64 0,.str []])))] [(3,l 0),(4,l 2),(5,v (.int .i64 0))])
 (.seq (.reg [i (.load false 1 (e 2)),i (.load true 4 (e 3)),i (.callv (l 0) [l 1]),i (.ext 0 (l 2)),i (.ext 1 (l 2)),i (.store 4 (e 4) (l 3))] [(5,l 4)])
 .ret))
def f_qde:AFunc:=⟨6,3,.pure,[.cell true 4 4,.env 5],b_qde⟩
def l_qhi_0:ACode:=
 (.seq (.reg [i (.bin .lss (e 10) (e 9))] [(11,l 0)])
 (.seq (.cond (e 11) .skip (.exit 0))
 (.seq (.blk 1 (.seq (.reg [i (.idxs 4 (e 8) (e 10)),i (.load true 4 (l 0)),i (.box 4 (v (.agg [.int .i64 0,.int .i64 0,.int .u64 0,.str []]))),i (.store 4 (l 2) (l 1))] [(6,l 2)])
 (.seq (.seq (.reg [i (.fld 0 (e 6)),i (.load false 1 (l 0)),i (.bin .gtr (l 1) (v (.int .i64 1)))] [(12,l 2)])
 (.cond (e 12) (.seq (.reg [i (.build [.int .i64 0,.int .i64 0,.int .u64 0,.str []] []),i (.store 4 (e 2) (l 0))] [(3,v (.int .i64 2))])
 .ret) .skip))
 (.reg [i (.load true 4 (e 6)),i (.call 388 [l 0] false),i (.mkl 1 [l 1]),i (.app 1 (e 5) (l 2))] [(5,l 3)]))))
 (.reg [i (.bin .add (e 10) (v (.int .i64 1)))] [(10,l 0)]))))
def b_qhi:ACode:=
 (.seq (.reg [i (.box 4 (v (.agg [.int .i64 0,.int .i64 0,.int .u64 0,.str []])))] [(2,l 0),(3,v (.int .i64 0))])
 (.seq (.seq (.reg [i (.call 387 [e 1] false)] [(4,l 0)])
 (.seq (.reg [i (.bin .neq (e 4) (v (.int .i64 0)))] [(7,l 0)])
 (.cond (e 7) (.seq (.reg [i (.build [.int .i64 0,.int .i64 0,.int .u64 0,.str []] []),i (.store 4 (e 2) (l 0))] [(3,e 4)])
 .ret) .skip)))
 (.seq (.reg [i (.mknil 1)] [(5,l 0)])
 (.seq (.seq (.reg [i (.len (e 1))] [(8,e 1),(9,l 0),(10,v (.int .i64 0))])
 (.blk 0 (.loop [3,6,11,12] l_qhi_0)))
 (.seq (.reg [i (.callv (e 0) [e 5]),i (.idxa 3 4 (v (.cptr false (.agg [.int .i64 1,.int .i64 0,.int .u64 0,.str [],.int .i64 0,.int .i64 0,.int .u64 0,.str [],.int .i64 1,.int .i64 1,.int .u64 0,.str []]) 0)) (l 0)),i (.load true 4 (l 1)),i (.store 4 (e 2) (l 2))] [(3,v (.int .i64 0))])
 .ret)))))
def f_qhi:AFunc:=⟨13,2,.pure,[.cell true 4 2,.env 3],b_qhi⟩
def b_qha:ACode:=
 (.seq (.reg [] [(1,v (.int .i64 0))])
 (.seq (.reg [i (.idxs 1 (e 0) (v (.int .i64 0))),i (.load false 1 (l 0)),i (.bin .sub (v (.int .i64 2)) (l 1))] [(1,l 2)])
 .ret))
def f_qha:AFunc:=⟨2,1,.pure,[.env 1],b_qha⟩
def b_qdj:ACode:=
 (.seq (.reg [i (.box 4 (e 0)),i (.box 4 (e 1)),i (.box 4 (v (.agg [.int .i64 0,.int .i64 0,.int .u64 0,.str []])))] [(3,l 0),(4,l 2),(5,v (.int .i64 0))])
 (.seq (.reg [i (.fld 0 (e 3)),i (.load false 1 (l 0)),i (.bin .eql (l 1) (v (.int .i64 0))),i (.load false 1 (e 2)),i (.eqb false (l 2) (l 3)),i (.call 321 [l 4] false),i (.store 4 (e 4) (l 5))] [(5,v (.int .i64 0))])
 .ret))
def f_qdj:AFunc:=⟨6,3,.pure,[.cell true 4 4,.env 5],b_qdj⟩
def b_qo:ACode:=
 (.seq (.reg [i (.box 4 (e 0)),i (.box 4 (e 1)),i (.box 4 (v (.agg [.int .i64 0,.int .i64 0,.int .u64 0,.str []])))] [(3,l 0),(4,l 1),(5,l 2),(6,v (.int .i64 0))])
 (.seq (.seq (.reg [i (.load true 4 (e 3)),i (.load true 4 (e 4)),i (.mkl 4 [l 0,l 1]),i (.call 210 [(v (.int .i64 2)),l 2] false)] [(7,l 3)])
 (.seq (.reg [i (.bin .neq (e 7) (v (.int .i64 0)))] [(10,l 0)])
 (.cond (e 10) (.seq (.reg [i (.build [.int .i64 0,.int .i64 0,.int .u64 0,.str []] []),i (.store 4 (e 5) (l 0))] [(6,e 7)])
 .ret) .skip)))
 (.seq (.seq (.reg [i (.fld 0 (e 3)),i (.load false 1 (l 0)),i (.bin .eql (l 1) (v (.int .i64 0))),g (l 2) false (.fld 0 (e 4)),g (l 2) false (.load false 1 (l 3)),g (l 2) false (.bin .eql (l 4) (v (.int .i64 0))),i (.pick (l 2) (v (.bool true)) (l 5))] [(11,l 6)])
 (.cond (e 11) (.seq (.reg [i (.call 202 [] false),i (.store 4 (e 5) (l 0))] [(6,v (.int .i64 0))])
 .ret) .skip))
 (.seq (.reg [i (.fld 1 (e 3)),i (.load false 1 (l 0)),i (.fld 1 (e 4)),i (.load false 1 (l 2)),i (.callv (e 2) [l 1,l 3]),i (.ext 0 (l 4)),i (.ext 1 (l 4))] [(8,l 5),(9,l 6)])
 (.seq (.seq (.reg [i (.una .not (e 9))] [(12,l 0)])
 (.cond (e 12) (.seq (.reg [i (.build [.int .i64 0,.int .i64 0,.int .u64 0,.str []] []),i (.store 4 (e 5) (l 0))] [(6,v (.int .i64 140))])
 .ret) .skip))
 (.seq (.reg [i (.call 149 [e 8] false),i (.store 4 (e 5) (l 0))] [(6,v (.int .i64 0))])
 .ret))))))
def f_qo:AFunc:=⟨13,3,.pure,[.cell true 4 5,.env 6],b_qo⟩
def b_qb:ACode:=
 (.seq (.reg [] [(2,v (.int .i64 0)),(3,v (.bool false))])
 (.seq (.reg [i (.bin .add (e 0) (e 1))] [(4,l 0)])
 (.seq (.reg [i (.bin .xor (e 0) (e 4)),i (.bin .xor (e 1) (e 4)),i (.bin .and (l 0) (l 1)),i (.bin .geq (l 2) (v (.int .i64 0)))] [(2,e 4),(3,l 3)])
 .ret)))
def f_qb:AFunc:=⟨5,2,.pure,[.env 2,.env 3],b_qb⟩
def b_ql:ACode:=
 (.seq (.reg [] [(2,v (.int .i64 0)),(3,v (.bool false))])
 (.seq (.reg [i (.bin .sub (e 0) (e 1))] [(4,l 0)])
 (.seq (.reg [i (.bin .xor (e 0) (e 1)),i (.bin .xor (e 0) (e 4)),i (.bin .and (l 0) (l 1)),i (.bin .geq (l 2) (v (.int .i64 0)))] [(2,e 4),(3,l 3)])
 .ret)))
def f_ql:AFunc:=⟨5,2,.pure,[.env 2,.env 3],b_ql⟩
def b_qi:ACode:=
 (.seq (.reg [] [(2,v (.int .i64 0)),(3,v (.bool false))])
 (.seq (.reg [i (.call 390 [e 0] false),i (.call 390 [e 1] false),i (.call 257 [l 0,l 1] false),i (.ext 0 (l 2)),i (.ext 1 (l 2))] [(4,l 3),(5,l 4)])
 (.seq (.reg [i (.bin .lss (e 0) (v (.int .i64 0))),i (.bin .lss (e 1) (v (.int .i64 0))),i (.eqb true (l 0) (l 1)),i (.call 389 [e 5,l 2] false),i (.ext 0 (l 3)),i (.ext 1 (l 3))] [(6,l 4),(7,l 5)])
 (.seq (.reg [g (e 7) true (.mov (e 4)),g (e 7) true (.bin .eql (l 0) (v (.int .u64 0))),i (.pick (e 7) (l 1) (v (.bool false)))] [(2,e 6),(3,l 2)])
 .ret))))
def f_qi:AFunc:=⟨8,2,.pure,[.env 2,.env 3],b_qi⟩
def b_qr:ACode:=
 (.seq (.reg [] [(1,v (.int .u64 0))])
 (.seq (.seq (.reg [i (.bin .lss (e 0) (v (.int .i64 0)))] [(2,l 0)])
 (.cond (e 2) (.seq (.reg [i (.conv .u64 (e 0)),i (.una .neg (l 0))] [(1,l 1)])
 .ret) .skip))
 (.seq (.reg [i (.conv .u64 (e 0))] [(1,l 0)])
 .ret)))
def f_qr:AFunc:=⟨3,1,.pure,[.env 1],b_qr⟩
def b_qq:ACode:=
 (.seq (.reg [] [(2,v (.int .i64 0)),(3,v (.bool false))])
 (.seq (.seq (.reg [] [(4,e 1)])
 (.cond (e 4) (.seq (.reg [i (.una .neg (e 0)),i (.conv .i64 (l 0)),i (.bin .leq (e 0) (v (.int .u64 9223372036854775808)))] [(2,l 1),(3,l 2)])
 .ret) .skip))
 (.seq (.reg [i (.conv .i64 (e 0)),i (.bin .leq (e 0) (v (.int .u64 9223372036854775807)))] [(2,l 0),(3,l 1)])
 .ret)))
def f_qq:AFunc:=⟨5,2,.pure,[.env 2,.env 3],b_qq⟩
def b_qe:ACode:=
 (.seq (.reg [] [(2,v (.int .i64 0)),(3,v (.bool false))])
 (.seq (.seq (.reg [i (.bin .eql (e 1) (v (.int .i64 0)))] [(4,l 0)])
 (.cond (e 4) (.seq (.reg [] [(2,v (.int .i64 0)),(3,v (.bool false))])
 .ret) .skip))
 (.seq (.reg [i (.call 390 [e 0] false),i (.call 390 [e 1] false),i (.bin .quo (l 0) (l 1)),i (.bin .lss (e 0) (v (.int .i64 0))),i (.bin .lss (e 1) (v (.int .i64 0))),i (.eqb true (l 3) (l 4)),i (.call 389 [l 2,l 5] false),i (.ext 0 (l 6)),i (.ext 1 (l 6))] [(2,l 7),(3,l 8)])
 .ret)))
def f_qe:AFunc:=⟨5,2,.pure,[.env 2,.env 3],b_qe⟩
def b_qgv:ACode:=
 (.seq (.reg [] [(1,v (.bool false))])
 (.seq (.reg [i (.bin .eql (e 0) (v (.int .i64 0)))] [(1,l 0)])
 .ret))
def f_qgv:AFunc:=⟨2,1,.pure,[.env 1],b_qgv⟩
def b_qdh:ACode:=
 (.seq (.reg [i (.box 4 (e 0)),i (.box 4 (e 1)),i (.box 4 (v (.agg [.int .i64 0,.int .i64 0,.int .u64 0,.str []])))] [(3,l 0),(4,l 1),(5,l 2),(6,v (.int .i64 0))])
 (.seq (.reg [i (.load false 1 (e 2)),i (.load true 4 (e 3)),i (.load true 4 (e 4)),i (.callv (l 0) [l 1,l 2]),i (.ext 0 (l 3)),i (.ext 1 (l 3)),i (.box 4 (v (.agg [.int .i64 0,.int .i64 0,.int .u64 0,.str []]))),i (.store 4 (l 6) (l 4))] [(7,l 6),(8,l 5)])
 (.seq (.seq (.reg [i (.bin .neq (e 8) (v (.int .i64 0)))] [(9,l 0)])
 (.cond (e 9) (.seq (.reg [i (.load true 4 (e 7)),i (.store 4 (e 5) (l 0))] [(6,e 8)])
 .ret) .skip))
 (.seq (.reg [i (.load true 4 (e 7)),i (.call 285 [l 0] false),i (.ext 0 (l 1)),i (.ext 1 (l 1)),i (.store 4 (e 5) (l 2))] [(6,l 3)])
 .ret))))
def f_qdh:AFunc:=⟨10,3,.pure,[.cell true 4 5,.env 6],b_qdh⟩
def b_qgq:ACode:=
 (.seq (.reg [] [(1,v (.int .i64 0))])
 (.seq (.reg [i (.idxs 1 (e 0) (v (.int .i64 0))),i (.load false 1 (l 0)),i (.idxs 1 (e 0) (v (.int .i64 1))),i (.load false 1 (l 2)),i (.mins (l 1) [l 3])] [(1,l 4)])
 .ret))
def f_qgq:AFunc:=⟨2,1,.pure,[.env 1],b_qgq⟩
def b_qhd:ACode:=
 (.seq (.reg [] [(1,v (.int .i64 0))])
 (.seq (.reg [i (.idxs 1 (e 0) (v (.int .i64 0))),i (.load false 1 (l 0)),i (.idxs 1 (e 0) (v (.int .i64 1))),i (.load false 1 (l 2)),i (.maxs (l 1) [l 3])] [(1,l 4)])
 .ret))
def f_qhd:AFunc:=⟨2,1,.pure,[.env 1],b_qhd⟩
def b_qdn:ACode:=
 (.seq (.reg [i (.mov (v (.nil0)))] [(2,l 0)])
 (.seq (.reg [i (.load false 1 (e 1)),i (.load false 1 (e 1)),i (.len (l 1)),i (.bin .sub (l 2) (e 0)),i (.slice 1 (l 0) (some (l 3)) none),i (.call 95 [l 4] true)] [(3,l 5)])
 (.seq (.reg [i (.load false 1 (e 1)),i (.load false 1 (e 1)),i (.len (l 1)),i (.bin .sub (l 2) (e 0)),i (.slice 1 (l 0) none (some (l 3))),i (.store 1 (e 1) (l 4))] [])
 (.seq (.reg [] [(2,e 3)])
 .ret))))
def f_qdn:AFunc:=⟨4,2,.keep,[.env 2],b_qdn⟩
def l_qhj_0:ACode:=
 (.seq (.reg [i (.bin .lss (e 6) (e 5))] [(7,l 0)])
 (.seq (.cond (e 7) .skip (.exit 0))
 (.seq (.blk 1 (.seq (.reg [i (.idxs 4 (e 4) (e 6)),i (.load true 4 (l 0)),i (.box 4 (v (.agg [.int .i64 0,.int .i64 0,.int .u64 0,.str []]))),i (.store 4 (l 2) (l 1))] [(2,l 2)])
 (.seq (.reg [i (.load true 4 (e 2)),i (.call 255 [l 0] false)] [(3,l 1)])
 (.seq (.reg [i (.bin .neq (e 3) (v (.int .i64 0)))] [(8,l 0)])
 (.cond (e 8) (.seq (.reg [] [(1,e 3)])
 .ret) .skip)))))
 (.reg [i (.bin .add (e 6) (v (.int .i64 1)))] [(6,l 0)]))))
def b_qhj:ACode:=
 (.seq (.reg [] [(1,v (.int .i64 0))])
 (.seq (.seq (.reg [i (.len (e 0))] [(4,e 0),(5,l 0),(6,v (.int .i64 0))])
 (.blk 0 (.loop [1,2,3,7,8] l_qhj_0)))
 (.seq (.reg [] [(1,v (.int .i64 0))])
 .ret)))
def f_qhj:AFunc:=⟨9,1,.pure,[.env 1],b_qhj⟩
def b_qgt:ACode:=
 (.seq (.reg [i (.box 4 (e 0)),i (.box 4 (e 1))] [(2,l 0),(3,l 1),(4,v (.int .i64 0))])
 (.seq (.seq (.reg [i (.load true 4 (e 2)),i (.call 206 [l 0] false),i (.una .not (l 1)),g (l 2) false (.load true 4 (e 3)),g (l 2) false (.call 206 [l 3] false),g (l 2) false (.una .not (l 4)),i (.pick (l 2) (v (.bool true)) (l 5))] [(5,l 6)])
 (.cond (e 5) (.seq (.reg [] [(4,v (.int .i64 0))])
 .ret) .skip))
 (.seq (.reg [i (.fld 0 (e 2)),i (.load false 1 (l 0)),i (.fld 0 (e 3)),i (.load false 1 (l 2)),i (.call 242 [l 1,l 3] false),i (.fld 1 (e 2)),i (.load false 1 (l 5)),i (.fld 1 (e 3)),i (.load false 1 (l 7)),i (.call 243 [l 6,l 8] false),i (.fld 3 (e 2)),i (.load false 1 (l 10)),i (.fld 3 (e 3)),i (.load false 1 (l 12)),i (.call 398 [l 11,l 13] false),i (.mkl 1 [l 4,l 9,l 14]),i (.call 141 [l 15] false)] [(4,l 16)])
 .ret)))
def f_qgt:AFunc:=⟨6,2,.pure,[.env 4],b_qgt⟩
def b_qhk:ACode:=
 (.seq (.reg [i (.box 4 (e 0))] [(1,l 0),(2,v (.int .i64 0))])
 (.seq (.seq (.reg [i (.fld 0 (e 1)),i (.load false 1 (l 0)),i (.bin .eql (l 1) (v (.int .i64 0)))] [(3,l 2)])
 (.cond (e 3) (.seq (.reg [] [(2,v (.int .i64 1))])
 .ret) .skip))
 (.seq (.reg [i (.fld 1 (e 1)),i (.load false 1 (l 0)),i (.bin .mul (v (.int .i64 2)) (l 1))] [(2,l 2)])
 .ret)))
def f_qhk:AFunc:=⟨4,1,.pure,[.env 2],b_qhk⟩
def b_qgo:ACode:=
 (.seq (.reg [] [(2,v (.int .i64 0))])
 (.seq (.reg [i (.call 401 [e 0,e 1] false)] [(2,l 0)])
 .ret))
def f_qgo:AFunc:=⟨3,2,.pure,[.env 2],b_qgo⟩
def b_qdr:ACode:=
 (.seq (.reg [] [(2,v (.int .i64 0))])
 (.seq (.reg [i (.call 402 [e 0,e 1] false)] [(2,l 0)])
 .ret))
def f_qdr:AFunc:=⟨3,2,.pure,[.env 2],b_qdr⟩
def tbl:List AEntry:=[
.none,
.none,
.fn f_qbo,
.fn f_qae,
.none,
.fn f_qao,
.fn f_qai,
.fn f_qu,
.fn f_qaz,
.fn f_qah,
.fn f_qz,
.fn f_qaf,
.fn f_qal,
.none,
.none,
.none,
.fn f_qbm,
.fn f_qbn,
.fn f_qad,
.fn f_qay,
.fn f_qeq,
.none,
.none,
.none,
.none,
.none,
.none,
.none,
.none,
.fn f_qeu,
.none,
.none,
.none,
.none,
.fn f_qaj,
.fn f_qbr,
.fn f_qcm,
.fn f_qdt,
.fn f_qab,
.fn f_qaa,
.fn f_qbk,
.fn f_qbi,
.fn f_qfv,
.fn f_qba,
.fn f_qet,
.fn f_qag,
.fn f_qac,
.fn f_qv,
.fn f_qx,
.fn f_qy,
.fn f_qce,
.fn f_qbp,
.fn f_qbs,
.none,
.none,
.none,
.none,
.none,
.none,
.none,
.fn f_qak,
.fn f_qfi,
.nilfn f_qfk,
.round r_row_Groups_0,
.fn f_qff,
.fn f_qes,
.fn f_qer,
.prim 1,
.fn f_qex,
.fn f_qev,
.fn f_qbb,
.fn f_qcu,
.none,
.none,
.none,
.fn f_qbv,
.none,
.fn f_qfy,
.fn f_qfr,
.fn f_qfb,
.fn f_qfh,
.none,
.none,
.none,
.none,
.none,
.none,
.none,
.none,
.none,
.none,
.none,
.none,
.none,
.none,
.nilfn f_qfn,
.fn f_qej,
.fn f_qdu,
.fn f_qcj,
.fn f_qcn,
.fn f_qch,
.fn f_qcp,
.fn f_qck,
.fn f_qco,
.fn f_qci,
.fn f_qcg,
.fn f_qcr,
.fn f_qcq,
.fn f_qbg,
.fn f_qbh,
.fn f_qfu,
.fn f_qbj,
.fn f_qgh,
.fn f_qbe,
.nilfn f_qfl,
.fn f_qga,
.fn f_qey,
.fn f_qw,
.fn f_qbq,
.fn f_qby,
.fn f_qcf,
.fn f_qbt,
.none,
.none,
.none,
.none,
.none,
.none,
.none,
.none,
.none,
.none,
.none,
.none,
.none,
.none,
.fn f_qam,
.fn f_qan,
.fn f_qez,
.fn f_qew,
.fn f_qfc,
.fn f_qat,
.fn f_qfq,
.fn f_qfj,
.fn f_qgc,
.fn f_qfg,
.fn f_qdf,
.fn f_qgm,
.fn f_qbl,
.fn f_qgw,
.fn f_qc,
.fn f_qgn,
.fn f_qfx,
.fn f_qbc,
.fn f_qbd,
.none,
.none,
.none,
.none,
.none,
.fn f_qgk,
.fn f_qbw,
.none,
.fn f_qfd,
.fn f_qgd,
.none,
.none,
.none,
.fn f_qfs,
.none,
.none,
.none,
.fn f_qcw,
.fn f_qep,
.none,
.none,
.none,
.fn f_qef,
.fn f_qdz,
.fn f_qeb,
.fn f_qdw,
.fn f_qdy,
.fn f_qed,
.fn f_qdx,
.fn f_qee,
.fn f_qec,
.fn f_qek,
.fn f_qeh,
.fn f_qfz,
.fn f_qdv,
.fn f_qel,
.fn f_qcs,
.fn f_qcb,
.round r_exec_run_join_0,
.fn f_qcc,
.fn f_qcl,
.fn f_qgg,
.fn f_qen,
.fn f_qbf,
.round r_exec_grouped_0,
.fn f_qbz,
.fn f_qm,
.fn f_qhb,
.fn f_qcx,
.fn f_qdk,
.fn f_qdc,
.fn f_qhe,
.fn f_qcv,
.fn f_qs,
.fn f_qp,
.fn f_qn,
.fn f_qct,
.fn f_qg,
.fn f_qbu,
.fn f_qeo,
.fn f_qf,
.none,
.none,
.none,
.none,
.none,
.none,
.none,
.none,
.none,
.none,
.none,
.none,
.none,
.none,
.fn f_qfa,
.none,
.none,
.none,
.none,
.none,
.none,
.none,
.none,
.none,
.none,
.none,
.fn f_qap,
.fn f_qaq,
.fn f_qas,
.fn f_qar,
.fn f_qdb,
.fn f_qdo,
.fn f_qgj,
.none,
.none,
.none,
.none,
.fn f_qgb,
.fn f_qbx,
.fn f_qgs,
.fn f_qhg,
.fn f_qds,
.none,
.fn f_qfw,
.fn f_qfe,
.none,
.none,
.none,
.fn f_qhf,
.fn f_qge,
.fn f_qfo,
.none,
.none,
.none,
.none,
.none,
.fn f_qeg,
.fn f_qea,
.fn f_qem,
.fn f_qft,
.fn f_qcy,
.fn f_qei,
.fn f_qgl,
.fn f_qcd,
.fn f_qca,
.fn f_qfp,
.prim 2,
.fn f_qdd,
.fn f_qj,
.fn f_qgz,
.fn f_qdi,
.fn f_qa,
.fn f_qk,
.fn f_qh,
.fn f_qd,
.fn f_qgu,
.fn f_qdg,
.fn f_qgx,
.fn f_qgp,
.fn f_qhc,
.fn f_qdp,
.fn f_qdl,
.prim 0,
.none,
.none,
.none,
.none,
.none,
.none,
.none,
.none,
.none,
.none,
.none,
.none,
.none,
.none,
.none,
.none,
.none,
.fn f_qau,
.fn f_qav,
.fn f_qax,
.fn f_qaw,
.fn f_qgi,
.fn f_qgr,
.none,
.none,
.none,
.none,
.none,
.none,
.none,
.none,
.none,
.none,
.none,
.none,
.none,
.none,
.none,
.none,
.none,
.fn f_qgf,
.fn f_qcz,
.fn f_qdm,
.fn f_qdq,
.fn f_qhh,
.fn f_qgy,
.fn f_qde,
.fn f_qhi,
.fn f_qha,
.fn f_qdj,
.fn f_qo,
.fn f_qb,
.fn f_ql,
.fn f_qi,
.fn f_qe,
.fn f_qgv,
.fn f_qdh,
.fn f_qgq,
.fn f_qhd,
.nilfn f_qfm,
.none,
.none,
.none,
.none,
.none,
.none,
.none,
.none,
.none,
.none,
.none,
.none,
.none,
.none,
.none,
.fn f_qdn,
.fn f_qda,
.none,
.none,
.none,
.none,
.none,
.none,
.none,
.none,
.none,
.none,
.fn f_qgt,
.fn f_qhj,
.fn f_qhk,
.fn f_qq,
.fn f_qr,
.none,
.none,
.none,
.none,
.none,
.none,
.none,
.fn f_qgo,
.none,
.none,
.fn f_qdr,
.prim 3,
.none,
.none,
.none,
.fn f_qt,
.none,
.none,
.none,
.none,
.none,
.none,
.none,
.none,
.none,
.none,
.none,
.none,
.none,
.none,
.none,
.none,
.none,
.none,
.none,
.none,
.none,
.none,
.none,
.none,
.none,
.none,
.none,
.none,
.none,
.none,
.none,
.none,
.none,
.none,
.none,
.none,
.none,
.none,
.none,
.none,
.none,
.none,
.none,
.none,
.none,
.none,
.none,
.none,
.none,
.none,
.none,
.none,
.none,
.none,
.none,
.none,
.none,
.none,
.none,
.none,
.none,
.none,
.none,
.none,
.none,
.none,
.none,
.none,
.none,
.none,
.none,
.none,
.none,
.none,
.none,
.none,
.none,
.none,
.none,
.none,
.none,
.none,
.none,
.none,
.none,
.none,
.none,
.none,
.none,
.none,
.none,
.none,
.none,
.none,
.none,
.none,
.none,
.none,
.none,
.none,
.none,
.none,
.none,
.none,
.none,
.none,
.none,
.none,
.none,
.none,
.none,
.none,
.none,
.none,
.none,
.none,
.none,
.none,
.none,
.none,
.none,
.none,
.none,
.none,
.none,
.none,
.none,
.none]
end Go.AM.P
namespace Go.AM
def code:Code:=⟨fun n=>P.tbl.getD n .none,prims⟩
end Go.AM
namespace Go.AM.I
abbrev qai:Nat:=6
abbrev qu:Nat:=7
abbrev qah:Nat:=9
abbrev qz:Nat:=10
abbrev qaf:Nat:=11
abbrev qbm:Nat:=16
abbrev qbn:Nat:=17
abbrev qad:Nat:=18
abbrev qay:Nat:=19
abbrev qeq:Nat:=20
abbrev qeu:Nat:=29
abbrev qdt:Nat:=37
abbrev qab:Nat:=38
abbrev qaa:Nat:=39
abbrev qbi:Nat:=41
abbrev qfv:Nat:=42
abbrev qet:Nat:=44
abbrev qag:Nat:=45
abbrev qac:Nat:=46
abbrev qv:Nat:=47
abbrev qx:Nat:=48
abbrev qy:Nat:=49
abbrev qce:Nat:=50
abbrev qbp:Nat:=51
abbrev qbs:Nat:=52
abbrev qfi:Nat:=61
abbrev qfk:Nat:=62
abbrev qff:Nat:=64
abbrev qes:Nat:=65
abbrev qer:Nat:=66
abbrev qex:Nat:=68
abbrev qev:Nat:=69
abbrev qbb:Nat:=70
abbrev qcu:Nat:=71
abbrev qbv:Nat:=75
abbrev qfy:Nat:=77
abbrev qfb:Nat:=79
abbrev qfh:Nat:=80
abbrev qfn:Nat:=95
abbrev qej:Nat:=96
abbrev qdu:Nat:=97
abbrev qfu:Nat:=110
abbrev qbj:Nat:=111
abbrev qgh:Nat:=112
abbrev qfl:Nat:=114
abbrev qga:Nat:=115
abbrev qey:Nat:=116
abbrev qw:Nat:=117
abbrev qbq:Nat:=118
abbrev qby:Nat:=119
abbrev qcf:Nat:=120
abbrev qbt:Nat:=121
abbrev qez:Nat:=138
abbrev qew:Nat:=139
abbrev qfc:Nat:=140
abbrev qat:Nat:=141
abbrev qfq:Nat:=142
abbrev qfj:Nat:=143
abbrev qgc:Nat:=144
abbrev qdf:Nat:=146
abbrev qgm:Nat:=147
abbrev qbl:Nat:=148
abbrev qgw:Nat:=149
abbrev qc:Nat:=150
abbrev qgn:Nat:=151
abbrev qfx:Nat:=152
abbrev qbc:Nat:=153
abbrev qbd:Nat:=154
abbrev qgk:Nat:=160
abbrev qbw:Nat:=161
abbrev qfd:Nat:=163
abbrev qcw:Nat:=172
abbrev qef:Nat:=177
abbrev qdz:Nat:=178
abbrev qeb:Nat:=179
abbrev qdw:Nat:=180
abbrev qdy:Nat:=181
abbrev qed:Nat:=182
abbrev qdx:Nat:=183
abbrev qee:Nat:=184
abbrev qec:Nat:=185
abbrev qek:Nat:=186
abbrev qeh:Nat:=187
abbrev qfz:Nat:=188
abbrev qdv:Nat:=189
abbrev qel:Nat:=190
abbrev qcs:Nat:=191
abbrev qgg:Nat:=196
abbrev qen:Nat:=197
abbrev qbz:Nat:=200
abbrev qm:Nat:=201
abbrev qhb:Nat:=202
abbrev qcx:Nat:=203
abbrev qdk:Nat:=204
abbrev qdc:Nat:=205
abbrev qhe:Nat:=206
abbrev qcv:Nat:=207
abbrev qs:Nat:=208
abbrev qp:Nat:=209
abbrev qn:Nat:=210
abbrev qct:Nat:=211
abbrev qg:Nat:=212
abbrev qbu:Nat:=213
abbrev qeo:Nat:=214
abbrev qf:Nat:=215
abbrev qfa:Nat:=230
abbrev qap:Nat:=242
abbrev qaq:Nat:=243
abbrev qas:Nat:=244
abbrev qar:Nat:=245
abbrev qdb:Nat:=246
abbrev qdo:Nat:=247
abbrev qgj:Nat:=248
abbrev qgb:Nat:=253
abbrev qbx:Nat:=254
abbrev qgs:Nat:=255
abbrev qhg:Nat:=256
abbrev qds:Nat:=257
abbrev qfw:Nat:=259
abbrev qfe:Nat:=260
abbrev qeg:Nat:=272
abbrev qea:Nat:=273
abbrev qem:Nat:=274
abbrev qft:Nat:=275
abbrev qcy:Nat:=276
abbrev qei:Nat:=277
abbrev qgl:Nat:=278
abbrev qfp:Nat:=281
abbrev slices_Sort_int_int:Nat:=282
abbrev qj:Nat:=284
abbrev qgz:Nat:=285
abbrev qa:Nat:=287
abbrev qk:Nat:=288
abbrev qh:Nat:=289
abbrev qd:Nat:=290
abbrev qgu:Nat:=291
abbrev qgx:Nat:=293
abbrev qgp:Nat:=294
abbrev qhc:Nat:=295
abbrev qdl:Nat:=297
abbrev math_bits_Add64:Nat:=298
abbrev qau:Nat:=316
abbrev qav:Nat:=317
abbrev qax:Nat:=318
abbrev qaw:Nat:=319
abbrev qgi:Nat:=320
abbrev qgr:Nat:=321
abbrev qgf:Nat:=339
abbrev qcz:Nat:=340
abbrev qdm:Nat:=341
abbrev qdq:Nat:=342
abbrev qhh:Nat:=343
abbrev qgy:Nat:=344
abbrev qde:Nat:=345
abbrev qhi:Nat:=346
abbrev qha:Nat:=347
abbrev qdj:Nat:=348
abbrev qo:Nat:=349
abbrev qb:Nat:=350
abbrev ql:Nat:=351
abbrev qi:Nat:=352
abbrev qe:Nat:=353
abbrev qgv:Nat:=354
abbrev qdh:Nat:=355
abbrev qgq:Nat:=356
abbrev qhd:Nat:=357
abbrev qfm:Nat:=358
abbrev qdn:Nat:=374
abbrev qda:Nat:=375
abbrev qgt:Nat:=386
abbrev qhj:Nat:=387
abbrev qhk:Nat:=388
abbrev qq:Nat:=389
abbrev qr:Nat:=390
abbrev qgo:Nat:=398
abbrev qdr:Nat:=401
abbrev internal_bytealg_abigen_runtime_cmpstring:Nat:=402
abbrev qt:Nat:=406
end Go.AM.I
