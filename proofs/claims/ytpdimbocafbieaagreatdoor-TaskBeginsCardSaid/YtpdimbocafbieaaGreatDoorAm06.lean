/- Part of the proof. -/
import Derived.Test.YtpdimbocafbieaaGreatDoorAm05
import Derived.Test.YtpdimbocafbieaaGreatDoorAm04
set_option linter.unusedVariables false
set_option linter.unusedSimpArgs false
namespace Go.AM.P
def b_qa:ACode:=
 (.seq (.reg [i (.box 1 E0),i (.box 4 E1)] [(2,L0),(3,L1),(4,Vf)])
 (.seq (.seq (.reg [i (.call 414 [] false),i (.una .not L0)] [(9,L1)])
 (.cond E9 (.seq (.reg [] [(4,Vf)])
 .ret) .skip))
 (.seq (.seq (.reg [i (lt E2),i (.call 536 [L0] false)] [(10,L1)])
 (.cond E10 (.seq (.reg [] [(4,Vt)])
 .ret) .skip))
 (.seq (.reg [i (lt E2),i (.fld 0 E3),i (ld L1),i (.fld 1 E3),i (ld L3),i (.fld 2 E3),i (ld L5),i (.fld 3 E3),i (ld L7),i (.call 420 [L0,L2,L4,L6,L8] false),i (.ext 0 L9),i (.ext 1 L9),i (.box 13 (v (.agg [n0,n0,n0,n0,.nil0,n0,n0,.nil0,n0,.nil0,.nil0,.nil0,n0]))),i (.store 13 L12 L10)] [(5,L12),(6,L11)])
 (.seq (.reg [i (lt E2),i (.fld 0 E3),i (ld L1),i (.fld 1 E3),i (ld L3),i (.fld 2 E3),i (ld L5),i (.fld 3 E3),i (ld L7),i (.call 535 [L0,L2,L4,L6,L8] false),i (.ext 0 L9),i (.ext 1 L9),i (.box 13 (v (.agg [n0,n0,n0,n0,.nil0,n0,n0,.nil0,n0,.nil0,.nil0,.nil0,n0]))),i (.store 13 L12 L10)] [(7,L12),(8,L11)])
 (.seq (.reg [i (.bin .eql E6 E8),g L0 true (.load true 13 E5),g L0 true (.load true 13 E7),g L0 true (.call 411 [L1,L2] false),i (.pick L0 L3 Vf)] [(4,L4)])
 .ret))))))
def f_qa:AFunc:=⟨11,2,.pure,[.env 4],b_qa⟩
def b_qg:ACode:=
 (.seq (.reg [] [(0,Vf)])
 (.seq (.reg [i (.call 419 [] false),i (.call 420 [L0,(v (.int .i64 3)),(v (.int .i64 2)),V0,V1] false),i (.ext 0 L1),i (.ext 1 L1),i (.box 13 (v (.agg [n0,n0,n0,n0,.nil0,n0,n0,.nil0,n0,.nil0,.nil0,.nil0,n0]))),i (.store 13 L4 L2)] [(1,L4),(2,L3)])
 (.seq (.reg [i (.call 419 [] false),i (.call 420 [L0,(v (.int .i64 3)),(v (.int .i64 2)),V1,V0] false),i (.ext 0 L1),i (.ext 1 L1),i (.box 13 (v (.agg [n0,n0,n0,n0,.nil0,n0,n0,.nil0,n0,.nil0,.nil0,.nil0,n0]))),i (.store 13 L4 L2)] [(3,L4),(4,L3)])
 (.seq (.reg [i (.load true 13 E1),i (.call 417 [V1] false),i (.call 417 [(v (.int .i64 2))] false),i (.mkl 1 [L1,L2]),i (.mkl 1 [L3]),i (.call 418 [L0,L4] false),i (.ext 0 L5),i (.ext 1 L5),i (.store 13 E1 L6)] [(5,L7)])
 (.seq (.reg [i (.load true 13 E3),i (.call 416 [L0] false),i (.ext 0 L1),i (.ext 1 L1),i (.ext 2 L1),i (.box 13 (v (.agg [n0,n0,n0,n0,.nil0,n0,n0,.nil0,n0,.nil0,.nil0,.nil0,n0]))),i (.store 13 L5 L2)] [(6,L3),(7,L4)])
 (.seq (.reg [i (.bin .eql E2 V0),g L0 true (.mov E4),g L0 true (.bin .eql L1 V0),i (.pick L0 L2 Vf),g L3 true (.mov E5),g L3 true (.bin .eql L4 V0),i (.pick L3 L5 Vf),g L6 true (.mov E7),g L6 true (.bin .eql L7 V0),i (.pick L6 L8 Vf),g L9 true (.fld 8 E1),g L9 true (ld L10),g L9 true (.bin .eql L11 (v (.int .i64 2))),i (.pick L9 L12 Vf),g L13 true (.fld 10 E1),g L13 true (ld L14),g L13 true (.len L15),g L13 true (.bin .eql L16 V1),i (.pick L13 L17 Vf),g L18 true (.fld 9 E3),g L18 true (ld L19),g L18 true (.len L20),g L18 true (.bin .eql L21 (v (.int .i64 2))),i (.pick L18 L22 Vf),g L23 true (.mov E6),g L23 true (.len L24),g L23 true (.bin .eql L25 (v (.int .i64 2))),i (.pick L23 L26 Vf),g L27 true (.mov E6),g L27 true (.idxs 15 L28 V0),g L27 true (.fld 0 L29),g L27 true (ld L30),g L27 true (.bin .eql L31 (v (.int .i64 4))),i (.pick L27 L32 Vf)] [(0,L33)])
 .ret))))))
def f_qg:AFunc:=⟨8,0,.pure,[.env 0],b_qg⟩
def l_qe_0:ACode:=
 (.seq (.reg [i (.bin .lss E7 E6)] [(8,L0)])
 (.seq (.cond E8 .skip (.exit 0))
 (.seq (.blk 1 (.seq (.reg [i (.idxs 4 E5 E7),i (.load true 4 L0),i (.box 4 (v (.agg [.nil0,n0,n0,.nil0]))),i (.store 4 L2 L1)] [(3,L2)])
 (.seq (.reg [i (.fld 3 E3),i (ld L0),i (.len L1),i (.bin .gtr L2 (v (.int .i64 20))),g L3 false (.fld 0 E3),g L3 false (ld L4),g L3 false (.call 423 [L5] false),i (.pick L3 Vt L6)] [(9,L7)])
 (.cond E9 (.seq (.reg [] [(2,Vt)])
 .ret) .skip))))
 (.reg [i (.bin .add E7 V1)] [(7,L0)]))))
def b_qe:ACode:=
 (.seq (.reg [i (.box 1 E0)] [(1,L0),(2,Vf)])
 (.seq (.seq (.reg [i (.fld 0 E1),i (ld L0),i (.len L1),i (.bin .gtr L2 (v (.int .i64 40)))] [(4,L3)])
 (.cond E4 (.seq (.reg [] [(2,Vt)])
 .ret) .skip))
 (.seq (.seq (.reg [i (.fld 0 E1),i (ld L0),i (.len L1)] [(5,L1),(6,L2),(7,V0)])
 (.blk 0 (.loop [2,3,8,9] l_qe_0)))
 (.seq (.reg [] [(2,Vf)])
 .ret))))
def f_qe:AFunc:=⟨10,1,.pure,[.env 2],b_qe⟩
def l_qfm_0:ACode:=
 (.seq (.reg [i (.bin .lss E26 E25)] [(27,L0)])
 (.seq (.cond E27 .skip (.exit 2))
 (.seq (.blk 3 (.seq (.reg [i (.idxs 3 E24 E26),i (.load true 3 L0),i (.box 3 (v (.agg [n0,n0,n0]))),i (.store 3 L2 L1)] [(16,L2)])
 (.seq (.reg [i (.conv .u32 E1),i (.call 434 [L0] false),i (.ext 0 L1),i (.ext 1 L1),i (.box 7 (v (.agg [.int .u32 0,.int .u64 0,.nil0,.int .u64 0,.int .u64 0,n0,nf]))),i (.store 7 L4 L2)] [(17,L4)])
 (.reg [i (.fld 10 E10),i (ld L0),i (.fld 2 E16),i (ld L2),i (.load true 7 E17),i (.build [n0,.int .u32 0,.int .u64 0,.nil0,.int .u64 0,.int .u64 0,n0,nf,.nil0] [(0,1,L3),(1,7,L4)]),i (.mkl 9 [L5]),i (.app 9 L1 L6),i (.fld 10 E10),i (.store 1 L8 L7)] []))))
 (.reg [i (.bin .add E26 V1)] [(26,L0)]))))
def l_qfm_1:ACode:=
 (.seq (.reg [i (.bin .lss E22 E21)] [(23,L0)])
 (.seq (.cond E23 .skip (.exit 0))
 (.seq (.blk 1 (.seq (.reg [i (.idxs 3 E20 E22),i (.load true 3 L0),i (.box 3 (v (.agg [n0,n0,n0]))),i (.store 3 L2 L1)] [(13,L2)])
 (.seq (.reg [i (.conv .u32 E1),i (.call 436 [L0,(v (.int .i64 8))] false),i (.ext 0 L1),i (.ext 1 L1),i (.box 6 (v (.agg [.int .u32 0,.int .u64 0,.nil0,.nil0,n0,nf]))),i (.store 6 L4 L2)] [(14,L4)])
 (.reg [i (.fld 9 E10),i (ld L0),i (.fld 0 E13),i (ld L2),i (.fld 1 E13),i (ld L4),i (.load true 6 E14),i (.build [n0,n0,.int .u32 0,.int .u64 0,.nil0,.nil0,n0,nf,.nil0] [(0,1,L3),(1,1,L5),(2,6,L6)]),i (.mkl 9 [L7]),i (.app 9 L1 L8),i (.fld 9 E10),i (.store 1 L10 L9)] []))))
 (.reg [i (.bin .add E22 V1)] [(22,L0)]))))
def b_qfm:ACode:=
 (.seq (.reg [i (.box 1 E0),i (.box 13 (v (.agg [n0,n0,n0,n0,.nil0,n0,n0,.nil0,n0,.nil0,.nil0,.nil0,n0])))] [(5,L0),(6,L1),(7,V0)])
 (.seq (.reg [i (lt E5),i (.call 438 [L0,E3,E2] false),i (.ext 0 L1),i (.ext 1 L1)] [(8,L2),(9,L3)])
 (.seq (.seq (.reg [i (.bin .neq E9 V0),g L0 false (.mov E1),g L0 false (.bin .lss L1 V1),i (.pick L0 Vt L2),g L3 false (.mov E1),g L3 false (.bin .gtr L4 (v (.int .i64 12))),i (.pick L3 Vt L5),g L6 false (.mov E8),g L6 false (.mov E4),g L6 false (.call 188 [L7,L8] false),g L6 false (.una .not L9),i (.pick L6 Vt L10)] [(18,L11)])
 (.cond E18 (.seq (.reg [i (.build [n0,n0,n0,n0,.nil0,n0,n0,.nil0,n0,.nil0,.nil0,.nil0,n0] []),i (.store 13 E6 L0)] [(7,v (.int .i64 2))])
 .ret) .skip))
 (.seq (.reg [i (.fld 0 E5),i (ld L0),i (.idxs 4 L1 E3),i (.load true 4 L2),i (.build [n0,n0,n0,n0,.nil0,n0,n0,.nil0,n0,.nil0,.nil0,.nil0,n0] [(0,1,E1),(1,1,E2),(2,1,E3),(3,1,E4),(4,4,L3),(8,1,V1)]),i (.box 13 (v (.agg [n0,n0,n0,n0,.nil0,n0,n0,.nil0,n0,.nil0,.nil0,.nil0,n0]))),i (.store 13 L5 L4)] [(10,L5)])
 (.seq (.seq (.reg [i (.fld 4 E10),i (.fld 0 L0),i (ld L1),i (.call 37 [L2] false),i (.ext 0 L3),i (.ext 1 L3),i (.ext 2 L3)] [(11,L6)])
 (.seq (.reg [i (.bin .neq E11 V0)] [(19,L0)])
 (.cond E19 (.seq (.reg [i (.build [n0,n0,n0,n0,.nil0,n0,n0,.nil0,n0,.nil0,.nil0,.nil0,n0] []),i (.store 13 E6 L0)] [(7,v (.int .i64 2))])
 .ret) .skip)))
 (.seq (.reg [i (lt E5),i (.call 437 [L0,E3,E2,E4] false),i (.ext 0 L1),i (.ext 1 L1)] [(12,L2)])
 (.seq (.seq (.lift 10 9 9 (.reg [i (.len E12)] [(20,E12),(21,L0),(22,V0)]))
 (.blk 0 (.loop [13,14,23] l_qfm_1)))
 (.seq (.reg [i (lt E5),i (.call 435 [L0,E3,E2,E4] false),i (.ext 0 L1),i (.ext 1 L1)] [(15,L2)])
 (.seq (.seq (.lift 10 10 9 (.reg [i (.len E15)] [(24,E15),(25,L0),(26,V0)]))
 (.blk 2 (.loop [16,17,27] l_qfm_0)))
 (.seq (.reg [i (.load true 13 E10),i (.store 13 E6 L0)] [(7,V0)])
 .ret))))))))))
def f_qfm:AFunc:=⟨28,5,.trunc,[.cell true 13 6,.env 7],b_qfm⟩
def l_qav_0:ACode:=
 (.seq (.seq (.reg [i (.len E13),i (.bin .lss E15 L0)] [(20,L1)])
 (.cond E20 .skip (.exit 4)))
 (.seq (.blk 5 (.reg [i (.fld 10 E12),i (ld L0),i (.idxs 3 E13 E15),i (.fld 2 L2),i (ld L3),i (.conv .u32 E1),i (.build [.int .u32 0,.int .u64 0,.nil0,.int .u64 0,.int .u64 0,n0,nf] [(0,1,L5),(1,1,v (.int .u64 1))]),i (.build [n0,.int .u32 0,.int .u64 0,.nil0,.int .u64 0,.int .u64 0,n0,nf,.nil0] [(0,1,L4),(1,7,L6)]),i (.mkl 9 [L7]),i (.app 9 L1 L8),i (.fld 10 E12),i (.store 1 L10 L9)] []))
 (.reg [i (.bin .add E15 V1)] [(15,L0)])))
def l_qav_1:ACode:=
 (.seq (.seq (.reg [i (.len E13),i (.bin .lss E14 L0)] [(19,L1)])
 (.cond E19 .skip (.exit 2)))
 (.seq (.blk 3 (.reg [i (.fld 9 E12),i (ld L0),i (.idxs 3 E13 E14),i (.fld 0 L2),i (ld L3),i (.idxs 3 E13 E14),i (.fld 1 L5),i (ld L6),i (.conv .u32 E1),i (.build [.int .u32 0,.int .u64 0,.nil0,.nil0,n0,nf] [(0,1,L8),(1,1,v (.int .u64 1)),(4,1,v (.int .i64 8))]),i (.build [n0,n0,.int .u32 0,.int .u64 0,.nil0,.nil0,n0,nf,.nil0] [(0,1,L4),(1,1,L7),(2,6,L9)]),i (.mkl 9 [L10]),i (.app 9 L1 L11),i (.fld 9 E12),i (.store 1 L13 L12)] []))
 (.reg [i (.bin .add E14 V1)] [(14,L0)])))
def l_qav_2:ACode:=
 (.seq (.seq (.reg [i (.len E8),i (.bin .lss E10 L0)] [(17,L1)])
 (.cond E17 .skip (.exit 0)))
 (.seq (.blk 1 (.reg [g E9 false (.mov E8),g E9 false (.mov E10),g E9 false (.idxs 1 L0 L1),g E9 false (ld L2),g E9 false (.mov E4),g E9 false (.bin .eql L3 L4),i (.pick E9 Vt L5)] [(9,L6)]))
 (.reg [i (.bin .add E10 V1)] [(10,L0)])))
def b_qav:ACode:=
 (.seq (.reg [i (.box 1 E0),i (.box 13 (v (.agg [n0,n0,n0,n0,.nil0,n0,n0,.nil0,n0,.nil0,.nil0,.nil0,n0])))] [(5,L0),(6,L1),(7,V0)])
 (.seq (.seq (.reg [i (.bin .lss E1 V1),g L0 false (.mov E1),g L0 false (.bin .gtr L1 (v (.int .i64 12))),i (.pick L0 Vt L2),g L3 false (.mov E2),g L3 false (.bin .lss L4 V1),i (.pick L3 Vt L5),g L6 false (.mov E2),g L6 false (.bin .gtr L7 (v (.int .i64 8))),i (.pick L6 Vt L8),g L9 false (.fld 0 E5),g L9 false (ld L10),g L9 false (.len L11),g L9 false (.bin .gtr L12 (v (.int .i64 30))),i (.pick L9 Vt L13),g L14 false (.mov E3),g L14 false (.bin .lss L15 V0),i (.pick L14 Vt L16),g L17 false (.mov E3),g L17 false (.fld 0 E5),g L17 false (ld L19),g L17 false (.len L20),g L17 false (.bin .geq L18 L21),i (.pick L17 Vt L22)] [(16,L23)])
 (.cond E16 (.seq (.reg [i (.build [n0,n0,n0,n0,.nil0,n0,n0,.nil0,n0,.nil0,.nil0,.nil0,n0] []),i (.store 13 E6 L0)] [(7,v (.int .i64 2))])
 .ret) .skip))
 (.seq (.reg [i (lt E5),i (.call 539 [L0,E3,E2] false)] [(8,L1)])
 (.seq (.reg [] [(9,Vf)])
 (.seq (.seq (.reg [] [(10,V0)])
 (.blk 0 (.loop [17] l_qav_2)))
 (.seq (.seq (.reg [i (.fld 0 E5),i (ld L0),i (.idxs 4 L1 E3),i (.fld 0 L2),i (ld L3),i (.call 53 [L4] false),i (.ext 0 L5),i (.ext 1 L5)] [(11,L7)])
 (.seq (.reg [i (.una .not E9),g L0 false (.mov E11),g L0 false (.bin .geq L1 V0),i (.pick L0 Vt L2)] [(18,L3)])
 (.cond E18 (.seq (.reg [i (.build [n0,n0,n0,n0,.nil0,n0,n0,.nil0,n0,.nil0,.nil0,.nil0,n0] []),i (.store 13 E6 L0)] [(7,v (.int .i64 2))])
 .ret) .skip)))
 (.seq (.reg [i (.fld 0 E5),i (ld L0),i (.idxs 4 L1 E3),i (.load true 4 L2),i (.build [n0,n0,n0,n0,.nil0,n0,n0,.nil0,n0,.nil0,.nil0,.nil0,n0] [(0,1,E1),(1,1,E2),(2,1,E3),(3,1,E4),(4,4,L3),(8,1,V1)]),i (.box 13 (v (.agg [n0,n0,n0,n0,.nil0,n0,n0,.nil0,n0,.nil0,.nil0,.nil0,n0]))),i (.store 13 L5 L4)] [(12,L5)])
 (.seq (.reg [i (lt E5),i (.build [n0,n0,n0] [(0,1,v (.int .i64 (-1))),(1,1,v (.int .i64 (-1))),(2,1,E4)]),i (.call 538 [L0,E2,L1,E3] false)] [(13,L2)])
 (.seq (.seq (.lift 12 9 9 (.reg [] [(14,V0)]))
 (.blk 2 (.loop [19] l_qav_1)))
 (.seq (.reg [i (lt E5),i (.build [n0,n0,n0] [(0,1,E3),(1,1,E4),(2,1,v (.int .i64 (-1)))]),i (.call 538 [L0,E2,L1,(v (.int .i64 (-1)))] false)] [(13,L2)])
 (.seq (.seq (.lift 12 10 9 (.reg [] [(15,V0)]))
 (.blk 4 (.loop [20] l_qav_0)))
 (.seq (.reg [i (.load true 13 E12),i (.store 13 E6 L0)] [(7,V0)])
 .ret))))))))))))
def f_qav:AFunc:=⟨21,5,.trunc,[.cell true 13 6,.env 7],b_qav⟩
def l_qaw_0:ACode:=
 (.seq (.seq (.reg [i (.fld 10 E2),i (ld L0),i (.len L1),i (.bin .lss E8 L2)] [(15,L3)])
 (.cond E15 .skip (.exit 2)))
 (.seq (.blk 3 (.seq (.regd [i (.fld 10 E2),i (ld L0),i (.idxs 9 L1 E8),i (.load true 9 L2),i (.fld 10 E3),i (ld L4),i (.idxs 9 L5 E8),i (.load true 9 L6),i (.box 9 (v (.agg [n0,.int .u32 0,.int .u64 0,.nil0,.int .u64 0,.int .u64 0,n0,nf,.nil0]))),i (.box 9 (v (.agg [n0,.int .u32 0,.int .u64 0,.nil0,.int .u64 0,.int .u64 0,n0,nf,.nil0]))),i (.store 9 L8 L3),i (.store 9 L9 L7)] [(9,L8),(10,L9)] [(0,9),(0,10),(1,9),(1,10),(2,9),(2,10),(3,9),(3,10),(4,9),(4,10),(4,11),(5,9),(5,10),(5,11),(6,9),(6,10),(6,11),(7,9),(7,10),(7,11)])
 (.seq (.reg [i (.fld 0 E9),i (ld L0),i (.fld 0 E10),i (ld L2),i (.bin .neq L1 L3),g L4 false (.fld 1 E9),g L4 false (.load true 7 L5),g L4 false (.fld 1 E10),g L4 false (.load true 7 L7),g L4 false (.call 430 [L6,L8] false),g L4 false (.una .not L9),i (.pick L4 Vt L10),g L11 false (.fld 8 E9),g L11 false (ld L12),g L11 false (.fld 8 E10),g L11 false (ld L14),g L11 false (.call 431 [L13,L15] false),g L11 false (.una .not L16),i (.pick L11 Vt L17)] [(16,L18)])
 (.cond E16 (.seq (.reg [] [(4,Vf)])
 .ret) .skip))))
 (.reg [i (.bin .add E8 V1)] [(8,L0)])))
def l_qaw_1:ACode:=
 (.seq (.seq (.reg [i (.fld 9 E2),i (ld L0),i (.len L1),i (.bin .lss E5 L2)] [(13,L3)])
 (.cond E13 .skip (.exit 0)))
 (.seq (.blk 1 (.seq (.regd [i (.fld 9 E2),i (ld L0),i (.idxs 9 L1 E5),i (.load true 9 L2),i (.fld 9 E3),i (ld L4),i (.idxs 9 L5 E5),i (.load true 9 L6),i (.box 9 (v (.agg [n0,n0,.int .u32 0,.int .u64 0,.nil0,.nil0,n0,nf,.nil0]))),i (.box 9 (v (.agg [n0,n0,.int .u32 0,.int .u64 0,.nil0,.nil0,n0,nf,.nil0]))),i (.store 9 L8 L3),i (.store 9 L9 L7)] [(6,L8),(7,L9)] [(0,9),(0,10),(1,9),(1,10),(2,9),(2,10),(3,9),(3,10),(4,9),(4,10),(4,11),(5,9),(5,10),(5,11),(6,9),(6,10),(6,11),(7,9),(7,10),(7,11)])
 (.seq (.reg [i (.fld 0 E6),i (ld L0),i (.fld 0 E7),i (ld L2),i (.bin .neq L1 L3),g L4 false (.fld 1 E6),g L4 false (ld L5),g L4 false (.fld 1 E7),g L4 false (ld L7),g L4 false (.bin .neq L6 L8),i (.pick L4 Vt L9),g L10 false (.fld 2 E6),g L10 false (.load true 6 L11),g L10 false (.fld 2 E7),g L10 false (.load true 6 L13),g L10 false (.call 432 [L12,L14] false),g L10 false (.una .not L15),i (.pick L10 Vt L16),g L17 false (.fld 8 E6),g L17 false (ld L18),g L17 false (.fld 8 E7),g L17 false (ld L20),g L17 false (.call 431 [L19,L21] false),g L17 false (.una .not L22),i (.pick L17 Vt L23)] [(14,L24)])
 (.cond E14 (.seq (.reg [] [(4,Vf)])
 .ret) .skip))))
 (.reg [i (.bin .add E5 V1)] [(5,L0)])))
def b_qaw:ACode:=
 (.seq (.reg [i (.box 13 E0),i (.box 13 E1)] [(2,L0),(3,L1),(4,Vf)])
 (.seq (.seq (.reg [i (.fld 0 E2),i (ld L0),i (.fld 0 E3),i (ld L2),i (.bin .neq L1 L3),g L4 false (.fld 1 E2),g L4 false (ld L5),g L4 false (.fld 1 E3),g L4 false (ld L7),g L4 false (.bin .neq L6 L8),i (.pick L4 Vt L9),g L10 false (.fld 2 E2),g L10 false (ld L11),g L10 false (.fld 2 E3),g L10 false (ld L13),g L10 false (.bin .neq L12 L14),i (.pick L10 Vt L15),g L16 false (.fld 3 E2),g L16 false (ld L17),g L16 false (.fld 3 E3),g L16 false (ld L19),g L16 false (.bin .neq L18 L20),i (.pick L16 Vt L21),g L22 false (.fld 8 E2),g L22 false (ld L23),g L22 false (.fld 8 E3),g L22 false (ld L25),g L22 false (.bin .neq L24 L26),i (.pick L22 Vt L27),g L28 false (.fld 12 E2),g L28 false (ld L29),g L28 false (.fld 12 E3),g L28 false (ld L31),g L28 false (.bin .neq L30 L32),i (.pick L28 Vt L33)] [(11,L34)])
 (.cond E11 (.seq (.reg [] [(4,Vf)])
 .ret) .skip))
 (.seq (.seq (.reg [i (.fld 9 E2),i (ld L0),i (.len L1),i (.fld 9 E3),i (ld L3),i (.len L4),i (.bin .neq L2 L5),g L6 false (.fld 10 E2),g L6 false (ld L7),g L6 false (.len L8),g L6 false (.fld 10 E3),g L6 false (ld L10),g L6 false (.len L11),g L6 false (.bin .neq L9 L12),i (.pick L6 Vt L13),g L14 false (.fld 11 E2),g L14 false (ld L15),g L14 false (.fld 11 E3),g L14 false (ld L17),g L14 false (.call 431 [L16,L18] false),g L14 false (.una .not L19),i (.pick L14 Vt L20)] [(12,L21)])
 (.cond E12 (.seq (.reg [] [(4,Vf)])
 .ret) .skip))
 (.seq (.seq (.reg [] [(5,V0)])
 (.blk 0 (.loop [4,6,7,13,14] l_qaw_1)))
 (.seq (.seq (.reg [] [(8,V0)])
 (.blk 2 (.loop [4,9,10,15,16] l_qaw_0)))
 (.seq (.reg [i (.fld 4 E2),i (.load true 4 L0),i (.mkl 4 [L1]),i (.build [.nil0] [(0,1,L2)]),i (.fld 4 E3),i (.load true 4 L4),i (.mkl 4 [L5]),i (.build [.nil0] [(0,1,L6)]),i (.call 429 [L3,L7] false)] [(4,L8)])
 .ret))))))
def f_qaw:AFunc:=⟨17,2,.pure,[.env 4],b_qaw⟩
def b_qf:ACode:=
 (.seq (.reg [i (.box 1 (v (.agg [.nil0])))] [(0,L0)])
 (.seq (.reg [i (.mkl 1 [(v (.int .i64 2))]),i (.build [n0,n0,n0,n0,.nil0,nf,.nil0,.nil0,.nil0,.nil0,.nil0,n0] [(0,1,V1),(1,1,v (.int .i64 (-1))),(2,1,v (.int .i64 (-1))),(4,1,L0)]),i (.mkl 12 [L1]),i (.build [.nil0,n0,n0,.nil0] [(0,1,L2),(1,1,V1),(2,1,v (.int .i64 3))]),i (.mkl 1 [(v (.int .i64 2))]),i (.build [n0,n0,n0,n0,.nil0,nf,.nil0,.nil0,.nil0,.nil0,.nil0,n0] [(0,1,v (.int .i64 9)),(1,1,v (.int .i64 (-1))),(2,1,v (.int .i64 (-1))),(4,1,L4)]),i (.mkl 12 [L5]),i (.build [.nil0,n0,n0,.nil0] [(0,1,L6),(1,1,v (.int .i64 2)),(2,1,v (.int .i64 4))]),i (.mkl 4 [L3,L7]),i (.build [.nil0] [(0,1,L8)]),i (.store 1 E0 L9)] [])
 .ret))
def f_qf:AFunc:=⟨1,0,.pure,[.cell true 1 0],b_qf⟩
def b_qfn:ACode:=
 (.seq (.reg [i (.box 13 E0),i (.box 1 E1),i (.box 13 (v (.agg [n0,n0,n0,n0,.nil0,n0,n0,.nil0,n0,.nil0,.nil0,.nil0,n0])))] [(2,L0),(3,L1),(4,L2),(5,V0)])
 (.seq (.reg [i (.load true 13 E2),i (.mkfn 439 [] [E3]),i (.call 440 [L0,L1] false),i (.ext 0 L2),i (.ext 1 L2),i (.store 13 E4 L3)] [(5,L4)])
 .ret))
def f_qfn:AFunc:=⟨6,2,.pure,[.cell true 13 4,.env 5],b_qfn⟩
def b_qb:ACode:=
 (.seq (.reg [i (.mov Vn)] [(1,L0)])
 (.seq (.reg [i (.build [n0,n0,.int .u64 0,.str []] [(0,1,v (.int .i64 2)),(1,1,E0)]),i (.mkl 4 [L0])] [(1,L1)])
 .ret))
def f_qb:AFunc:=⟨2,1,.pure,[.env 1],b_qb⟩
def b_qfp:ACode:=
 (.seq (.reg [i (.box 13 E0),i (.box 13 (v (.agg [n0,n0,n0,n0,.nil0,n0,n0,.nil0,n0,.nil0,.nil0,.nil0,n0]))),i (.mov Vn)] [(1,L0),(2,L1),(3,L2),(4,V0)])
 (.seq (.reg [i (.box 1 Vn)] [(5,L0)])
 (.seq (.reg [i (.load true 13 E1),i (.mkfn 441 [] [E5]),i (.call 440 [L0,L1] false),i (.ext 0 L2),i (.ext 1 L2),i (.box 13 (v (.agg [n0,n0,n0,n0,.nil0,n0,n0,.nil0,n0,.nil0,.nil0,.nil0,n0]))),i (.store 13 L5 L3)] [(6,L5),(7,L4)])
 (.seq (.regd [i (.load true 13 E6),i (ld E5),i (.store 13 E2 L0)] [(3,L1),(4,E7)] [(1,3)])
 .ret))))
def f_qfp:AFunc:=⟨8,1,.pure,[.cell true 13 2,.env 3,.env 4],b_qfp⟩
def l_qd_0:ACode:=
 (.seq (.reg [i (.bin .lss E18 E17)] [(19,L0)])
 (.seq (.cond E19 .skip (.exit 4))
 (.seq (.blk 5 (.seq (.reg [i (.idxs 2 E16 E18),i (.load true 2 L0),i (.box 2 (v (.agg [n0,.nil0]))),i (.store 2 L2 L1)] [(4,L2)])
 (.seq (.reg [i (.fld 1 E4),i (lt L0),i (.call 442 [L1] false)] [(20,L2)])
 (.cond E20 (.seq (.reg [] [(1,Vt)])
 .ret) .skip))))
 (.reg [i (.bin .add E18 V1)] [(18,L0)]))))
def l_qd_1:ACode:=
 (.seq (.reg [i (.bin .lss E13 E12)] [(14,L0)])
 (.seq (.cond E14 .skip (.exit 2))
 (.seq (.blk 3 (.seq (.reg [i (.idxs 1 E11 E13),i (lt L0),i (.box 1 (v (.agg [.nil0]))),i (.store 1 L2 L1)] [(3,L2)])
 (.seq (.reg [i (lt E3),i (.call 442 [L0] false)] [(15,L1)])
 (.cond E15 (.seq (.reg [] [(1,Vt)])
 .ret) .skip))))
 (.reg [i (.bin .add E13 V1)] [(13,L0)]))))
def l_qd_2:ACode:=
 (.seq (.reg [i (.bin .lss E8 E7)] [(9,L0)])
 (.seq (.cond E9 .skip (.exit 0))
 (.seq (.blk 1 (.seq (.reg [i (.idxs 12 E6 E8),i (.load true 12 L0),i (.box 12 (v (.agg [n0,n0,n0,n0,.nil0,nf,.nil0,.nil0,.nil0,.nil0,.nil0,n0]))),i (.store 12 L2 L1)] [(2,L2)])
 (.seq (.seq (.reg [i (.fld 4 E2),i (ld L0),i (.len L1),i (.bin .gtr L2 (v (.int .i64 20))),g L3 false (.fld 7 E2),g L3 false (ld L4),g L3 false (.len L5),g L3 false (.bin .gtr L6 (v (.int .i64 20))),i (.pick L3 Vt L7),g L8 false (.fld 10 E2),g L8 false (ld L9),g L8 false (.len L10),g L8 false (.bin .gtr L11 (v (.int .i64 20))),i (.pick L8 Vt L12),g L13 false (.fld 9 E2),g L13 false (ld L14),g L13 false (.len L15),g L13 false (.bin .gtr L16 (v (.int .i64 20))),i (.pick L13 Vt L17),g L18 false (.fld 8 E2),g L18 false (ld L19),g L18 false (.len L20),g L18 false (.bin .gtr L21 (v (.int .i64 20))),i (.pick L18 Vt L22),g L23 false (.fld 6 E2),g L23 false (lt L24),g L23 false (.call 442 [L25] false),i (.pick L23 Vt L26)] [(10,L27)])
 (.cond E10 (.seq (.reg [] [(1,Vt)])
 .ret) .skip))
 (.seq (.seq (.reg [i (.fld 9 E2),i (ld L0),i (.len L1)] [(11,L1),(12,L2),(13,V0)])
 (.blk 2 (.loop [1,3,14,15] l_qd_1)))
 (.seq (.reg [i (.fld 8 E2),i (ld L0),i (.len L1)] [(16,L1),(17,L2),(18,V0)])
 (.blk 4 (.loop [1,4,19,20] l_qd_0)))))))
 (.reg [i (.bin .add E8 V1)] [(8,L0)]))))
def b_qd:ACode:=
 (.seq (.reg [] [(1,Vf)])
 (.seq (.seq (.reg [i (.len E0),i (.bin .gtr L0 (v (.int .i64 32)))] [(5,L1)])
 (.cond E5 (.seq (.reg [] [(1,Vt)])
 .ret) .skip))
 (.seq (.seq (.reg [i (.len E0)] [(6,E0),(7,L0),(8,V0)])
 (.blk 0 (.loop [1,2,3,4,9,10,11,12,13,14,15,16,17,18,19,20] l_qd_2)))
 (.seq (.reg [] [(1,Vf)])
 .ret))))
def f_qd:AFunc:=⟨21,1,.pure,[.env 1],b_qd⟩
def b_qcx:ACode:=
 (.seq (.reg [i (.box 1 E0),i (.mov Vn)] [(3,L0),(4,L1),(5,V0)])
 (.seq (.seq (.reg [i (lt E3),i (.call 457 [L0,E1,E2] false)] [(6,L1)])
 (.seq (.reg [i (.bin .neq E6 V0)] [(7,L0)])
 (.cond E7 (.seq (.reg [i (.mov Vn)] [(4,L0),(5,E6)])
 .ret) .skip)))
 (.seq (.reg [i (.fld 0 E3),i (ld L0),i (.idxs 4 L1 E1),i (.load true 4 L2),i (.call 456 [L3,E2] false)] [(4,L4),(5,V0)])
 .ret)))
def f_qcx:AFunc:=⟨8,3,.pure,[.env 4,.env 5],b_qcx⟩
def b_qfb:ACode:=
 (.seq (.reg [] [(2,Vf)])
 (.seq (.reg [i (.call 278 [E0,E1] false),i (.bin .geq L0 V0)] [(2,L1)])
 .ret))
def f_qfb:AFunc:=⟨3,2,.pure,[.env 2],b_qfb⟩
def l_qdf_0:ACode:=
 (.seq (.reg [i (.bin .lss E21 E20)] [(22,L0)])
 (.seq (.cond E22 .skip (.exit 2))
 (.seq (.blk 3 (.seq (.reg [i (.idxs 1 E19 E21),i (ld L0)] [(10,L1)])
 (.reg [i (.call 95 [E10] true),i (.mkl 1 [L0]),i (.app 1 E9 L1)] [(9,L2)])))
 (.reg [i (.bin .add E21 V1)] [(21,L0)]))))
def l_qdf_1:ACode:=
 (.seq (.reg [i (.bin .lss E14 E13)] [(15,L0)])
 (.seq (.cond E15 .skip (.exit 0))
 (.seq (.blk 1 (.seq (.reg [i (.idxs 12 E12 E14),i (.load true 12 L0),i (.box 12 (v (.agg [n0,n0,n0,n0,.nil0,nf,.nil0,.nil0,.nil0,.nil0,.nil0,n0]))),i (.store 12 L2 L1)] [(8,L2),(7,E14)])
 (.seq (.reg [i (.fld 0 E8),i (ld L0),i (.look (.nilf) false E5 L1),i (.call 96 [E4,E7,L2] false),i (.una .not L3)] [(16,L4)])
 (.cond E16 (.seq (.reg [] [(6,E7)])
 (.exit 0)) .skip))))
 (.reg [i (.bin .add E14 V1)] [(14,L0)]))))
def b_qdf:ACode:=
 (.seq (.reg [i (.mov Vn)] [(1,L0),(2,V0),(3,V0)])
 (.scope (.seq (.seq (.reg [i (.len E0),i (.bin .lss L0 V1),g L1 false (.mov E0),g L1 false (.len L2),g L1 false (.bin .gtr L3 (v (.int .i64 60))),i (.pick L1 Vt L4)] [(11,L5)])
 (.cond E11 (.seq (.reg [i (.mov Vn)] [(1,L0),(2,V0),(3,v (.int .i64 291))])
 .ret) .skip))
 (.seq (.reg [i (.build [.nil0,.nil0,.nil0,n0,n0,n0,n0,.nil0,nf,.nil0,.nil0,.nil0,.nil0,.nil0,n0,.nil0,.nil0,.nil0] [(0,1,E0)]),i (.box 18 L0)] [(4,L1)])
 (.seq (.lift 4 1 1 (.lift 4 2 1 (.reg [i (.call 97 [] false)] [(5,L0)])))
 (.seq (.reg [] [(6,v (.int .i64 (-1)))])
 (.seq (.seq (.reg [i (.len E0)] [(12,E0),(13,L0),(14,V0)])
 (.blk 0 (.loop [7,8,15,16] l_qdf_1)))
 (.seq (.seq (.reg [i (.bin .lss E6 V0),g L0 true (.mov E4),g L0 true (.nilck L1),g L0 true (.fld 2 L2),g L0 true (ld L3),g L0 true (.len L4),g L0 true (.bin .neq L5 V1),i (.pick L0 L6 Vf)] [(17,L7)])
 (.cond E17 (.reg [i (.len E0),i (.bin .sub L0 V1)] [(6,L1)]) .skip))
 (.seq (.seq (.reg [i (.bin .geq E6 V0)] [(18,L0)])
 (.cond E18 (.seq (.reg [i (.mov Vn)] [(1,L0),(2,E6),(3,v (.int .i64 291))])
 .ret) .skip))
 (.seq (.reg [i (.mknil 1)] [(9,L0)])
 (.seq (.seq (.reg [i (.nilck E4),i (.fld 1 L0),i (ld L1),i (.len L2)] [(19,L2),(20,L3),(21,V0)])
 (.blk 2 (.loop [10,22] l_qdf_0)))
 (.seq (.reg [] [(1,E9),(2,V0),(3,V0)])
 .ret))))))))))))
def f_qdf:AFunc:=⟨23,1,.pure,[.env 1,.env 2,.env 3],b_qdf⟩
def b_qct:ACode:=
 (.seq (.reg [i (.box 1 E0),i (.box 1 E1),i (.box 1 E3),i (.mov Vn)] [(4,L0),(5,L1),(6,L2),(7,L3),(8,V0)])
 (.seq (.seq (.reg [i (lt E4),i (ld E5),i (.call 457 [L0,L1,E2] false)] [(9,L2)])
 (.seq (.reg [i (.bin .neq E9 V0)] [(10,L0)])
 (.cond E10 (.seq (.reg [i (.mov Vn)] [(7,L0),(8,E9)])
 .ret) .skip)))
 (.seq (.reg [i (lt E4),i (.mkfn 458 [] [E5,E6]),i (.call 459 [L0,E2,L1] false)] [(7,L2),(8,V0)])
 .ret)))
def f_qct:AFunc:=⟨11,4,.pure,[.env 7,.env 8],b_qct⟩
def b_qce:ACode:=
 (.seq (.reg [i (.box 6 (v (.agg [.int .u32 0,.int .u64 0,.nil0,.nil0,n0,nf])))] [(2,L0),(3,V0)])
 (.seq (.seq (.reg [i (.call 460 [E0] false),i (.una .not L0),g L1 false (.mov E1),g L1 false (.bin .lss L2 V1),i (.pick L1 Vt L3),g L4 false (.mov E1),g L4 false (.bin .gtr L5 (v (.int .i64 8))),i (.pick L4 Vt L6)] [(4,L7)])
 (.cond E4 (.seq (.reg [i (.build [.int .u32 0,.int .u64 0,.nil0,.nil0,n0,nf] []),i (.store 6 E2 L0)] [(3,v (.int .i64 2))])
 .ret) .skip))
 (.seq (.reg [i (.build [.int .u32 0,.int .u64 0,.nil0,.nil0,n0,nf] [(0,1,E0),(1,1,v (.int .u64 1)),(4,1,E1)]),i (.store 6 E2 L0)] [(3,V0)])
 .ret)))
def f_qce:AFunc:=⟨5,2,.pure,[.cell true 6 2,.env 3],b_qce⟩
def b_qcv:ACode:=
 (.seq (.reg [i (.box 1 E0),i (.box 1 E1),i (.box 1 E3),i (.mov Vn)] [(4,L0),(5,L1),(6,L2),(7,L3),(8,V0)])
 (.seq (.seq (.reg [i (lt E4),i (ld E5),i (.call 457 [L0,L1,E2] false)] [(9,L2)])
 (.seq (.reg [i (.bin .neq E9 V0)] [(10,L0)])
 (.cond E10 (.seq (.reg [i (.mov Vn)] [(7,L0),(8,E9)])
 .ret) .skip)))
 (.seq (.reg [i (lt E4),i (.mkfn 461 [] [E5,E6]),i (.call 459 [L0,E2,L1] false)] [(7,L2),(8,V0)])
 .ret)))
def f_qcv:AFunc:=⟨11,4,.pure,[.env 7,.env 8],b_qcv⟩
def b_qcf:ACode:=
 (.seq (.reg [i (.box 7 (v (.agg [.int .u32 0,.int .u64 0,.nil0,.int .u64 0,.int .u64 0,n0,nf])))] [(1,L0),(2,V0)])
 (.seq (.seq (.reg [i (.call 460 [E0] false),i (.una .not L0)] [(3,L1)])
 (.cond E3 (.seq (.reg [i (.build [.int .u32 0,.int .u64 0,.nil0,.int .u64 0,.int .u64 0,n0,nf] []),i (.store 7 E1 L0)] [(2,v (.int .i64 2))])
 .ret) .skip))
 (.seq (.reg [i (.build [.int .u32 0,.int .u64 0,.nil0,.int .u64 0,.int .u64 0,n0,nf] [(0,1,E0),(1,1,v (.int .u64 1))]),i (.store 7 E1 L0)] [(2,V0)])
 .ret)))
def f_qcf:AFunc:=⟨4,1,.pure,[.cell true 7 1,.env 2],b_qcf⟩
def l_qao_0:ACode:=
 (.seq (.seq (.reg [i (.bin .leq E6 E2)] [(8,L0)])
 (.cond E8 .skip (.exit 0)))
 (.seq (.blk 1 (.reg [i (.mkl 1 [E6]),i (.app 1 E5 L0)] [(5,L1)]))
 (.reg [i (.bin .add E6 V1)] [(6,L0)])))
def b_qao:ACode:=
 (.seq (.reg [i (.box 1 E0),i (.mov Vn)] [(3,L0),(4,L1)])
 (.seq (.seq (.reg [i (.fld 0 E3),i (ld L0),i (.idxs 4 L1 E1),i (.fld 1 L2),i (ld L3),i (.bin .eql L4 (v (.int .i64 2)))] [(7,L5)])
 (.cond E7 (.seq (.reg [i (.mkl 1 [V0])] [(4,L0)])
 .ret) .skip))
 (.seq (.reg [i (.mknil 1)] [(5,L0)])
 (.seq (.seq (.reg [] [(6,V1)])
 (.blk 0 (.loop [8] l_qao_0)))
 (.seq (.reg [] [(4,E5)])
 .ret)))))
def f_qao:AFunc:=⟨9,3,.pure,[.env 4],b_qao⟩
def l_qae_0:ACode:=
 (.seq (.reg [i (.bin .lss E14 E13)] [(15,L0)])
 (.seq (.cond E15 .skip (.exit 0))
 (.seq (.blk 1 (.seq (.reg [i (.idxs 12 E12 E14),i (.load true 12 L0),i (.box 12 (v (.agg [n0,n0,n0,n0,.nil0,nf,.nil0,.nil0,.nil0,.nil0,.nil0,n0]))),i (.store 12 L2 L1)] [(5,L2),(4,E14)])
 (.seq (.reg [i (.call 123 [E0,E4] false),i (.bin .gtr L0 V0),g L1 true (.load true 12 E5),g L1 true (.call 128 [L2] false),i (.pick L1 L3 Vf)] [(6,L4)])
 (.seq (.reg [i (.mov Vn)] [(7,L0)])
 (.seq (.seq (.reg [] [(16,E6)])
 (.cond E16 (.seq (.reg [i (.mknil 1)] [(8,L0)])
 (.seq (.seq (.reg [i (.fld 1 E5),i (ld L0),i (.bin .geq L1 V0)] [(17,L2)])
 (.cond E17 (.reg [i (.fld 1 E5),i (ld L0),i (.idxs 1 E3 L1),i (ld L2),i (.mkl 1 [L3]),i (.app 1 E8 L4)] [(8,L5)]) .skip))
 (.seq (.seq (.reg [i (.fld 2 E5),i (ld L0),i (.bin .geq L1 V0)] [(18,L2)])
 (.cond E18 (.reg [i (.fld 2 E5),i (ld L0),i (.idxs 1 E3 L1),i (ld L2),i (.mkl 1 [L3]),i (.app 1 E8 L4)] [(8,L5)]) .skip))
 (.seq (.reg [i (.fld 0 E5),i (ld L0)] [(19,L1)])
 (.blk 2 (.seq (.reg [i (.bin .eql E19 (v (.int .i64 9)))] [(20,L0)])
 (.cond E20 (.reg [i (.load true 12 E5),i (.call 124 [L0] false),i (.ext 0 L1),i (.ext 1 L1)] [(7,L2),(6,L3)]) (.seq (.reg [i (.bin .eql E19 (v (.int .i64 10)))] [(21,L0)])
 (.cond E21 (.seq (.reg [i (.load true 12 E5),i (.box 12 (v (.agg [n0,n0,n0,n0,.nil0,nf,.nil0,.nil0,.nil0,.nil0,.nil0,n0]))),i (.store 12 L1 L0)] [(9,L1)])
 (.seq (.reg [i (.fld 0 E9),i (.store 1 L0 (v (.int .i64 4)))] [])
 (.seq (.reg [i (.load true 12 E9),i (.call 126 [L0,E8] false),i (.ext 0 L1),i (.ext 1 L1)] [(7,L2),(6,L3)])
 (.seq (.reg [] [(22,E6)])
 (.cond E22 (.reg [i (.load true 12 E5),i (.call 125 [L0,E7] false)] [(7,L1)]) .skip))))) (.seq (.reg [i (.bin .eql E19 (v (.int .i64 11)))] [(23,L0)])
 (.cond E23 (.seq (.reg [i (.load true 12 E5),i (.idxs 1 E8 V0),i (ld L1),i (.call 127 [L0,L2] false),i (.ext 0 L3),i (.ext 1 L3)] [(7,L4),(6,L5)])
 (.reg [g E6 true (.mov E0),g E6 true (.fld 1 E5),g E6 true (ld L1),g E6 true (.idxs 12 L0 L2),g E6 true (.fld 0 L3),g E6 true (ld L4),g E6 true (.bin .eql L5 (v (.int .i64 9))),i (.pick E6 L6 Vf)] [(6,L7)])) (.seq (.reg [i (.bin .eql E19 V1)] [(24,L0)])
 (.cond E24 (.reg [i (.load true 12 E5),i (.call 126 [L0,Vn] false),i (.ext 0 L1),i (.ext 1 L1)] [(7,L2),(6,L3)]) (.reg [i (.load true 12 E5),i (.call 126 [L0,E8] false),i (.ext 0 L1),i (.ext 1 L1)] [(7,L2),(6,L3)])))))))))))))) .skip))
 (.seq (.reg [i (.fld 0 E5),i (ld L0),i (.bin .eql L1 (v (.int .i64 8))),g L2 false (.fld 0 E5),g L2 false (ld L3),g L2 false (.bin .eql L4 (v (.int .i64 10))),i (.pick L2 Vt L5)] [(10,L6)])
 (.seq (.seq (.reg [i (.una .not E6),g L0 false (.mov E10),g L0 false (.mov L1),g L2 true (.mov E4),g L2 true (.mov E0),g L2 true (.len L4),g L2 true (.bin .sub L5 V1),g L2 true (.bin .neq L3 L6),g L0 false (.pick L2 L7 Vf),i (.pick L0 Vt L8)] [(25,L9)])
 (.cond E25 (.seq (.reg [i (.mov Vn)] [(1,L0),(2,E4)])
 .ret) .skip))
 (.reg [i (.mkl 1 [E7]),i (.app 1 E3 L0)] [(3,L1)]))))))))
 (.reg [i (.bin .add E14 V1)] [(14,L0)]))))
def b_qae:ACode:=
 (.seq (.reg [i (.mov Vn)] [(1,L0),(2,V0)])
 (.seq (.seq (.reg [i (.len E0),i (.bin .lss L0 V1),g L1 false (.mov E0),g L1 false (.len L2),g L1 false (.bin .gtr L3 (v (.int .i64 60))),i (.pick L1 Vt L4)] [(11,L5)])
 (.cond E11 (.seq (.reg [i (.mov Vn)] [(1,L0),(2,V0)])
 .ret) .skip))
 (.seq (.reg [i (.mknil 1)] [(3,L0)])
 (.seq (.seq (.reg [i (.len E0)] [(12,E0),(13,L0),(14,V0)])
 (.blk 0 (.loop [1,2,4,5,6,7,8,9,10,15,16,17,18,19,20,21,22,23,24,25] l_qae_0)))
 (.seq (.seq (.reg [i (.len E0),i (.bin .sub L0 V1),i (.call 123 [E0,L1] false),i (.len E0),i (.bin .neq L2 L3)] [(26,L4)])
 (.cond E26 (.seq (.reg [i (.len E0),i (.bin .sub L0 V1),i (.mov Vn)] [(1,L2),(2,L1)])
 .ret) .skip))
 (.seq (.reg [] [(1,E3),(2,v (.int .i64 (-1)))])
 .ret))))))
def f_qae:AFunc:=⟨27,1,.pure,[.env 1,.env 2],b_qae⟩
def l_qaq_0:ACode:=
 (.seq (.seq (.reg [i (.len E11),i (.bin .lss E13 L0)] [(17,L1)])
 (.cond E17 .skip (.exit 4)))
 (.seq (.blk 5 (.seq (.reg [i (.fld 1 E5),i (ld L0),i (.bin .lss L1 V0),g L2 false (.mov E10),g L2 false (.mov E12),g L2 false (.idxs 1 L3 L4),g L2 false (ld L5),g L2 false (.fld 1 E5),g L2 false (ld L7),g L2 false (.bin .eql L6 L8),i (.pick L2 Vt L9),g L10 true (.fld 2 E5),g L10 true (ld L11),g L10 true (.bin .lss L12 V0),g L10 true (.mov L13),g L14 false (.mov E11),g L14 false (.mov E13),g L14 false (.idxs 1 L15 L16),g L14 false (ld L17),g L14 false (.fld 2 E5),g L14 false (ld L19),g L14 false (.bin .eql L18 L20),g L10 true (.pick L14 Vt L21),i (.pick L10 L22 Vf)] [(18,L23)])
 (.cond E18 (.reg [i (.idxs 1 E10 E12),i (ld L0),i (.idxs 1 E11 E13),i (ld L2),i (.build [n0,n0,n0] [(0,1,E8),(1,1,L1),(2,1,L3)]),i (.mkl 3 [L4]),i (.app 3 E7 L5)] [(7,L6)]) .skip)))
 (.reg [i (.bin .add E13 V1)] [(13,L0)])))
def l_qaq_1:ACode:=
 (.seq (.seq (.reg [i (.len E10),i (.bin .lss E12 L0)] [(16,L1)])
 (.cond E16 .skip (.exit 2)))
 (.seq (.blk 3 (.seq (.reg [] [(13,V0)])
 (.blk 4 (.loop [17,18] l_qaq_0))))
 (.reg [i (.bin .add E12 V1)] [(12,L0)])))
def l_qaq_2:ACode:=
 (.seq (.seq (.reg [i (.fld 0 E4),i (ld L0),i (.len L1),i (.bin .lss E8 L2)] [(14,L3)])
 (.cond E14 .skip (.exit 0)))
 (.seq (.blk 1 (.seq (.reg [i (lt E4),i (.call 540 [L0,E8] false)] [(9,L1)])
 (.seq (.seq (.reg [i (.bin .lss E9 V0),g L0 false (.fld 0 E5),g L0 false (ld L1),g L0 false (.bin .geq L2 V0),g L0 false (.mov L3),g L4 true (.mov E8),g L4 true (.fld 0 E5),g L4 true (ld L6),g L4 true (.bin .neq L5 L7),g L0 false (.pick L4 L8 Vf),i (.pick L0 Vt L9),g L10 false (.mov E3),g L10 false (.bin .geq L11 V0),g L10 false (.mov L12),g L13 true (.mov E9),g L13 true (.mov E3),g L13 true (.bin .neq L14 L15),g L10 false (.pick L13 L16 Vf),i (.pick L10 Vt L17)] [(15,L18)])
 (.cond E15 (.exit 1) .skip))
 (.seq (.reg [i (lt E4),i (.call 539 [L0,E8,E1] false),i (lt E4),i (.call 539 [L2,E9,E1] false)] [(10,L1),(11,L3)])
 (.seq (.reg [] [(12,V0)])
 (.blk 2 (.loop [13,16,17,18] l_qaq_1)))))))
 (.reg [i (.bin .add E8 V1)] [(8,L0)])))
def b_qaq:ACode:=
 (.seq (.reg [i (.box 1 E0),i (.box 3 E2),i (.mov Vn)] [(4,L0),(5,L1),(6,L2)])
 (.seq (.reg [i (.mknil 3)] [(7,L0)])
 (.seq (.seq (.reg [] [(8,V0)])
 (.blk 0 (.loop [9,10,11,12,13,14,15,16,17,18] l_qaq_2)))
 (.seq (.reg [] [(6,E7)])
 .ret))))
def f_qaq:AFunc:=⟨19,4,.pure,[.env 6],b_qaq⟩
def l_qar_0:ACode:=
 (.seq (.seq (.reg [i (.idxs 1 E0 E3),i (ld L0),i (.len L1),i (.bin .lss E4 L2)] [(8,L3)])
 (.cond E8 .skip (.exit 2)))
 (.seq (.blk 3 (.seq (.reg [i (.idxs 1 E0 E3),i (ld L0),i (.idxs 4 L1 E4),i (.load true 4 L2),i (.idxs 1 E1 E3),i (ld L4),i (.idxs 4 L5 E4),i (.load true 4 L6),i (.eqa true [0,0,0,2] L3 L7)] [(9,L8)])
 (.cond E9 (.seq (.reg [] [(2,Vf)])
 .ret) .skip)))
 (.reg [i (.bin .add E4 V1)] [(4,L0)])))
def l_qar_1:ACode:=
 (.seq (.seq (.reg [i (.len E0),i (.bin .lss E3 L0)] [(6,L1)])
 (.cond E6 .skip (.exit 0)))
 (.seq (.blk 1 (.seq (.seq (.reg [i (.idxs 1 E0 E3),i (ld L0),i (.len L1),i (.idxs 1 E1 E3),i (ld L3),i (.len L4),i (.bin .neq L2 L5)] [(7,L6)])
 (.cond E7 (.seq (.reg [] [(2,Vf)])
 .ret) .skip))
 (.seq (.reg [] [(4,V0)])
 (.blk 2 (.loop [2,8,9] l_qar_0)))))
 (.reg [i (.bin .add E3 V1)] [(3,L0)])))
def b_qar:ACode:=
 (.seq (.reg [] [(2,Vf)])
 (.seq (.seq (.reg [i (.len E0),i (.len E1),i (.bin .neq L0 L1)] [(5,L2)])
 (.cond E5 (.seq (.reg [] [(2,Vf)])
 .ret) .skip))
 (.seq (.seq (.reg [] [(3,V0)])
 (.blk 0 (.loop [2,4,6,7,8,9] l_qar_1)))
 (.seq (.reg [] [(2,Vt)])
 .ret))))
def f_qar:AFunc:=⟨10,2,.pure,[.env 2],b_qar⟩
def l_qat_0:ACode:=
 (.seq (.reg [i (.bin .lss E8 E7)] [(9,L0)])
 (.seq (.cond E9 .skip (.exit 0))
 (.seq (.blk 1 (.seq (.reg [] [(5,E8)])
 (.seq (.reg [i (.fld 2 E2),i (ld L0),i (.idxs 4 L1 E5),i (.fld 0 L2),i (ld L3),i (.fld 2 E3),i (ld L5),i (.idxs 4 L6 E5),i (.fld 0 L7),i (ld L8),i (.bin .neq L4 L9),g L10 false (.fld 2 E2),g L10 false (ld L11),g L10 false (.mov E5),g L10 false (.idxs 4 L12 L13),g L10 false (.fld 1 L14),g L10 false (.load true 3 L15),g L10 false (.fld 2 E3),g L10 false (ld L17),g L10 false (.mov E5),g L10 false (.idxs 4 L18 L19),g L10 false (.fld 1 L20),g L10 false (.load true 3 L21),g L10 false (.call 453 [L16,L22] false),g L10 false (.una .not L23),i (.pick L10 Vt L24)] [(10,L25)])
 (.cond E10 (.seq (.reg [] [(4,Vf)])
 .ret) .skip))))
 (.reg [i (.bin .add E8 V1)] [(8,L0)]))))
def b_qat:ACode:=
 (.seq (.reg [i (.box 6 E0),i (.box 6 E1)] [(2,L0),(3,L1),(4,Vf)])
 (.seq (.seq (.reg [i (.fld 0 E2),i (ld L0),i (.fld 0 E3),i (ld L2),i (.bin .neq L1 L3),g L4 false (.fld 1 E2),g L4 false (ld L5),g L4 false (.fld 1 E3),g L4 false (ld L7),g L4 false (.bin .neq L6 L8),i (.pick L4 Vt L9),g L10 false (.fld 4 E2),g L10 false (ld L11),g L10 false (.fld 4 E3),g L10 false (ld L13),g L10 false (.bin .neq L12 L14),i (.pick L10 Vt L15),g L16 false (.fld 5 E2),g L16 false (ld L17),g L16 false (.fld 5 E3),g L16 false (ld L19),g L16 false (.eqb true L18 L20),i (.pick L16 Vt L21),g L22 false (.fld 2 E2),g L22 false (ld L23),g L22 false (.len L24),g L22 false (.fld 2 E3),g L22 false (ld L26),g L22 false (.len L27),g L22 false (.bin .neq L25 L28),i (.pick L22 Vt L29)] [(6,L30)])
 (.cond E6 (.seq (.reg [] [(4,Vf)])
 .ret) .skip))
 (.seq (.seq (.reg [i (.fld 2 E2),i (ld L0),i (.len L1)] [(7,L2),(8,V0)])
 (.blk 0 (.loop [4,5,9,10] l_qat_0)))
 (.seq (.reg [i (.fld 3 E2),i (ld L0),i (.fld 3 E3),i (ld L2),i (.call 452 [L1,L3] false)] [(4,L4)])
 .ret))))
def f_qat:AFunc:=⟨11,2,.pure,[.env 4],b_qat⟩
def b_qau:ACode:=
 (.seq (.reg [i (.box 7 E0),i (.box 7 E1)] [(2,L0),(3,L1),(4,Vf)])
 (.seq (.reg [i (.fld 0 E2),i (ld L0),i (.fld 0 E3),i (ld L2),i (.bin .eql L1 L3),g L4 true (.fld 1 E2),g L4 true (ld L5),g L4 true (.fld 1 E3),g L4 true (ld L7),g L4 true (.bin .eql L6 L8),i (.pick L4 L9 Vf),g L10 true (.fld 3 E2),g L10 true (ld L11),g L10 true (.fld 3 E3),g L10 true (ld L13),g L10 true (.bin .eql L12 L14),i (.pick L10 L15 Vf),g L16 true (.fld 4 E2),g L16 true (ld L17),g L16 true (.fld 4 E3),g L16 true (ld L19),g L16 true (.bin .eql L18 L20),i (.pick L16 L21 Vf),g L22 true (.fld 5 E2),g L22 true (ld L23),g L22 true (.fld 5 E3),g L22 true (ld L25),g L22 true (.bin .eql L24 L26),i (.pick L22 L27 Vf),g L28 true (.fld 6 E2),g L28 true (ld L29),g L28 true (.fld 6 E3),g L28 true (ld L31),g L28 true (.eqb false L30 L32),i (.pick L28 L33 Vf),g L34 true (.fld 2 E2),g L34 true (ld L35),g L34 true (.fld 2 E3),g L34 true (ld L37),g L34 true (.call 452 [L36,L38] false),i (.pick L34 L39 Vf)] [(4,L40)])
 .ret))
def f_qau:AFunc:=⟨5,2,.pure,[.env 4],b_qau⟩
def l_qag_0:ACode:=
 (.seq (.reg [i (.bin .lss E11 E10)] [(12,L0)])
 (.seq (.cond E12 .skip (.exit 0))
 (.seq (.blk 1 (.seq (.reg [i (.idxs 4 E9 E11),i (.load true 4 L0),i (.box 4 (v (.agg [.nil0,n0,n0,.nil0]))),i (.store 4 L2 L1)] [(6,L2),(5,E11)])
 (.seq (.reg [i (.fld 0 E3),i (ld L0),i (.idxs 4 L1 E5),i (.load true 4 L2),i (.box 4 (v (.agg [.nil0,n0,n0,.nil0]))),i (.store 4 L4 L3)] [(7,L4)])
 (.seq (.reg [i (.fld 1 E6),i (ld L0),i (.fld 1 E7),i (ld L2),i (.bin .neq L1 L3),g L4 false (.fld 2 E6),g L4 false (ld L5),g L4 false (.fld 2 E7),g L4 false (ld L7),g L4 false (.bin .neq L6 L8),i (.pick L4 Vt L9),g L10 false (.fld 3 E6),g L10 false (ld L11),g L10 false (.fld 3 E7),g L10 false (ld L13),g L10 false (.call 23 [L12,L14] false),g L10 false (.una .not L15),i (.pick L10 Vt L16),g L17 false (.fld 0 E6),g L17 false (ld L18),g L17 false (.build [.nil0] [(0,1,L19)]),g L17 false (.fld 0 E7),g L17 false (ld L21),g L17 false (.build [.nil0] [(0,1,L22)]),g L17 false (.call 454 [L20,L23] false),g L17 false (.una .not L24),i (.pick L17 Vt L25)] [(13,L26)])
 (.cond E13 (.seq (.reg [] [(4,Vf)])
 .ret) .skip)))))
 (.reg [i (.bin .add E11 V1)] [(11,L0)]))))
def b_qag:ACode:=
 (.seq (.reg [i (.box 1 E0),i (.box 1 E1)] [(2,L0),(3,L1),(4,Vf)])
 (.seq (.seq (.reg [i (.fld 0 E2),i (ld L0),i (.len L1),i (.fld 0 E3),i (ld L3),i (.len L4),i (.bin .neq L2 L5)] [(8,L6)])
 (.cond E8 (.seq (.reg [] [(4,Vf)])
 .ret) .skip))
 (.seq (.seq (.reg [i (.fld 0 E2),i (ld L0),i (.len L1)] [(9,L1),(10,L2),(11,V0)])
 (.blk 0 (.loop [4,5,6,7,12,13] l_qag_0)))
 (.seq (.reg [] [(4,Vt)])
 .ret))))
def f_qag:AFunc:=⟨14,2,.pure,[.env 4],b_qag⟩
def b_qgk:ACode:=
 (.seq (.reg [i (.box 13 E0),i (.box 13 (v (.agg [n0,n0,n0,n0,.nil0,n0,n0,.nil0,n0,.nil0,.nil0,.nil0,n0])))] [(2,L0),(3,L1),(4,V0)])
 (.seq (.seq (.reg [i (.load true 13 E2),i (.call 463 [L0] false),i (.una .not L1)] [(5,L2)])
 (.cond E5 (.seq (.reg [i (.build [n0,n0,n0,n0,.nil0,n0,n0,.nil0,n0,.nil0,.nil0,.nil0,n0] []),i (.store 13 E3 L0)] [(4,v (.int .i64 350))])
 .ret) .skip))
 (.seq (.reg [i (.load true 13 E2),i (.call 462 [L0] false),i (.store 13 E2 L1)] [])
 (.seq (.reg [i (.callv E1 [E2])] [])
 (.seq (.reg [i (.load true 13 E2),i (.store 13 E3 L0)] [(4,V0)])
 .ret)))))
def f_qgk:AFunc:=⟨6,2,.keep,[.cell true 13 3,.env 4],b_qgk⟩
def b_qfo:ACode:=
 (.seq (.seq (.reg [i (.nilck E0),i (.fld 8 L0),i (ld L1),i (.bin .eql L2 V1),g L3 true (.mov E0),g L3 true (.nilck L4),g L3 true (.load true 13 L5),g L3 true (.call 466 [L6] false),i (.pick L3 L7 Vf)] [(2,L8)])
 (.cond E2 (.reg [i (ld E1),i (.call 465 [E0,L0] false)] []) .skip))
 (.reg [i (.call 464 [E0] false)] []))
def f_qfo:AFunc:=⟨3,2,.keep,[],b_qfo⟩
def b_qgc:ACode:=
 (.seq (.reg [i (.box 13 E0)] [(1,L0),(2,Vf)])
 (.seq (.reg [i (.fld 9 E1),i (ld L0),i (.call 467 [L1,(v (.fn 468 [] []))] false)] [(2,L2)])
 .ret))
def f_qgc:AFunc:=⟨3,1,.pure,[.env 2],b_qgc⟩
def l_qgf_0:ACode:=
 (.seq (.reg [i (.bin .lss E19 E18)] [(20,L0)])
 (.seq (.cond E20 .skip (.exit 2))
 (.seq (.blk 3 (.seq (.reg [] [(7,E19)])
 (.seq (.reg [i (.nilck E0),i (.fld 10 L0),i (ld L1),i (.idxs 9 L2 E7),i (.fld 0 L3),i (ld L4),i (.bin .sub L5 V1),i (.maxs L6 [V0])] [(8,L7)])
 (.seq (.reg [i (.len E6),i (.bin .lss E8 L0)] [(21,L1)])
 (.cond E21 (.reg [i (.nilck E0),i (.fld 10 L0),i (ld L1),i (.idxs 1 E6 E8),i (ld L3),i (.idxs 9 L2 E7),i (.fld 8 L5),i (.store 1 L6 L4)] []) .skip)))))
 (.reg [i (.bin .add E19 V1)] [(19,L0)]))))
def l_qgf_1:ACode:=
 (.seq (.reg [i (.bin .lss E11 E10)] [(12,L0)])
 (.seq (.cond E12 .skip (.exit 0))
 (.seq (.blk 1 (.seq (.reg [i (.idxs 9 E9 E11),i (.load true 9 L0),i (.box 9 (v (.agg [n0,n0,.int .u32 0,.int .u64 0,.nil0,.nil0,n0,nf,.nil0]))),i (.store 9 L2 L1)] [(3,L2)])
 (.reg [i (.fld 0 E3),i (ld L0),i (.fld 0 E3),i (ld L2),i (.idxs 1 E2 L3),i (ld L4),i (.fld 8 E3),i (ld L6),i (.mkl 1 [L5,L7]),i (.call 30 [L8] false),i (.ext 0 L9),i (.ext 1 L9),i (.idxs 1 E2 L1),i (.store 1 L12 L10)] [])))
 (.reg [i (.bin .add E11 V1)] [(11,L0)]))))
def b_qgf:ACode:=
 (.seq (.reg [i (.make 1 (.nil0) (v (.int .i64 30)) (v (.int .i64 30)))] [(2,L0)])
 (.seq (.seq (.reg [i (.nilck E0),i (.fld 9 L0),i (ld L1),i (.len L2)] [(9,L2),(10,L3),(11,V0)])
 (.blk 0 (.loop [3,12] l_qgf_1)))
 (.seq (.seq (.reg [i (.nilck E0),i (.fld 3 L0),i (ld L1),i (.bin .eql L2 V0)] [(13,L3)])
 (.cond E13 (.reg [i (.mov Vn)] [(1,L0)]) .skip))
 (.seq (.reg [i (.nilck E0),i (.fld 4 L0),i (.load true 4 L1),i (.call 2 [L2,E1,E2] false),i (.ext 0 L3),i (.ext 1 L3)] [(4,L4),(5,L5)])
 (.seq (.seq (.reg [i (.bin .eql E5 V0),g L0 true (.mov E0),g L0 true (.nilck L1),g L0 true (.fld 4 L2),g L0 true (.fld 2 L3),g L0 true (ld L4),g L0 true (.bin .eql L5 (v (.int .i64 4))),i (.pick L0 L6 Vf)] [(14,L7)])
 (.cond E14 (.seq (.reg [i (.nilck E0),i (.fld 11 L0),i (.store 1 L1 E4),i (.nilck E0),i (.fld 8 L3),i (.store 1 L4 (v (.int .i64 2)))] [])
 .ret) .skip))
 (.seq (.reg [i (.mov Vn)] [(6,L0)])
 (.seq (.seq (.reg [i (.bin .eql E5 V0)] [(15,L0)])
 (.cond E15 (.reg [i (.nilck E0),i (.fld 4 L0),i (.load true 4 L1),i (.nilck E0),i (.fld 1 L3),i (ld L4),i (.call 31 [L2,E4,L5] false),i (.ext 0 L6),i (.ext 1 L6)] [(6,L7),(5,L8)]) .skip))
 (.seq (.seq (.reg [i (.bin .neq E5 V0)] [(16,L0)])
 (.cond E16 (.seq (.reg [i (.nilck E0),i (.fld 8 L0),i (.store 1 L1 (v (.int .i64 4))),i (.nilck E0),i (.fld 12 L3),i (.store 1 L4 (v (.int .i64 140)))] [])
 (.seq (.seq (.reg [i (.bin .eql E5 (v (.int .i64 300)))] [(17,L0)])
 (.cond E17 (.reg [i (.nilck E0),i (.fld 12 L0),i (.store 1 L1 E5)] []) .skip))
 .ret)) .skip))
 (.seq (.reg [i (.nilck E0),i (.fld 8 L0),i (.store 1 L1 (v (.int .i64 2)))] [])
 (.seq (.reg [i (.nilck E0),i (.fld 10 L0),i (ld L1),i (.len L2)] [(18,L3),(19,V0)])
 (.blk 2 (.loop [7,8,20,21] l_qgf_0))))))))))))
def f_qgf:AFunc:=⟨22,2,.keep,[],b_qgf⟩
def l_qfx_0:ACode:=
 (.seq (.reg [i (.bin .lss E4 E3)] [(5,L0)])
 (.seq (.cond E5 .skip (.exit 0))
 (.seq (.blk 1 (.seq (.reg [] [(1,E4)])
 (.reg [i (.nilck E0),i (.fld 10 L0),i (ld L1),i (.idxs 9 L2 E1),i (.call 471 [L3] false)] [])))
 (.reg [i (.bin .add E4 V1)] [(4,L0)]))))
def b_qfx:ACode:=
 (.seq (.seq (.reg [i (.nilck E0),i (.fld 8 L0),i (ld L1),i (.bin .neq L2 (v (.int .i64 2)))] [(2,L3)])
 (.cond E2 .ret .skip))
 (.seq (.seq (.reg [i (.nilck E0),i (.fld 10 L0),i (ld L1),i (.len L2)] [(3,L3),(4,V0)])
 (.blk 0 (.loop [1,5] l_qfx_0)))
 (.seq (.reg [i (.nilck E0),i (.fld 10 L0),i (ld L1),i (.call 469 [L2,(v (.fn 470 [] []))] false)] [(6,L3)])
 (.cond E6 (.reg [i (.nilck E0),i (.fld 8 L0),i (.store 1 L1 (v (.int .i64 3)))] []) .skip))))
def f_qfx:AFunc:=⟨7,1,.keep,[],b_qfx⟩
def b_qfq:ACode:=
 (.reg [i (.call 472 [E0] false),i (.call 473 [L0] false),i (.store 1 E1 L1)] [])
def f_qfq:AFunc:=⟨2,2,.keep,[],b_qfq⟩
def q_task_collected_api_Msg_0:ACode:=
 (.blk 1 (.reg [i (ld E2),i (.load true 15 E3),i (.mkl 15 [L1]),i (.app 15 L0 L2),i (.store 1 E2 L3)] []))
def q_task_collected_api_Msg_0p:ACode:=
 (.reg [i (.box 15 (v (.agg [n0,n0,n0,n0,n0,n0,.nil0,n0,.int .u32 0,.int .u64 0,.int .u64 0,.nil0,nf,.int .u64 0,n0]))),i (.store 15 L0 E5)] [(3,L0)])
def b_qfr:ACode:=
 (.seq (.reg [i (.mov Vn)] [(1,L0)])
 (.seq (.reg [i (.box 1 Vn)] [(2,L0)])
 (.seq (.seq (.lift 2 0 15 (.reg [] [(4,E0)]))
 (.blk 0 (.rng 6 E4 474)))
 (.seq (.reg [i (ld E2)] [(1,L0)])
 .ret))))
def f_qfr:AFunc:=⟨6,1,.pure,[.env 1],b_qfr⟩
def r_task_collected_api_Msg_0:ARound:=⟨6,[5],q_task_collected_api_Msg_0p,q_task_collected_api_Msg_0⟩
def b_qgg:ACode:=
 (.seq (.reg [i (.box 1 E0)] [(1,L0),(2,v (.nilf))])
 (.seq (.reg [i (.mkfn 475 [] [E1])] [(2,L0)])
 .ret))
def f_qgg:AFunc:=⟨3,1,.keep,[.env 2],b_qgg⟩
def l_qc_0:ACode:=
 (.seq (.reg [i (.bin .lss E7 E6)] [(8,L0)])
 (.seq (.cond E8 .skip (.exit 0))
 (.seq (.blk 1 (.seq (.reg [i (.idxs 8 E5 E7),i (.load true 8 L0),i (.box 8 (v (.agg [n0,n0,n0,n0,n0,n0,.int .u64 0,.str []]))),i (.store 8 L2 L1)] [(3,L2)])
 (.seq (.reg [i (.fld 4 E3),i (.fld 3 L0),i (ld L1),i (.lent L2),i (.bin .gtr L3 (v (.int .i64 100)))] [(9,L4)])
 (.cond E9 (.seq (.reg [] [(2,Vt)])
 .ret) .skip))))
 (.reg [i (.bin .add E7 V1)] [(7,L0)]))))
def b_qc:ACode:=
 (.seq (.reg [i (.box 1 E0)] [(1,L0),(2,Vf)])
 (.seq (.seq (.reg [i (.fld 0 E1),i (ld L0),i (.len L1),i (.bin .gtr L2 (v (.int .i64 60)))] [(4,L3)])
 (.cond E4 (.seq (.reg [] [(2,Vt)])
 .ret) .skip))
 (.seq (.seq (.reg [i (.fld 0 E1),i (ld L0),i (.len L1)] [(5,L1),(6,L2),(7,V0)])
 (.blk 0 (.loop [2,3,8,9] l_qc_0)))
 (.seq (.reg [] [(2,Vf)])
 .ret))))
def f_qc:AFunc:=⟨10,1,.pure,[.env 2],b_qc⟩
def b_qda:ACode:=
 (.seq (.reg [i (.box 1 E0)] [(3,L0),(4,V0)])
 (.seq (.seq (.reg [i (.fld 0 E3),i (ld L0),i (.len L1),i (.bin .gtr L2 (v (.int .i64 30))),g L3 false (.mov E1),g L3 false (.bin .lss L4 V0),i (.pick L3 Vt L5),g L6 false (.mov E1),g L6 false (.fld 0 E3),g L6 false (ld L8),g L6 false (.len L9),g L6 false (.bin .geq L7 L10),i (.pick L6 Vt L11),g L12 false (.mov E2),g L12 false (.bin .lss L13 V1),i (.pick L12 Vt L14),g L15 false (.mov E2),g L15 false (.bin .gtr L16 (v (.int .i64 8))),i (.pick L15 Vt L17)] [(5,L18)])
 (.cond E5 (.seq (.reg [] [(4,v (.int .i64 2))])
 .ret) .skip))
 (.seq (.reg [] [(4,V0)])
 .ret)))
def f_qda:AFunc:=⟨6,3,.pure,[.env 4],b_qda⟩
def b_qdc:ACode:=
 (.seq (.reg [i (.box 4 E0),i (.mov Vn)] [(2,L0),(3,L1)])
 (.seq (.seq (.reg [i (.fld 1 E2),i (ld L0),i (.bin .eql L1 (v (.int .i64 2)))] [(4,L2)])
 (.cond E4 (.seq (.reg [i (.mkl 1 [V0])] [(3,L0)])
 .ret) .skip))
 (.seq (.reg [i (.bin .add E1 V1),i (.call 486 [L0] false),i (.slice 1 L1 (some V1) none)] [(3,L2)])
 .ret)))
def f_qdc:AFunc:=⟨5,2,.pure,[.env 3],b_qdc⟩
def l_qfl_0:ACode:=
 (.seq (.reg [i (.bin .lss E5 E4)] [(6,L0)])
 (.seq (.cond E6 .skip (.exit 0))
 (.seq (.blk 1 (.seq (.reg [] [(3,E5)])
 (.seq (.reg [i (.idxs 1 E0 E3),i (ld L0),i (.bin .eql E1 L1)] [(7,L2)])
 (.cond E7 (.seq (.reg [] [(2,E3)])
 .ret) .skip))))
 (.reg [i (.bin .add E5 V1)] [(5,L0)]))))
def b_qfl:ACode:=
 (.seq (.reg [] [(2,V0)])
 (.seq (.seq (.reg [i (.len E0)] [(4,L0),(5,V0)])
 (.blk 0 (.loop [2,3,6,7] l_qfl_0)))
 (.seq (.reg [] [(2,v (.int .i64 (-1)))])
 .ret)))
def f_qfl:AFunc:=⟨8,2,.pure,[.env 2],b_qfl⟩
def b_qdh:ACode:=
 (.seq (.reg [] [(0,v (.nilm))])
 (.seq (.reg [i (.mkmap),i (.mput L0 V1 (v (.fn 177 [] []))),i (.mput L0 (v (.int .i64 9)) (v (.fn 178 [] []))),i (.mput L0 (v (.int .i64 2)) (v (.fn 179 [] []))),i (.mput L0 (v (.int .i64 3)) (v (.fn 180 [] []))),i (.mput L0 (v (.int .i64 4)) (v (.fn 181 [] []))),i (.mput L0 (v (.int .i64 10)) (v (.fn 182 [] []))),i (.mput L0 (v (.int .i64 11)) (v (.fn 183 [] []))),i (.mput L0 (v (.int .i64 5)) (v (.fn 184 [] []))),i (.mput L0 (v (.int .i64 6)) (v (.fn 185 [] []))),i (.mput L0 (v (.int .i64 7)) (v (.fn 186 [] []))),i (.mput L0 (v (.int .i64 8)) (v (.fn 187 [] [])))] [(0,L0)])
 .ret))
def f_qdh:AFunc:=⟨1,0,.pure,[.env 0],b_qdh⟩
def l_qdy_0:ACode:=
 (.seq (.reg [i (.bin .lss E15 E14)] [(16,L0)])
 (.seq (.cond E16 .skip (.exit 0))
 (.seq (.blk 1 (.seq (.reg [i (.idxs 1 E13 E15),i (ld L0)] [(7,E15),(8,L1)])
 (.seq (.reg [i (.nilck E0),i (.fld 1 L0),i (ld L1),i (.idxs 1 L2 E8),i (ld L3)] [(9,L4)])
 (.seq (.seq (.reg [i (.fld 0 E4),i (ld L0),i (.bin .neq L1 (v (.int .i64 11))),g L2 true (.mov E9),g L2 true (.call 188 [L3,(v (.int .i64 4))] false),i (.pick L2 L4 Vf)] [(17,L5)])
 (.cond E17 (.seq (.reg [] [(3,Vf)])
 .ret) .skip))
 (.seq (.reg [i (.bin .eql E7 V0)] [(18,L0)])
 (.cond E18 (.reg [i (.nilck E0),i (.fld 15 L0),i (.store 1 L1 E9)] []) (.reg [i (.nilck E0),i (.fld 16 L0),i (.store 1 L1 E9)] [])))))))
 (.reg [i (.bin .add E15 V1)] [(15,L0)]))))
def b_qdy:ACode:=
 (.seq (.reg [] [(3,Vf)])
 (.seq (.reg [i (.nilck E0),i (.fld 0 L0),i (ld L1),i (.idxs 12 L2 E1),i (.load true 12 L3),i (.box 12 (v (.agg [n0,n0,n0,n0,.nil0,nf,.nil0,.nil0,.nil0,.nil0,.nil0,n0]))),i (.store 12 L5 L4)] [(4,L5)])
 (.seq (.reg [i (.fld 0 E4),i (ld L0),i (.call 190 [L1] false)] [(5,L2)])
 (.seq (.seq (.reg [i (.bin .lss E5 V0),g L0 false (.mov E5),g L0 false (.mov E0),g L0 false (.nilck L2),g L0 false (.fld 2 L3),g L0 false (ld L4),g L0 false (.len L5),g L0 false (.bin .gtr L1 L6),i (.pick L0 Vt L7),g L8 false (.load true 12 E4),g L8 false (.call 189 [L9] false),g L8 false (.una .not L10),i (.pick L8 Vt L11)] [(11,L12)])
 (.cond E11 (.seq (.reg [] [(3,Vf)])
 .ret) .skip))
 (.seq (.reg [i (.build [n0,n0] [(0,1,v (.int .i64 (-1))),(1,1,v (.int .i64 (-1)))]),i (.box 2 (v (.agg [n0,n0]))),i (.store 2 L1 L0)] [(6,L1)])
 (.seq (.reg [i (.aslice 2 E6),i (.nilck E0),i (.fld 2 L1),i (ld L2),i (.nilck E0),i (.fld 2 L4),i (ld L5),i (.len L6),i (.bin .sub L7 E5),i (.slice 1 L3 (some L8) none),i (.copy 1 L0 L9)] [])
 (.seq (.seq (.reg [i (.load true 2 E6),i (.fld 1 E4),i (ld L1),i (.fld 2 E4),i (ld L3),i (.build [n0,n0] [(0,1,L2),(1,1,L4)]),i (.eqa true [0,0] L0 L5)] [(12,L6)])
 (.cond E12 (.seq (.reg [] [(3,Vf)])
 .ret) .skip))
 (.seq (.reg [i (.load true 12 E4),i (.nilck E0),i (.fld 3 L1),i (.store 12 L2 L0),i (.nilck E0),i (.fld 15 L4),i (.store 1 L5 Vn),i (.nilck E0),i (.fld 16 L7),i (.store 1 L8 Vn)] [])
 (.seq (.seq (.reg [i (.nilck E0),i (.fld 2 L0),i (ld L1),i (.nilck E0),i (.fld 2 L3),i (ld L4),i (.len L5),i (.bin .sub L6 E5),i (.slice 1 L2 (some L7) none),i (.len L8)] [(13,L8),(14,L9),(15,V0)])
 (.blk 0 (.loop [3,7,8,9,16,17,18] l_qdy_0)))
 (.seq (.reg [i (.fld 0 E4),i (ld L0),i (.bin .eql L1 (v (.int .i64 8))),g L2 false (.fld 0 E4),g L2 false (ld L3),g L2 false (.bin .eql L4 (v (.int .i64 10))),i (.pick L2 Vt L5)] [(10,L6)])
 (.seq (.seq (.reg [g E10 true (.mov E1),g E10 true (.mov E0),g E10 true (.nilck L1),g E10 true (.fld 0 L2),g E10 true (ld L3),g E10 true (.len L4),g E10 true (.bin .sub L5 V1),g E10 true (.bin .neq L0 L6),i (.pick E10 L7 Vf),g L8 false (.mov E2),g L8 false (.mov E0),g L8 false (.callv L9 [L10]),g L8 false (.una .not L11),i (.pick L8 Vt L12),g L13 false (.mov E0),g L13 false (.nilck L14),g L13 false (.fld 17 L15),g L13 false (ld L16),g L13 false (.len L17),g L13 false (.bin .gtr L18 (v (.int .i64 16))),i (.pick L13 Vt L19)] [(19,L20)])
 (.cond E19 (.seq (.reg [] [(3,Vf)])
 .ret) .skip))
 (.seq (.regd [i (.nilck E0),i (.fld 1 L0),i (ld L1),i (.nilck E0),i (.fld 17 L3),i (ld L4),i (.mkl 1 [L5]),i (.app 1 L2 L6),i (.nilck E0),i (.fld 2 L8),i (ld L9),i (.nilck E0),i (.fld 2 L11),i (ld L12),i (.len L13),i (.bin .sub L14 E5),i (.slice 1 L10 none (some L15)),i (.mkl 1 [E1]),i (.app 1 L16 L17),i (.nilck E0),i (.fld 1 L19),i (.store 1 L20 L7),i (.nilck E0),i (.fld 2 L22),i (.store 1 L23 L18)] [] [(8,0),(9,0),(10,0),(11,0),(12,0),(13,0),(14,0),(16,0)])
 (.seq (.reg [] [(3,Vt)])
 .ret)))))))))))))
def f_qdy:AFunc:=⟨20,3,.keep,[.env 3],b_qdy⟩
def b_qer:ACode:=
 (.seq (.reg [i (.mov Vn)] [(1,L0)])
 (.seq (.seq (.reg [i (.nils false E0)] [(2,L0)])
 (.cond E2 (.seq (.reg [i (.mov Vn)] [(1,L0)])
 .ret) .skip))
 (.seq (.reg [i (.mov (v .nil0)),i (.app 1 L0 E0)] [(1,L1)])
 .ret)))
def f_qer:AFunc:=⟨3,1,.fresh 1,[.env 1],b_qer⟩
def q_plan_some_0:ACode:=
 (.blk 1 (.seq (.reg [i (ld E4),i (.load true 3 E7),i (.callv L0 [L1,E8])] [(12,L2)])
 (.cond E12 (.reg [i (ld E6),i (.load true 3 E7),i (.mkl 3 [L1]),i (.app 3 L0 L2),i (.store 1 E6 L3)] []) .skip)))
def q_plan_some_0p:ACode:=
 (.seq (.reg [i (.box 3 (v (.agg [n0,n0,n0]))),i (.store 3 L0 E10)] [(7,L0)])
 (.reg [] [(8,E11)]))
def b_qdd:ACode:=
 (.seq (.reg [i (.box 1 E0),i (.box 1 E2),i (.mov Vn)] [(3,L0),(4,L1),(5,L2)])
 (.seq (.reg [i (.box 1 Vn)] [(6,L0)])
 (.seq (.seq (.lift 6 0 3 (.reg [i (lt E3),i (.call 488 [L0,E1] false)] [(9,L1)]))
 (.blk 0 (.rng 13 E9 487)))
 (.seq (.reg [i (ld E6)] [(5,L0)])
 .ret))))
def f_qdd:AFunc:=⟨13,3,.pure,[.env 5],b_qdd⟩
def r_plan_some_0:ARound:=⟨13,[10,11],q_plan_some_0p,q_plan_some_0⟩
def b_qcu:ACode:=
 (.seq (.reg [i (.box 3 E0)] [(4,L0),(5,Vf)])
 (.seq (.reg [i (ld E2),i (.bin .eql E1 L0),g L1 true (.fld 2 E4),g L1 true (ld L2),g L1 true (ld E3),g L1 true (.bin .eql L3 L4),i (.pick L1 L5 Vf)] [(5,L6)])
 .ret))
def f_qcu:AFunc:=⟨6,4,.pure,[.env 5],b_qcu⟩
def b_qcs:ACode:=
 (.seq (.reg [] [(1,Vf)])
 (.seq (.reg [i (.bin .geq E0 (v (.int .u32 1))),g L0 true (.mov E0),g L0 true (.bin .leq L1 (v (.int .u32 2147483647))),i (.pick L0 L2 Vf)] [(1,L3)])
 .ret))
def f_qcs:AFunc:=⟨2,1,.pure,[.env 1],b_qcs⟩
def b_qcw:ACode:=
 (.seq (.reg [i (.box 3 E0)] [(4,L0),(5,Vf)])
 (.seq (.reg [i (.fld 0 E4),i (ld L0),i (ld E2),i (.bin .eql L1 L2),g L3 true (.fld 1 E4),g L3 true (ld L4),g L3 true (ld E3),g L3 true (.bin .eql L5 L6),i (.pick L3 L7 Vf)] [(5,L8)])
 .ret))
def f_qcw:AFunc:=⟨6,4,.pure,[.env 5],b_qcw⟩
def b_qam:ACode:=
 (.seq (.reg [] [(2,V0)])
 (.seq (.seq (.reg [i (.bin .lss E1 V0),g L0 false (.mov E1),g L0 false (.mov E0),g L0 false (.len L2),g L0 false (.bin .geq L1 L3),i (.pick L0 Vt L4)] [(7,L5)])
 (.cond E7 (.seq (.reg [] [(2,V0)])
 .ret) .skip))
 (.seq (.reg [i (.idxs 12 E0 E1),i (.load true 12 L0),i (.box 12 (v (.agg [n0,n0,n0,n0,.nil0,nf,.nil0,.nil0,.nil0,.nil0,.nil0,n0]))),i (.store 12 L2 L1)] [(3,L2)])
 (.seq (.seq (.reg [i (.fld 0 E3),i (ld L0),i (.call 216 [L1] false)] [(8,L2)])
 (.blk 0 (.seq (.reg [i (.bin .eql E8 V0)] [(9,L0)])
 (.cond E9 (.seq (.reg [i (.fld 1 E3),i (ld L0),i (.bin .eql L1 (v (.int .i64 (-1)))),g L2 true (.fld 2 E3),g L2 true (ld L3),g L2 true (.bin .eql L4 (v (.int .i64 (-1)))),i (.pick L2 L5 Vf)] [(10,L6)])
 (.cond E10 (.seq (.reg [] [(2,V1)])
 .ret) .skip)) (.seq (.reg [i (.bin .eql E8 V1)] [(11,L0)])
 (.cond E11 (.seq (.reg [i (.bin .sub E1 V1),i (.call 123 [E0,L0] false)] [(4,L1)])
 (.seq (.reg [i (.fld 1 E3),i (ld L0),i (.bin .sub E1 V1),i (.bin .eql L1 L2),g L3 true (.fld 2 E3),g L3 true (ld L4),g L3 true (.bin .eql L5 (v (.int .i64 (-1)))),i (.pick L3 L6 Vf),g L7 true (.mov E4),g L7 true (.bin .gtr L8 V0),i (.pick L7 L9 Vf)] [(12,L10)])
 (.cond E12 (.seq (.reg [i (.bin .add E4 V1)] [(2,L0)])
 .ret) .skip))) (.seq (.reg [i (.bin .eql E8 (v (.int .i64 2)))] [(13,L0)])
 (.cond E13 (.seq (.reg [i (.bin .sub E1 V1),i (.call 123 [E0,L0] false)] [(5,L1)])
 (.seq (.seq (.reg [i (.bin .eql E5 V0),g L0 false (.fld 2 E3),g L0 false (ld L1),g L0 false (.mov E1),g L0 false (.bin .sub L3 V1),g L0 false (.bin .neq L2 L4),i (.pick L0 Vt L5),g L6 false (.fld 1 E3),g L6 false (ld L7),g L6 false (.mov E1),g L6 false (.bin .sub L9 V1),g L6 false (.mov E5),g L6 false (.bin .sub L10 L11),g L6 false (.bin .neq L8 L12),i (.pick L6 Vt L13)] [(14,L14)])
 (.cond E14 (.seq (.reg [] [(2,V0)])
 .ret) .skip))
 (.seq (.reg [i (.fld 1 E3),i (ld L0),i (.call 123 [E0,L1] false)] [(6,L2)])
 (.seq (.reg [i (.bin .gtr E6 V0)] [(15,L0)])
 (.cond E15 (.seq (.reg [i (.bin .add E6 E5),i (.bin .add L0 V1)] [(2,L1)])
 .ret) .skip))))) .skip))))))))
 (.seq (.reg [] [(2,V0)])
 .ret)))))
def f_qam:AFunc:=⟨16,2,.pure,[.env 2],b_qam⟩
def b_qak:ACode:=
 (.seq (.reg [i (.box 12 E0)] [(1,L0),(2,Vf)])
 (.seq (.seq (.reg [i (.fld 0 E1),i (ld L0)] [(3,L1)])
 (.blk 0 (.seq (.reg [i (.bin .eql E3 (v (.int .i64 9)))] [(4,L0)])
 (.cond E4 (.reg [i (.fld 0 E1),i (.store 1 L0 V1)] []) (.seq (.seq (.reg [i (.bin .eql E3 (v (.int .i64 10)))] [(5,L0)])
 (.cond E5 .skip (.reg [i (.bin .eql E3 (v (.int .i64 11)))] [(5,L0)])))
 (.cond E5 (.reg [i (.fld 0 E1),i (.store 1 L0 (v (.int .i64 4)))] []) .skip))))))
 (.seq (.reg [i (.load true 12 E1),i (.call 217 [L0] false)] [(2,L1)])
 .ret)))
def f_qak:AFunc:=⟨6,1,.pure,[.env 2],b_qak⟩
def l_qai_0:ACode:=
 (.seq (.reg [i (.bin .lss E8 E7)] [(9,L0)])
 (.seq (.cond E9 .skip (.exit 0))
 (.seq (.blk 1 (.seq (.reg [i (.idxs 1 E6 E8),i (ld L0)] [(5,L1)])
 (.reg [g E4 true (.mov E5),g E4 true (.bin .geq L0 V0),i (.pick E4 L1 Vf),g L2 true (.mov E5),g L2 true (.bin .leq L3 (v (.int .i64 4))),i (.pick L2 L4 Vf)] [(4,L5)])))
 (.reg [i (.bin .add E8 V1)] [(8,L0)]))))
def b_qai:ACode:=
 (.seq (.reg [i (.box 12 E0),i (.mov Vn)] [(1,L0),(2,L1),(3,Vf)])
 (.seq (.reg [i (.fld 3 E1),i (ld L0),i (.bin .geq L1 V0),g L2 true (.fld 3 E1),g L2 true (ld L3),g L2 true (.bin .lss L4 (v (.int .i64 30))),i (.pick L2 L5 Vf),g L6 true (.fld 4 E1),g L6 true (ld L7),g L6 true (.len L8),g L6 true (.bin .geq L9 V1),i (.pick L6 L10 Vf),g L11 true (.fld 4 E1),g L11 true (ld L12),g L11 true (.len L13),g L11 true (.bin .leq L14 (v (.int .i64 16))),i (.pick L11 L15 Vf)] [(4,L16)])
 (.seq (.seq (.reg [i (.fld 4 E1),i (ld L0),i (.len L1)] [(6,L1),(7,L2),(8,V0)])
 (.blk 0 (.loop [5,9] l_qai_0)))
 (.seq (.reg [i (.fld 4 E1),i (ld L0)] [(2,L1),(3,E4)])
 .ret))))
def f_qai:AFunc:=⟨10,1,.trunc,[.env 2,.env 3],b_qai⟩
def l_qaj_0:ACode:=
 (.seq (.reg [i (.bin .lss E19 E18)] [(20,L0)])
 (.seq (.cond E20 .skip (.exit 2))
 (.seq (.blk 3 (.seq (.reg [i (.idxs 1 E17 E19),i (ld L0)] [(10,L1)])
 (.seq (.reg [i (.build [n0,n0,n0,n0,n0,n0,.int .u64 0,.str []] [(0,1,V1)]),i (.box 8 (v (.agg [n0,n0,n0,n0,n0,n0,.int .u64 0,.str []]))),i (.store 8 L1 L0)] [(11,L1)])
 (.seq (.seq (.reg [i (.bin .gtr E10 V0)] [(21,L0)])
 (.cond E21 (.reg [i (.bin .sub E10 V1),i (.build [n0,n0,n0,n0,n0,n0,.int .u64 0,.str []] [(0,1,v (.int .i64 2)),(3,1,L0)]),i (.store 8 E11 L1)] []) .skip))
 (.reg [i (.fld 9 E9),i (ld L0),i (.load true 8 E11),i (.call 5 [L2,Vn] false),i (.mkl 1 [L3]),i (.app 1 L1 L4),i (.fld 9 E9),i (.store 1 L6 L5)] [])))))
 (.reg [i (.bin .add E19 V1)] [(19,L0)]))))
def l_qaj_1:ACode:=
 (.seq (.reg [i (.bin .lss E14 E13)] [(15,L0)])
 (.seq (.cond E15 .skip (.exit 0))
 (.seq (.blk 1 (.seq (.reg [i (.idxs 1 E12 E14),i (ld L0)] [(6,E14),(7,L1)])
 (.seq (.seq (.reg [i (.call 219 [E7] false)] [(16,L0)])
 (.cond E16 (.seq (.reg [i (.mov Vn)] [(3,L0),(4,Vf)])
 .ret) .skip))
 (.seq (.reg [i (.mkl 1 [V1,(v (.int .i64 2)),(v (.int .i64 3))]),i (.build [n0,n0,n0,n0,.nil0,nf,.nil0,.nil0,.nil0,.nil0,.nil0,n0] [(0,1,V1),(1,1,v (.int .i64 (-1))),(2,1,v (.int .i64 (-1))),(4,1,L0)]),i (.box 12 (v (.agg [n0,n0,n0,n0,.nil0,nf,.nil0,.nil0,.nil0,.nil0,.nil0,n0]))),i (.store 12 L2 L1)] [(8,L2)])
 (.seq (.reg [i (.fld 0 E5),i (ld L0),i (.len L1),i (.build [n0,n0,n0,n0,.nil0,nf,.nil0,.nil0,.nil0,.nil0,.nil0,n0] [(0,1,v (.int .i64 5)),(1,1,L2),(2,1,v (.int .i64 (-1)))]),i (.box 12 (v (.agg [n0,n0,n0,n0,.nil0,nf,.nil0,.nil0,.nil0,.nil0,.nil0,n0]))),i (.store 12 L4 L3)] [(9,L4)])
 (.seq (.seq (.lift 9 9 1 (.reg [i (.len E7)] [(17,E7),(18,L0),(19,V0)]))
 (.blk 2 (.loop [10,11,20,21] l_qaj_0)))
 (.seq (.reg [i (.fld 0 E5),i (ld L0),i (.load true 12 E8),i (.load true 12 E9),i (.mkl 12 [L2,L3]),i (.app 12 L1 L4),i (.fld 0 E5),i (.store 1 L6 L5)] [])
 (.seq (.reg [i (.bin .eql E6 V0)] [(22,L0)])
 (.cond E22 (.reg [i (.fld 0 E5),i (ld L0),i (.len L1),i (.bin .sub L2 V1),i (.fld 1 E2),i (.store 1 L4 L3)] []) (.reg [i (.fld 0 E5),i (ld L0),i (.len L1),i (.bin .sub L2 V1),i (.fld 2 E2),i (.store 1 L4 L3)] []))))))))))
 (.reg [i (.bin .add E14 V1)] [(14,L0)]))))
def b_qaj:ACode:=
 (.seq (.reg [i (.box 12 E0),i (.mov Vn)] [(2,L0),(3,L1),(4,Vf)])
 (.seq (.reg [i (.box 1 (v (.agg [.nil0])))] [(5,L0)])
 (.seq (.seq (.lift 5 0 12 (.reg [i (.len E1)] [(12,E1),(13,L0),(14,V0)]))
 (.blk 0 (.loop [3,4,6,7,8,9,10,11,15,16,17,18,19,20,21,22] l_qaj_1)))
 (.seq (.reg [i (.fld 0 E5),i (ld L0),i (.load true 12 E2),i (.mkl 12 [L2]),i (.app 12 L1 L3),i (.fld 0 E5),i (.store 1 L5 L4)] [])
 (.seq (.reg [i (lt E5),i (.fld 0 E5),i (ld L1),i (.len L2),i (.bin .sub L3 V1),i (.call 218 [L0,L4] false),i (.ext 0 L5),i (.ext 1 L5)] [(3,L6),(4,L7)])
 .ret)))))
def f_qaj:AFunc:=⟨23,2,.trunc,[.env 3,.env 4],b_qaj⟩
def l_qal_0:ACode:=
 (.seq (.reg [i (.bin .lss E9 E8)] [(10,L0)])
 (.seq (.cond E10 .skip (.exit 0))
 (.seq (.blk 1 (.seq (.reg [i (.idxs 2 E7 E9),i (.load true 2 L0),i (.box 2 (v (.agg [n0,.nil0]))),i (.store 2 L2 L1)] [(6,L2),(5,E9)])
 (.seq (.reg [i (.fld 0 E6),i (ld L0),i (.bin .eql L1 (v (.int .i64 3)))] [(11,L2)])
 (.cond E11 (.reg [i (.fld 7 E2),i (ld L0),i (.len L1),i (.bin .add L2 E5),i (.idxs 1 E4 L3),i (.store 1 L4 (v (.int .i64 4)))] []) .skip))))
 (.reg [i (.bin .add E9 V1)] [(9,L0)]))))
def b_qal:ACode:=
 (.seq (.reg [i (.box 12 E0),i (.mov Vn)] [(2,L0),(3,L1)])
 (.seq (.reg [i (.mknil 1),i (.app 1 L0 E1)] [(4,L1)])
 (.seq (.seq (.reg [i (.fld 8 E2),i (ld L0),i (.len L1)] [(7,L1),(8,L2),(9,V0)])
 (.blk 0 (.loop [5,6,10,11] l_qal_0)))
 (.seq (.reg [] [(3,E4)])
 .ret))))
def f_qal:AFunc:=⟨12,2,.pure,[.env 3],b_qal⟩
def l_qah_0:ACode:=
 (.seq (.reg [i (.bin .lss E19 E18)] [(20,L0)])
 (.seq (.cond E20 .skip (.exit 2))
 (.seq (.blk 3 (.seq (.reg [i (.idxs 2 E17 E19),i (.load true 2 L0),i (.box 2 (v (.agg [n0,.nil0]))),i (.store 2 L2 L1)] [(9,L2),(8,E19)])
 (.seq (.reg [i (.fld 7 E2),i (ld L0),i (.len L1),i (.bin .add L2 E8),i (.idxs 1 E1 L3),i (ld L4)] [(10,L5)])
 (.seq (.seq (.reg [i (.fld 1 E9),i (.fld 0 L0),i (ld L1),i (.len L2),i (.bin .gtr L3 V0)] [(21,L4)])
 (.cond E21 (.seq (.reg [i (.mov Vn)] [(3,L0),(4,Vf)])
 .ret) .skip))
 (.seq (.seq (.reg [i (.fld 0 E9),i (ld L0)] [(22,L1)])
 (.blk 4 (.seq (.seq (.reg [i (.bin .eql E22 V1)] [(23,L0)])
 (.cond E23 .skip (.reg [i (.bin .eql E22 (v (.int .i64 2)))] [(23,L0)])))
 (.cond E23 (.seq (.reg [i (.bin .neq E10 (v (.int .i64 2)))] [(24,L0)])
 (.cond E24 (.seq (.reg [i (.mov Vn)] [(3,L0),(4,Vf)])
 .ret) .skip)) (.seq (.reg [i (.bin .eql E22 (v (.int .i64 3)))] [(25,L0)])
 (.cond E25 (.seq (.seq (.reg [i (.bin .neq E10 (v (.int .i64 4)))] [(26,L0)])
 (.cond E26 (.seq (.reg [i (.mov Vn)] [(3,L0),(4,Vf)])
 .ret) .skip))
 (.reg [] [(10,v (.int .i64 2))])) (.seq (.seq (.reg [i (.bin .eql E22 (v (.int .i64 4)))] [(27,L0)])
 (.cond E27 .skip (.reg [i (.bin .eql E22 (v (.int .i64 5)))] [(27,L0)])))
 (.cond E27 (.seq (.reg [i (.bin .eql E10 (v (.int .i64 4)))] [(28,L0)])
 (.cond E28 (.seq (.reg [i (.mov Vn)] [(3,L0),(4,Vf)])
 .ret) .skip)) (.seq (.reg [i (.mov Vn)] [(3,L0),(4,Vf)])
 .ret)))))))))
 (.reg [i (.mkl 1 [E10]),i (.app 1 E5 L0)] [(5,L1)]))))))
 (.reg [i (.bin .add E19 V1)] [(19,L0)]))))
def l_qah_1:ACode:=
 (.seq (.reg [i (.bin .lss E14 E13)] [(15,L0)])
 (.seq (.cond E15 .skip (.exit 0))
 (.seq (.blk 1 (.seq (.reg [i (.idxs 1 E12 E14),i (ld L0)] [(6,E14),(7,L1)])
 (.seq (.seq (.reg [i (.bin .neq E7 E6),g L0 false (.mov E1),g L0 false (.mov E6),g L0 false (.idxs 1 L1 L2),g L0 false (ld L3),g L0 false (.bin .eql L4 (v (.int .i64 4))),i (.pick L0 Vt L5)] [(16,L6)])
 (.cond E16 (.seq (.reg [i (.mov Vn)] [(3,L0),(4,Vf)])
 .ret) .skip))
 (.reg [i (.idxs 1 E1 E6),i (ld L0),i (.mkl 1 [L1]),i (.app 1 E5 L2)] [(5,L3)]))))
 (.reg [i (.bin .add E14 V1)] [(14,L0)]))))
def b_qah:ACode:=
 (.seq (.reg [i (.box 12 E0),i (.mov Vn)] [(2,L0),(3,L1),(4,Vf)])
 (.seq (.seq (.reg [i (.fld 7 E2),i (ld L0),i (.len L1),i (.bin .gtr L2 (v (.int .i64 3))),g L3 false (.fld 8 E2),g L3 false (ld L4),g L3 false (.len L5),g L3 false (.bin .gtr L6 (v (.int .i64 12))),i (.pick L3 Vt L7),g L8 false (.fld 7 E2),g L8 false (ld L9),g L8 false (.len L10),g L8 false (.fld 8 E2),g L8 false (ld L12),g L8 false (.len L13),g L8 false (.bin .add L11 L14),g L8 false (.mov E1),g L8 false (.len L16),g L8 false (.bin .neq L15 L17),i (.pick L8 Vt L18),g L19 false (.mov E1),g L19 false (.len L20),g L19 false (.bin .eql L21 V0),i (.pick L19 Vt L22)] [(11,L23)])
 (.cond E11 (.seq (.reg [i (.mov Vn)] [(3,L0),(4,Vf)])
 .ret) .skip))
 (.seq (.reg [i (.mknil 1)] [(5,L0)])
 (.seq (.seq (.reg [i (.fld 7 E2),i (ld L0),i (.len L1)] [(12,L1),(13,L2),(14,V0)])
 (.blk 0 (.loop [3,4,6,7,15,16] l_qah_1)))
 (.seq (.seq (.reg [i (.fld 8 E2),i (ld L0),i (.len L1)] [(17,L1),(18,L2),(19,V0)])
 (.blk 2 (.loop [3,4,8,9,10,20,21,22,23,24,25,26,27,28] l_qah_0)))
 (.seq (.reg [] [(3,E5),(4,Vt)])
 .ret))))))
def f_qah:AFunc:=⟨29,2,.pure,[.env 3,.env 4],b_qah⟩
def l_qap_0:ACode:=
 (.seq (.seq (.reg [i (.fld 0 E2),i (ld L0),i (.idxs 4 L1 E4),i (.fld 0 L2),i (ld L3),i (.len L4),i (.bin .lss E5 L5)] [(7,L6)])
 (.cond E7 .skip (.exit 2)))
 (.seq (.blk 3 (.seq (.reg [i (.fld 0 E2),i (ld L0),i (.idxs 4 L1 E4),i (.fld 0 L2),i (ld L3),i (.idxs 12 L4 E5),i (.fld 0 L5),i (ld L6),i (.bin .eql L7 (v (.int .i64 9))),g L8 true (.fld 0 E2),g L8 true (ld L9),g L8 true (.mov E4),g L8 true (.idxs 4 L10 L11),g L8 true (.fld 0 L12),g L8 true (ld L13),g L8 true (.mov E5),g L8 true (.idxs 12 L14 L15),g L8 true (.fld 3 L16),g L8 true (ld L17),g L8 true (.mov E1),g L8 true (.bin .eql L18 L19),i (.pick L8 L20 Vf)] [(8,L21)])
 (.cond E8 (.seq (.reg [] [(3,E4)])
 .ret) .skip)))
 (.reg [i (.bin .add E5 V1)] [(5,L0)])))
def l_qap_1:ACode:=
 (.seq (.seq (.reg [i (.fld 0 E2),i (ld L0),i (.len L1),i (.bin .lss E4 L2)] [(6,L3)])
 (.cond E6 .skip (.exit 0)))
 (.seq (.blk 1 (.seq (.reg [] [(5,V0)])
 (.blk 2 (.loop [3,7,8] l_qap_0))))
 (.reg [i (.bin .add E4 V1)] [(4,L0)])))
def b_qap:ACode:=
 (.seq (.reg [i (.box 1 E0)] [(2,L0),(3,V0)])
 (.seq (.seq (.reg [] [(4,V0)])
 (.blk 0 (.loop [3,5,6,7,8] l_qap_1)))
 (.seq (.reg [] [(3,v (.int .i64 (-1)))])
 .ret)))
def f_qap:AFunc:=⟨9,2,.pure,[.env 3],b_qap⟩
def l_qas_0:ACode:=
 (.seq (.reg [i (.bin .lss E6 E5)] [(7,L0)])
 (.seq (.cond E7 .skip (.exit 0))
 (.seq (.blk 1 (.seq (.reg [] [(3,E6)])
 (.seq (.reg [i (.idxs 3 E0 E3),i (.load true 3 L0),i (.idxs 3 E1 E3),i (.load true 3 L2),i (.call 453 [L1,L3] false),i (.una .not L4)] [(8,L5)])
 (.cond E8 (.seq (.reg [] [(2,Vf)])
 .ret) .skip))))
 (.reg [i (.bin .add E6 V1)] [(6,L0)]))))
def b_qas:ACode:=
 (.seq (.reg [] [(2,Vf)])
 (.seq (.seq (.reg [i (.len E0),i (.len E1),i (.bin .neq L0 L1)] [(4,L2)])
 (.cond E4 (.seq (.reg [] [(2,Vf)])
 .ret) .skip))
 (.seq (.seq (.reg [i (.len E0)] [(5,L0),(6,V0)])
 (.blk 0 (.loop [2,3,7,8] l_qas_0)))
 (.seq (.reg [] [(2,Vt)])
 .ret))))
def f_qas:AFunc:=⟨9,2,.pure,[.env 2],b_qas⟩
def l_qy_0:ACode:=
 (.seq (.seq (.reg [i (.len E0),i (.bin .lss E3 L0)] [(5,L1)])
 (.cond E5 .skip (.exit 0)))
 (.seq (.blk 1 (.seq (.reg [i (.idxs 1 E0 E3),i (ld L0),i (.idxs 1 E1 E3),i (ld L2),i (.bin .neq L1 L3)] [(6,L4)])
 (.cond E6 (.seq (.reg [] [(2,Vf)])
 .ret) .skip)))
 (.reg [i (.bin .add E3 V1)] [(3,L0)])))
def b_qy:ACode:=
 (.seq (.reg [] [(2,Vf)])
 (.seq (.seq (.reg [i (.len E0),i (.len E1),i (.bin .neq L0 L1)] [(4,L2)])
 (.cond E4 (.seq (.reg [] [(2,Vf)])
 .ret) .skip))
 (.seq (.seq (.reg [] [(3,V0)])
 (.blk 0 (.loop [2,5,6] l_qy_0)))
 (.seq (.reg [] [(2,Vt)])
 .ret))))
def f_qy:AFunc:=⟨7,2,.pure,[.env 2],b_qy⟩
def l_qx_0:ACode:=
 (.seq (.seq (.reg [i (.fld 0 E2),i (ld L0),i (.len L1),i (.bin .lss E5 L2)] [(7,L3)])
 (.cond E7 .skip (.exit 0)))
 (.seq (.blk 1 (.seq (.reg [i (.fld 0 E2),i (ld L0),i (.idxs 12 L1 E5),i (.load true 12 L2),i (.fld 0 E3),i (ld L4),i (.idxs 12 L5 E5),i (.load true 12 L6),i (.call 484 [L3,L7] false),i (.una .not L8)] [(8,L9)])
 (.cond E8 (.seq (.reg [] [(4,Vf)])
 .ret) .skip)))
 (.reg [i (.bin .add E5 V1)] [(5,L0)])))
def b_qx:ACode:=
 (.seq (.reg [i (.box 1 E0),i (.box 1 E1)] [(2,L0),(3,L1),(4,Vf)])
 (.seq (.seq (.reg [i (.fld 0 E2),i (ld L0),i (.len L1),i (.fld 0 E3),i (ld L3),i (.len L4),i (.bin .neq L2 L5)] [(6,L6)])
 (.cond E6 (.seq (.reg [] [(4,Vf)])
 .ret) .skip))
 (.seq (.seq (.reg [] [(5,V0)])
 (.blk 0 (.loop [4,7,8] l_qx_0)))
 (.seq (.reg [] [(4,Vt)])
 .ret))))
def f_qx:AFunc:=⟨9,2,.pure,[.env 4],b_qx⟩
def l_qgd_0:ACode:=
 (.seq (.reg [i (.bin .lss E17 E16)] [(18,L0)])
 (.seq (.cond E18 .skip (.exit 2))
 (.seq (.blk 3 (.seq (.reg [i (.idxs 9 E15 E17),i (.load true 9 L0),i (.box 9 (v (.agg [n0,.int .u32 0,.int .u64 0,.nil0,.int .u64 0,.int .u64 0,n0,nf,.nil0]))),i (.store 9 L2 L1)] [(8,L2),(7,E17)])
 (.seq (.reg [i (.load true 13 E1),i (.load true 9 E8),i (.call 490 [L0,L1] false),i (.una .not L2),g L3 false (.mov E7),g L3 false (.bin .gtr L4 V0),g L3 false (.mov L5),g L6 true (.fld 10 E1),g L6 true (ld L7),g L6 true (.mov E7),g L6 true (.bin .sub L9 V1),g L6 true (.idxs 9 L8 L10),g L6 true (.fld 0 L11),g L6 true (ld L12),g L6 true (.fld 0 E8),g L6 true (ld L14),g L6 true (.bin .geq L13 L15),g L3 false (.pick L6 L16 Vf),i (.pick L3 Vt L17)] [(19,L18)])
 (.cond E19 (.seq (.reg [] [(2,Vf)])
 .ret) .skip))))
 (.reg [i (.bin .add E17 V1)] [(17,L0)]))))
def l_qgd_1:ACode:=
 (.seq (.reg [i (.bin .lss E12 E11)] [(13,L0)])
 (.seq (.cond E13 .skip (.exit 0))
 (.seq (.blk 1 (.seq (.reg [i (.idxs 9 E10 E12),i (.load true 9 L0),i (.box 9 (v (.agg [n0,n0,.int .u32 0,.int .u64 0,.nil0,.nil0,n0,nf,.nil0]))),i (.store 9 L2 L1)] [(6,L2),(5,E12)])
 (.seq (.reg [i (.load true 13 E1),i (.load true 9 E6),i (.call 491 [L0,L1] false),i (.una .not L2),g L3 false (.mov E5),g L3 false (.bin .gtr L4 V0),g L3 false (.mov L5),g L6 true (.fld 9 E1),g L6 true (ld L7),g L6 true (.mov E5),g L6 true (.bin .sub L9 V1),g L6 true (.idxs 9 L8 L10),g L6 true (.fld 0 L11),g L6 true (ld L12),g L6 true (.fld 0 E6),g L6 true (ld L14),g L6 true (.bin .gtr L13 L15),g L6 true (.mov L16),g L17 false (.fld 9 E1),g L17 false (ld L18),g L17 false (.mov E5),g L17 false (.bin .sub L20 V1),g L17 false (.idxs 9 L19 L21),g L17 false (.fld 0 L22),g L17 false (ld L23),g L17 false (.fld 0 E6),g L17 false (ld L25),g L17 false (.bin .eql L24 L26),g L17 false (.mov L27),g L28 true (.fld 9 E1),g L28 true (ld L29),g L28 true (.mov E5),g L28 true (.bin .sub L31 V1),g L28 true (.idxs 9 L30 L32),g L28 true (.fld 1 L33),g L28 true (ld L34),g L28 true (.fld 1 E6),g L28 true (ld L36),g L28 true (.bin .geq L35 L37),g L17 false (.pick L28 L38 Vf),g L6 true (.pick L17 Vt L39),g L3 false (.pick L6 L40 Vf),i (.pick L3 Vt L41)] [(14,L42)])
 (.cond E14 (.seq (.reg [] [(2,Vf)])
 .ret) .skip))))
 (.reg [i (.bin .add E12 V1)] [(12,L0)]))))
def b_qgd:ACode:=
 (.seq (.reg [i (.box 13 E0)] [(1,L0),(2,Vf)])
 (.seq (.reg [i (.fld 0 E1),i (ld L0),i (.bin .geq L1 V1),g L2 true (.fld 0 E1),g L2 true (ld L3),g L2 true (.bin .leq L4 (v (.int .i64 12))),i (.pick L2 L5 Vf),g L6 true (.fld 1 E1),g L6 true (ld L7),g L6 true (.bin .geq L8 V1),i (.pick L6 L9 Vf),g L10 true (.fld 1 E1),g L10 true (ld L11),g L10 true (.bin .leq L12 (v (.int .i64 8))),i (.pick L10 L13 Vf),g L14 true (.fld 2 E1),g L14 true (ld L15),g L14 true (.bin .geq L16 V0),i (.pick L14 L17 Vf),g L18 true (.fld 2 E1),g L18 true (ld L19),g L18 true (.bin .lss L20 (v (.int .i64 30))),i (.pick L18 L21 Vf),g L22 true (.fld 3 E1),g L22 true (ld L23),g L22 true (.bin .geq L24 V0),i (.pick L22 L25 Vf),g L26 true (.fld 3 E1),g L26 true (ld L27),g L26 true (.fld 1 E1),g L26 true (ld L29),g L26 true (.bin .leq L28 L30),i (.pick L26 L31 Vf)] [(3,L32)])
 (.seq (.seq (.reg [i (.fld 4 E1),i (.fld 0 L0),i (ld L1),i (.call 37 [L2] false),i (.ext 0 L3),i (.ext 1 L3),i (.ext 2 L3)] [(4,L6)])
 (.seq (.reg [i (.bin .neq E4 V0),g L0 false (.mov E3),g L0 false (.una .not L1),i (.pick L0 Vt L2),g L3 false (.fld 11 E1),g L3 false (ld L4),g L3 false (.call 492 [L5] false),g L3 false (.una .not L6),i (.pick L3 Vt L7)] [(9,L8)])
 (.cond E9 (.seq (.reg [] [(2,Vf)])
 .ret) .skip)))
 (.seq (.seq (.reg [i (.fld 9 E1),i (ld L0),i (.len L1)] [(10,L1),(11,L2),(12,V0)])
 (.blk 0 (.loop [2,5,6,13,14] l_qgd_1)))
 (.seq (.seq (.reg [i (.fld 10 E1),i (ld L0),i (.len L1)] [(15,L1),(16,L2),(17,V0)])
 (.blk 2 (.loop [2,7,8,18,19] l_qgd_0)))
 (.seq (.reg [i (.load true 13 E1),i (.call 489 [L0] false)] [(2,L1)])
 .ret))))))
def f_qgd:AFunc:=⟨20,1,.pure,[.env 2],b_qgd⟩
def b_qfs:ACode:=
 (.seq (.reg [i (.box 13 E0),i (.box 13 (v (.agg [n0,n0,n0,n0,.nil0,n0,n0,.nil0,n0,.nil0,.nil0,.nil0,n0])))] [(1,L0),(2,L1)])
 (.seq (.regd [i (.fld 9 E1),i (ld L0),i (.call 493 [L1] true),i (.fld 10 E1),i (ld L3),i (.call 494 [L4] true),i (.fld 9 E1),i (.store 1 L6 L2),i (.fld 10 E1),i (.store 1 L8 L5)] [] [(3,0),(4,0),(6,3)])
 (.seq (.reg [i (.load true 13 E1),i (.store 13 E2 L0)] [])
 .ret)))
def f_qfs:AFunc:=⟨3,1,.keep,[.cell true 13 2],b_qfs⟩
def b_qfu:ACode:=
 (.seq (.reg [i (.box 1 E1)] [(2,L0),(3,Vf)])
 (.seq (.reg [i (.mkfn 495 [] [E2]),i (.call 496 [E0,L0] false),i (.una .not L1)] [(3,L2)])
 .ret))
def f_qfu:AFunc:=⟨4,2,.pure,[.env 3],b_qfu⟩
def b_qed:ACode:=
 (.seq (.reg [i (.mov Vn)] [(1,L0),(2,V0)])
 (.seq (.seq (.reg [i (.call 79 [E0] false)] [(3,L0)])
 (.seq (.reg [i (.bin .neq E3 V0)] [(4,L0)])
 (.cond E4 (.seq (.reg [i (.mov Vn)] [(1,L0),(2,E3)])
 .ret) .skip)))
 (.seq (.reg [i (.call 78 [E0] false),i (.call 29 [L0] false),i (.ext 0 L1),i (.ext 1 L1)] [(1,L2),(2,L3)])
 .ret)))
def f_qed:AFunc:=⟨5,1,.pure,[.env 1,.env 2],b_qed⟩
def l_qbh_0:ACode:=
 (.seq (.reg [i (.bin .lss E25 E24)] [(26,L0)])
 (.seq (.cond E26 .skip (.exit 2))
 (.seq (.blk 3 (.seq (.reg [i (.idxs 12 E23 E25),i (.load true 12 L0),i (.box 12 (v (.agg [n0,n0,n0,n0,.nil0,nf,.nil0,.nil0,.nil0,.nil0,.nil0,n0]))),i (.store 12 L2 L1)] [(13,L2)])
 (.seq (.reg [i (.fld 0 E13),i (ld L0),i (.look (.nilf) false E11 L1),i (.load true 12 E13),i (.callv L2 [E8,L3]),i (.ext 0 L4),i (.ext 1 L4)] [(14,L5),(15,L6)])
 (.seq (.blk 4 (.seq (.reg [i (.bin .neq E15 V0)] [(27,L0)])
 (.cond E27 (.reg [] [(12,v (.int .i64 140))]) (.seq (.reg [i (.len E14),i (.bin .gtr L0 (v (.int .i64 200)))] [(28,L1)])
 (.cond E28 (.reg [] [(12,v (.int .i64 300))]) .skip)))))
 (.seq (.seq (.reg [i (.bin .neq E12 V0)] [(29,L0)])
 (.cond E29 (.exit 2) .skip))
 (.reg [i (.nilck E8),i (.fld 7 L0),i (ld L1),i (.mkl 1 [E14]),i (.app 1 L2 L3),i (.nilck E8),i (.fld 7 L5),i (.store 1 L6 L4)] []))))))
 (.reg [i (.bin .add E25 V1)] [(25,L0)]))))
def l_qbh_1:ACode:=
 (.seq (.reg [i (.bin .lss E19 E18)] [(20,L0)])
 (.seq (.cond E20 .skip (.exit 0))
 (.seq (.blk 1 (.seq (.reg [i (.idxs 12 E17 E19),i (.load true 12 L0),i (.box 12 (v (.agg [n0,n0,n0,n0,.nil0,nf,.nil0,.nil0,.nil0,.nil0,.nil0,n0]))),i (.store 12 L2 L1)] [(9,L2)])
 (.seq (.seq (.reg [i (.fld 1 E9),i (ld L0),i (.bin .geq L1 V0)] [(21,L2)])
 (.cond E21 (.exit 1) .skip))
 (.seq (.reg [i (.load true 12 E9),i (.call 36 [E8,L0] false),i (.ext 0 L1),i (.ext 1 L1)] [(10,L3)])
 (.seq (.reg [i (.una .not E10)] [(22,L0)])
 (.cond E22 (.seq (.reg [i (.mov Vn)] [(4,L0),(5,v (.int .i64 2))])
 .ret) .skip))))))
 (.reg [i (.bin .add E19 V1)] [(19,L0)]))))
def b_qbh:ACode:=
 (.seq (.reg [i (.box 4 E0),i (.mov Vn)] [(3,L0),(4,L1),(5,V0)])
 (.scope (.seq (.reg [i (.fld 0 E3),i (ld L0),i (.call 37 [L1] false),i (.ext 0 L2),i (.ext 1 L2),i (.ext 2 L2)] [(6,L3),(7,L5)])
 (.seq (.seq (.reg [i (.bin .neq E7 V0)] [(16,L0)])
 (.cond E16 (.seq (.reg [i (.mov Vn)] [(4,L0),(5,E7)])
 .ret) .skip))
 (.seq (.reg [i (.load true 4 E3),i (.build [.nil0,n0,n0,.nil0,.nil0,.nil0,.nil0,.nil0] [(0,4,L0),(4,1,E1),(5,1,E2),(6,1,E6)]),i (.box 8 L1)] [(8,L2)])
 (.seq (.seq (.lift 8 7 1 (.reg [i (.nilck E8),i (.fld 0 L0),i (.fld 0 L1),i (ld L2),i (.len L3)] [(17,L3),(18,L4),(19,V0)]))
 (.blk 0 (.loop [4,5,9,10,20,21,22] l_qbh_1)))
 (.seq (.reg [i (.call 35 [] false)] [(11,L0)])
 (.seq (.reg [] [(12,V0)])
 (.seq (.seq (.reg [i (.nilck E8),i (.fld 0 L0),i (.fld 0 L1),i (ld L2),i (.len L3)] [(23,L3),(24,L4),(25,V0)])
 (.blk 2 (.loop [13,14,15,26,27,28,29] l_qbh_0)))
 (.seq (.seq (.reg [i (.bin .neq E12 V0)] [(30,L0)])
 (.cond E30 (.seq (.reg [i (.mov Vn)] [(4,L0),(5,E12)])
 .ret) .skip))
 (.seq (.reg [i (.nilck E8),i (.fld 7 L0),i (ld L1),i (.nilck E8),i (.fld 7 L3),i (ld L4),i (.len L5),i (.bin .sub L6 V1),i (.idxs 1 L2 L7),i (ld L8)] [(4,L9),(5,V0)])
 .ret)))))))))))
def f_qbh:AFunc:=⟨31,3,.pure,[.env 4,.env 5],b_qbh⟩
def l_qbg_0:ACode:=
 (.seq (.reg [i (.bin .lss E20 E19)] [(21,L0)])
 (.seq (.cond E21 .skip (.exit 1))
 (.seq (.blk 2 (.seq (.reg [i (.idxs 1 E18 E20),i (ld L0)] [(11,L1)])
 (.seq (.reg [] [(12,v (.int .u32 0))])
 (.seq (.seq (.reg [i (.fld 3 E3),i (ld L0),i (.call 28 [E11,L1] false),i (.ext 0 L2),i (.ext 1 L2)] [(12,L3),(7,L4)])
 (.seq (.reg [i (.bin .neq E7 V0)] [(22,L0)])
 (.cond E22 (.seq (.reg [i (.mov Vn)] [(4,L0),(5,v (.int .i64 2))])
 .ret) .skip)))
 (.reg [i (.conv .u32 E2),i (.bin .rem E12 L0),i (.conv .u32 E2),i (.bin .rem E12 L2),i (.idxs 1 E10 L3),i (ld L4),i (.mkl 1 [E11]),i (.app 1 L5 L6),i (.idxs 1 E10 L1),i (.store 1 L8 L7)] [])))))
 (.reg [i (.bin .add E20 V1)] [(20,L0)]))))
def b_qbg:ACode:=
 (.seq (.reg [i (.box 4 E0),i (.mov Vn)] [(3,L0),(4,L1),(5,V0)])
 (.seq (.reg [i (.fld 0 E3),i (ld L0),i (.call 37 [L1] false),i (.ext 0 L2),i (.ext 1 L2),i (.ext 2 L2)] [(6,L3),(7,L5)])
 (.seq (.seq (.reg [i (.bin .neq E7 V0)] [(13,L0)])
 (.cond E13 (.seq (.reg [i (.mov Vn)] [(4,L0),(5,E7)])
 .ret) .skip))
 (.seq (.reg [i (.len E6),i (.bin .sub L0 V1),i (.idxs 1 E6 L1),i (ld L2),i (.box 1 Vn),i (.store 1 L4 L3)] [(8,L4)])
 (.seq (.reg [i (.fld 3 E3),i (ld L0),i (.mkfn 76 [] [E8]),i (.call 77 [L1,L2] false)] [(9,L3)])
 (.seq (.seq (.reg [g E9 false (.fld 3 E3),g E9 false (ld L0),g E9 false (.len L1),g E9 false (.bin .gtr L2 (v (.int .i64 16))),i (.pick E9 Vt L3),g L4 false (.fld 2 E3),g L4 false (ld L5),g L4 false (.bin .lss L6 V1),i (.pick L4 Vt L7),g L8 false (.fld 2 E3),g L8 false (ld L9),g L8 false (.bin .gtr L10 (v (.int .i64 4))),i (.pick L8 Vt L11),g L12 false (.fld 2 E3),g L12 false (ld L13),g L12 false (.bin .eql L14 V1),g L12 false (.fld 3 E3),g L12 false (ld L16),g L12 false (.len L17),g L12 false (.bin .gtr L18 V0),g L12 false (.eqb true L15 L19),i (.pick L12 Vt L20)] [(14,L21)])
 (.cond E14 (.seq (.reg [i (.mov Vn)] [(4,L0),(5,v (.int .i64 291))])
 .ret) .skip))
 (.seq (.seq (.reg [i (.bin .lss E2 V1),g L0 false (.mov E2),g L0 false (.bin .gtr L1 (v (.int .i64 8))),i (.pick L0 Vt L2),g L3 false (.mov E1),g L3 false (ld E8),g L3 false (.call 75 [L4,L5] false),g L3 false (.una .not L6),i (.pick L3 Vt L7)] [(15,L8)])
 (.cond E15 (.seq (.reg [i (.mov Vn)] [(4,L0),(5,v (.int .i64 2))])
 .ret) .skip))
 (.seq (.seq (.reg [i (.fld 2 E3),i (ld L0)] [(16,L1)])
 (.blk 0 (.seq (.reg [i (.bin .eql E16 V1)] [(17,L0)])
 (.cond E17 (.seq (.reg [i (.make 1 (.nil0) E2 E2)] [(10,L0)])
 (.seq (.seq (.lift 10 999 1 (.reg [i (.len E1)] [(18,E1),(19,L0),(20,V0)]))
 (.blk 1 (.loop [4,5,7,11,12,21,22] l_qbg_0)))
 (.seq (.reg [] [(4,E10),(5,V0)])
 .ret))) (.seq (.reg [i (.bin .eql E16 (v (.int .i64 2)))] [(23,L0)])
 (.cond E23 (.seq (.reg [i (.mkl 1 [E1]),i (.call 74 [L0,E2] false)] [(4,L1),(5,V0)])
 .ret) .skip))))))
 (.seq (.reg [i (.mkl 1 [E1])] [(4,L0),(5,V0)])
 .ret)))))))))
def f_qbg:AFunc:=⟨24,3,.pure,[.env 4,.env 5],b_qbg⟩
def l_qfy_0:ACode:=
 (.seq (.seq (.reg [i (.nilck E0),i (.fld 8 L0),i (ld L1),i (.len L2),i (.bin .gtr L3 V0)] [(6,L4)])
 (.cond E6 .skip (.exit 0)))
 (.blk 1 (.seq (.reg [i (.nilck E0),i (.fld 8 L0),i (ld L1),i (.len L2),i (.mins L3 [(v (.int .i64 4))])] [(1,L4)])
 (.seq (.regd [i (.nilck E0),i (.fld 1 L0),i (.load true 7 L1),i (.nilck E0),i (.fld 8 L3),i (ld L4),i (.slice 1 L5 none (some E1)),i (.call 498 [L2,L6] false),i (.ext 0 L7),i (.ext 1 L7),i (.box 7 (v (.agg [.int .u32 0,.int .u64 0,.nil0,.int .u64 0,.int .u64 0,n0,nf]))),i (.store 7 L10 L8)] [(2,L10),(3,L9)] [(0,11),(1,11),(2,11),(3,11),(4,11),(5,11),(6,11),(7,11)])
 (.seq (.seq (.reg [i (.bin .neq E3 V0)] [(7,L0)])
 (.cond E7 .ret .skip))
 (.regd [i (.load true 7 E2),i (.nilck E0),i (.fld 8 L1),i (ld L2),i (.slice 1 L3 (some E1) none),i (.nilck E0),i (.fld 1 L5),i (.store 7 L6 L0),i (.nilck E0),i (.fld 8 L8),i (.store 1 L9 L4)] [] [(4,8)]))))))
def b_qfy:ACode:=
 (.seq (.blk 0 (.loop [1,2,3,6,7] l_qfy_0))
 (.seq (.reg [i (.nilck E0),i (.fld 1 L0),i (.load true 7 L1),i (.call 497 [L2] false),i (.ext 0 L3),i (.ext 1 L3),i (.box 7 (v (.agg [.int .u32 0,.int .u64 0,.nil0,.int .u64 0,.int .u64 0,n0,nf]))),i (.store 7 L6 L4)] [(4,L6),(5,L5)])
 (.seq (.reg [i (.bin .eql E5 V0)] [(8,L0)])
 (.cond E8 (.reg [i (.load true 7 E4),i (.nilck E0),i (.fld 1 L1),i (.store 7 L2 L0)] []) .skip))))
def f_qfy:AFunc:=⟨9,1,.keep,[],b_qfy⟩
def b_qfv:ACode:=
 (.seq (.reg [i (.box 1 E1)] [(2,L0),(3,Vf)])
 (.seq (.reg [i (.mkfn 499 [] [E2]),i (.call 500 [E0,L0] false),i (.una .not L1)] [(3,L2)])
 .ret))
def f_qfv:AFunc:=⟨4,2,.pure,[.env 3],b_qfv⟩
def b_qft:ACode:=
 (.seq (.reg [i (.box 9 E0)] [(1,L0),(2,Vf)])
 (.seq (.reg [i (.fld 8 E1),i (ld L0),i (.len L1),i (.bin .eql L2 V0),g L3 true (.fld 1 E1),g L3 true (.fld 6 L4),g L3 true (ld L5),i (.pick L3 L6 Vf),g L7 true (.fld 1 E1),g L7 true (.fld 2 L8),g L7 true (ld L9),g L7 true (.len L10),g L7 true (.bin .eql L11 V0),i (.pick L7 L12 Vf)] [(2,L13)])
 .ret))
def f_qft:AFunc:=⟨3,1,.pure,[.env 2],b_qft⟩
def l_qgh_0:ACode:=
 (.seq (.reg [i (.bin .lss E20 E19)] [(21,L0)])
 (.seq (.cond E21 .skip (.exit 4))
 (.seq (.blk 5 (.seq (.reg [i (.idxs 9 E18 E20),i (.load true 9 L0),i (.box 9 (v (.agg [n0,n0,.int .u32 0,.int .u64 0,.nil0,.nil0,n0,nf,.nil0]))),i (.store 9 L2 L1)] [(7,L2)])
 (.seq (.reg [i (.fld 2 E7),i (.load true 6 L0),i (.call 501 [L1] false),i (.ext 0 L2),i (.ext 1 L2),i (.box 7 (v (.agg [n0,.int .u32 0,.int .u64 0,.int .u64 0,.nil0,nf,.int .u64 0]))),i (.store 7 L5 L3)] [(8,L5)])
 (.seq (.reg [i (ld E1),i (.nilck L0),i (.fld 3 L1),i (ld L2),i (.fld 1 E7),i (ld L4),i (ld E1),i (.nilck L6),i (.fld 0 L7),i (ld L8),i (.fld 0 E7),i (ld L10),i (.load true 7 E8),i (.build [n0,n0,n0,n0,n0,n0,.nil0,n0,.int .u32 0,.int .u64 0,.int .u64 0,.nil0,nf,.int .u64 0,n0] [(0,1,v (.int .i64 4)),(1,1,L3),(2,1,L5),(3,1,L9),(4,1,L11),(7,7,L12)]),i (.callv E0 [L13]),i (.una .not L14)] [(22,L15)])
 (.cond E22 .ret .skip)))))
 (.reg [i (.bin .add E20 V1)] [(20,L0)]))))
def l_qgh_1:ACode:=
 (.seq (.reg [i (.bin .lss E15 E14)] [(16,L0)])
 (.seq (.cond E16 .skip (.exit 2))
 (.seq (.blk 3 (.seq (.reg [i (.idxs 7 E13 E15),i (.load true 7 L0),i (.box 7 (v (.agg [n0,.int .u32 0,.int .u64 0,.int .u64 0,.nil0,nf,.int .u64 0]))),i (.store 7 L2 L1)] [(6,L2)])
 (.seq (.reg [i (ld E1),i (.nilck L0),i (.fld 3 L1),i (ld L2),i (.fld 0 E3),i (ld L4),i (ld E1),i (.nilck L6),i (.fld 0 L7),i (ld L8),i (ld E1),i (.nilck L10),i (.fld 2 L11),i (ld L12),i (.load true 7 E6),i (.build [n0,n0,n0,n0,n0,n0,.nil0,n0,.int .u32 0,.int .u64 0,.int .u64 0,.nil0,nf,.int .u64 0,n0] [(0,1,v (.int .i64 3)),(1,1,L3),(2,1,L5),(3,1,L9),(4,1,L13),(7,7,L14)]),i (.callv E0 [L15]),i (.una .not L16)] [(17,L17)])
 (.cond E17 .ret .skip))))
 (.reg [i (.bin .add E15 V1)] [(15,L0)]))))
def l_qgh_2:ACode:=
 (.seq (.reg [i (.bin .lss E11 E10)] [(12,L0)])
 (.seq (.cond E12 .skip (.exit 0))
 (.seq (.blk 1 (.seq (.reg [i (.idxs 9 E9 E11),i (.load true 9 L0),i (.box 9 (v (.agg [n0,.int .u32 0,.int .u64 0,.nil0,.int .u64 0,.int .u64 0,n0,nf,.nil0]))),i (.store 9 L2 L1)] [(3,L2),(2,E11)])
 (.seq (.reg [i (.fld 1 E3),i (.load true 7 L0),i (.call 502 [L1] false),i (.ext 0 L2),i (.ext 1 L2),i (.ext 2 L2),i (.box 7 (v (.agg [.int .u32 0,.int .u64 0,.nil0,.int .u64 0,.int .u64 0,n0,nf]))),i (.store 7 L6 L3)] [(4,L6),(5,L4)])
 (.seq (.reg [i (ld E1),i (.nilck L0),i (.fld 10 L1),i (ld L2),i (.load true 7 E4),i (.idxs 9 L3 E2),i (.fld 1 L5),i (.store 7 L6 L4)] [])
 (.seq (.reg [i (.len E5)] [(13,E5),(14,L0),(15,V0)])
 (.blk 2 (.loop [6,16,17] l_qgh_1)))))))
 (.reg [i (.bin .add E11 V1)] [(11,L0)]))))
def b_qgh:ACode:=
 (.seq (.seq (.reg [i (ld E1),i (.nilck L0),i (.fld 10 L1),i (ld L2),i (.len L3)] [(9,L3),(10,L4),(11,V0)])
 (.blk 0 (.loop [2,3,4,5,6,12,13,14,15,16,17] l_qgh_2)))
 (.seq (.reg [i (ld E1),i (.nilck L0),i (.fld 9 L1),i (ld L2),i (.len L3)] [(18,L3),(19,L4),(20,V0)])
 (.blk 4 (.loop [7,8,21,22] l_qgh_0))))
def f_qgh:AFunc:=⟨23,2,.keep,[],b_qgh⟩
def b_qbz:ACode:=
 (.seq (.reg [i (.box 6 E0),i (.box 7 (v (.agg [n0,.int .u32 0,.int .u64 0,.int .u64 0,.nil0,nf,.int .u64 0])))] [(1,L0),(2,L1),(3,V0)])
 (.seq (.seq (.reg [i (.load true 6 E1),i (.call 506 [L0] false)] [(4,L1)])
 (.seq (.reg [i (.bin .neq E4 V0)] [(5,L0)])
 (.cond E5 (.seq (.reg [i (.build [n0,.int .u32 0,.int .u64 0,.int .u64 0,.nil0,nf,.int .u64 0] []),i (.store 7 E2 L0)] [(3,E4)])
 .ret) .skip)))
 (.seq (.reg [i (.fld 0 E1),i (ld L0),i (.fld 1 E1),i (ld L2),i (.load true 6 E1),i (.call 505 [L4] false),i (.build [n0,.int .u32 0,.int .u64 0,.int .u64 0,.nil0,nf,.int .u64 0] [(0,1,v (.int .i64 2)),(1,1,L1),(2,1,L3),(3,1,L5)]),i (.store 7 E2 L6)] [(3,V0)])
 .ret)))
def f_qbz:AFunc:=⟨6,1,.pure,[.cell true 7 2,.env 3],b_qbz⟩
def l_qde_0:ACode:=
 (.seq (.reg [i (.bin .lss E5 E4)] [(6,L0)])
 (.seq (.cond E6 .skip (.exit 0))
 (.seq (.blk 1 (.seq (.reg [] [(3,E5)])
 (.reg [i (.mkl 1 [E3]),i (.app 1 E2 L0)] [(2,L1)])))
 (.reg [i (.bin .add E5 V1)] [(5,L0)]))))
def b_qde:ACode:=
 (.seq (.reg [i (.mov Vn)] [(1,L0)])
 (.seq (.reg [i (.mknil 1)] [(2,L0)])
 (.seq (.seq (.reg [] [(4,E0),(5,V0)])
 (.blk 0 (.loop [3,6] l_qde_0)))
 (.seq (.reg [] [(1,E2)])
 .ret))))
def f_qde:AFunc:=⟨7,1,.pure,[.env 1],b_qde⟩
def b_qdu:ACode:=
 (.seq (.reg [] [(1,Vf)])
 (.seq (.reg [i (.nilck E0),i (.fld 3 L0),i (.fld 4 L1),i (ld L2),i (.nilck E0),i (.fld 17 L4),i (.store 1 L5 L3)] [])
 (.seq (.reg [i (.nilck E0),i (.fld 3 L0),i (.fld 4 L1),i (ld L2),i (.call 77 [L3,(v (.fn 272 [] []))] false),i (.una .not L4)] [(2,L5)])
 (.seq (.reg [g E2 true (.mov E0),g E2 true (.nilck L0),g E2 true (.fld 3 L1),g E2 true (.fld 3 L2),g E2 true (ld L3),g E2 true (.bin .geq L4 V0),i (.pick E2 L5 Vf),g L6 true (.mov E0),g L6 true (.nilck L7),g L6 true (.fld 3 L8),g L6 true (.fld 3 L9),g L6 true (ld L10),g L6 true (.bin .lss L11 (v (.int .i64 4))),i (.pick L6 L12 Vf),g L13 true (.mov E0),g L13 true (.nilck L14),g L13 true (.fld 3 L15),g L13 true (.fld 4 L16),g L13 true (ld L17),g L13 true (.len L18),g L13 true (.bin .gtr L19 V0),i (.pick L13 L20 Vf),g L21 true (.mov E0),g L21 true (.nilck L22),g L21 true (.fld 3 L23),g L21 true (.fld 4 L24),g L21 true (ld L25),g L21 true (.len L26),g L21 true (.bin .leq L27 (v (.int .i64 4))),i (.pick L21 L28 Vf)] [(1,L29)])
 .ret))))
def f_qdu:AFunc:=⟨3,1,.keep,[.env 1],b_qdu⟩
def b_qdo:ACode:=
 (.seq (.reg [] [(1,Vf)])
 (.seq (.reg [i (.nilck E0),i (.fld 3 L0),i (.fld 4 L1),i (ld L2),i (.nilck E0),i (.fld 17 L4),i (.store 1 L5 L3)] [])
 (.seq (.reg [i (.nilck E0),i (.fld 3 L0),i (.fld 4 L1),i (ld L2),i (.call 77 [L3,(v (.fn 273 [] []))] false),i (.una .not L4)] [(2,L5)])
 (.seq (.reg [g E2 true (.mov E0),g E2 true (.nilck L0),g E2 true (.fld 3 L1),g E2 true (.fld 3 L2),g E2 true (ld L3),g E2 true (.bin .geq L4 V0),i (.pick E2 L5 Vf),g L6 true (.mov E0),g L6 true (.nilck L7),g L6 true (.fld 3 L8),g L6 true (.fld 3 L9),g L6 true (ld L10),g L6 true (.bin .lss L11 (v (.int .i64 30))),i (.pick L6 L12 Vf),g L13 true (.mov E0),g L13 true (.nilck L14),g L13 true (.fld 3 L15),g L13 true (.fld 4 L16),g L13 true (ld L17),g L13 true (.len L18),g L13 true (.bin .gtr L19 V0),i (.pick L13 L20 Vf),g L21 true (.mov E0),g L21 true (.nilck L22),g L21 true (.fld 3 L23),g L21 true (.fld 4 L24),g L21 true (ld L25),g L21 true (.len L26),g L21 true (.bin .leq L27 (v (.int .i64 16))),i (.pick L21 L28 Vf)] [(1,L29)])
 .ret))))
def f_qdo:AFunc:=⟨3,1,.keep,[.env 1],b_qdo⟩
def b_qdq:ACode:=
 (.seq (.reg [] [(1,Vf)])
 (.seq (.reg [i (.nilck E0),i (.fld 15 L0),i (ld L1),i (.nilck E0),i (.fld 16 L3),i (ld L4),i (.mkl 1 [L2,L5]),i (.call 275 [L6] false),i (.nilck E0),i (.fld 17 L8),i (.store 1 L9 L7)] [])
 (.seq (.reg [i (.nilck E0),i (.fld 3 L0),i (.fld 6 L1),i (lt L2),i (.nilck E0),i (.fld 17 L4),i (ld L5),i (.call 274 [L3,L6] false)] [(1,L7)])
 .ret)))
def f_qdq:AFunc:=⟨2,1,.keep,[.env 1],b_qdq⟩
def b_qdl:ACode:=
 (.seq (.reg [] [(1,Vf)])
 (.seq (.reg [i (.nilck E0),i (.fld 15 L0),i (ld L1),i (.nilck E0),i (.fld 17 L3),i (.store 1 L4 L2)] [])
 (.seq (.reg [i (.nilck E0),i (.fld 3 L0),i (.fld 6 L1),i (lt L2),i (.nilck E0),i (.fld 15 L4),i (ld L5),i (.call 274 [L3,L6] false)] [(1,L7)])
 .ret)))
def f_qdl:AFunc:=⟨2,1,.keep,[.env 1],b_qdl⟩
def l_qdn_0:ACode:=
 (.seq (.reg [i (.bin .lss E16 E15)] [(17,L0)])
 (.seq (.cond E17 .skip (.exit 2))
 (.seq (.blk 3 (.seq (.reg [i (.idxs 2 E14 E16),i (.load true 2 L0),i (.box 2 (v (.agg [n0,.nil0]))),i (.store 2 L2 L1)] [(5,L2)])
 (.seq (.reg [] [(6,v (.int .i64 2))])
 (.seq (.seq (.reg [i (.fld 0 E5),i (ld L0),i (.bin .eql L1 V1)] [(18,L2)])
 (.cond E18 (.reg [g E3 true (.fld 1 E5),g E3 true (.fld 0 L0),g E3 true (ld L1),g E3 true (.len L2),g E3 true (.bin .eql L3 V0),i (.pick E3 L4 Vf)] [(3,L5)]) (.seq (.reg [i (.fld 1 E5),i (lt L0),i (.nilck E0),i (.fld 15 L2),i (ld L3),i (.call 276 [L1,L4] false),i (.ext 0 L5),i (.ext 1 L5)] [(7,L6),(8,L7)])
 (.seq (.reg [g E3 true (.mov E8),g E3 true (.bin .eql L0 V0),i (.pick E3 L1 Vf),g L2 true (.fld 0 E5),g L2 true (ld L3),g L2 true (.bin .gtr L4 V1),i (.pick L2 L5 Vf),g L6 true (.fld 0 E5),g L6 true (ld L7),g L6 true (.bin .leq L8 (v (.int .i64 5))),i (.pick L6 L9 Vf)] [(3,L10)])
 (.seq (.reg [i (.fld 0 E5),i (ld L0)] [(19,L1)])
 (.blk 4 (.seq (.reg [i (.bin .eql E19 (v (.int .i64 3)))] [(20,L0)])
 (.cond E20 (.reg [g E3 true (.mov E7),g E3 true (.bin .eql L0 (v (.int .i64 2))),g E3 true (.mov L1),g L2 false (.mov E7),g L2 false (.bin .eql L3 V0),g E3 true (.pick L2 Vt L4),i (.pick E3 L5 Vf)] [(3,L6)]) (.seq (.seq (.reg [i (.bin .eql E19 (v (.int .i64 4)))] [(21,L0)])
 (.cond E21 .skip (.reg [i (.bin .eql E19 (v (.int .i64 5)))] [(21,L0)])))
 (.cond E21 (.reg [] [(6,E7)]) .skip))))))))))
 (.reg [i (.nilck E0),i (.fld 17 L0),i (ld L1),i (.mkl 1 [E6]),i (.app 1 L2 L3),i (.nilck E0),i (.fld 17 L5),i (.store 1 L6 L4)] [])))))
 (.reg [i (.bin .add E16 V1)] [(16,L0)]))))
def l_qdn_1:ACode:=
 (.seq (.reg [i (.bin .lss E11 E10)] [(12,L0)])
 (.seq (.cond E12 .skip (.exit 0))
 (.seq (.blk 1 (.seq (.reg [i (.idxs 1 E9 E11),i (ld L0)] [(4,L1)])
 (.seq (.seq (.reg [i (.bin .lss E4 V0),g L0 false (.mov E4),g L0 false (.mov E0),g L0 false (.nilck L2),g L0 false (.fld 15 L3),g L0 false (ld L4),g L0 false (.len L5),g L0 false (.bin .geq L1 L6),i (.pick L0 Vt L7)] [(13,L8)])
 (.cond E13 (.seq (.reg [] [(1,Vf)])
 .ret) .skip))
 (.reg [i (.nilck E0),i (.fld 17 L0),i (ld L1),i (.nilck E0),i (.fld 15 L3),i (ld L4),i (.idxs 1 L5 E4),i (ld L6),i (.mkl 1 [L7]),i (.app 1 L2 L8),i (.nilck E0),i (.fld 17 L10),i (.store 1 L11 L9)] []))))
 (.reg [i (.bin .add E11 V1)] [(11,L0)]))))
def b_qdn:ACode:=
 (.seq (.reg [] [(1,Vf)])
 (.seq (.reg [i (.nilck E0),i (.fld 3 L0),i (.load true 12 L1),i (.box 12 (v (.agg [n0,n0,n0,n0,.nil0,nf,.nil0,.nil0,.nil0,.nil0,.nil0,n0]))),i (.store 12 L3 L2)] [(2,L3)])
 (.seq (.reg [i (.fld 7 E2),i (ld L0),i (.len L1),i (.bin .leq L2 (v (.int .i64 3))),g L3 true (.fld 8 E2),g L3 true (ld L4),g L3 true (.len L5),g L3 true (.bin .leq L6 (v (.int .i64 12))),i (.pick L3 L7 Vf),g L8 true (.fld 7 E2),g L8 true (ld L9),g L8 true (.len L10),g L8 true (.fld 8 E2),g L8 true (ld L12),g L8 true (.len L13),g L8 true (.bin .add L11 L14),g L8 true (.bin .gtr L15 V0),i (.pick L8 L16 Vf)] [(3,L17)])
 (.seq (.reg [i (.nilck E0),i (.fld 17 L0),i (.store 1 L1 Vn)] [])
 (.seq (.seq (.lift 0 17 1 (.reg [i (.fld 7 E2),i (ld L0),i (.len L1)] [(9,L1),(10,L2),(11,V0)]))
 (.blk 0 (.loop [1,4,12,13] l_qdn_1)))
 (.seq (.seq (.reg [i (.fld 8 E2),i (ld L0),i (.len L1)] [(14,L1),(15,L2),(16,V0)])
 (.blk 2 (.loop [5,6,7,8,17,18,19,20,21] l_qdn_0)))
 (.seq (.reg [] [(1,E3)])
 .ret)))))))
def f_qdn:AFunc:=⟨22,1,.keep,[.env 1],b_qdn⟩
def l_qds_0:ACode:=
 (.seq (.reg [i (.bin .lss E8 E7)] [(9,L0)])
 (.seq (.cond E9 .skip (.exit 0))
 (.seq (.blk 1 (.seq (.reg [i (.idxs 2 E6 E8),i (.load true 2 L0),i (.box 2 (v (.agg [n0,.nil0]))),i (.store 2 L2 L1)] [(4,L2),(3,E8)])
 (.seq (.reg [i (.fld 0 E4),i (ld L0),i (.bin .eql L1 (v (.int .i64 3)))] [(10,L2)])
 (.cond E10 (.reg [i (.nilck E0),i (.fld 17 L0),i (ld L1),i (.nilck E0),i (.fld 3 L3),i (.fld 7 L4),i (ld L5),i (.len L6),i (.bin .add L7 E3),i (.idxs 1 L2 L8),i (.store 1 L9 (v (.int .i64 4)))] []) .skip))))
 (.reg [i (.bin .add E8 V1)] [(8,L0)]))))
def b_qds:ACode:=
 (.seq (.reg [] [(1,Vf)])
 (.seq (.reg [i (.call 181 [E0] false)] [(2,L0)])
 (.seq (.seq (.reg [i (.una .not E2)] [(5,L0)])
 (.cond E5 (.seq (.reg [] [(1,Vf)])
 .ret) .skip))
 (.seq (.seq (.reg [i (.nilck E0),i (.fld 3 L0),i (.fld 8 L1),i (ld L2),i (.len L3)] [(6,L3),(7,L4),(8,V0)])
 (.blk 0 (.loop [3,4,9,10] l_qds_0)))
 (.seq (.reg [] [(1,Vt)])
 .ret)))))
def f_qds:AFunc:=⟨11,1,.keep,[.env 1],b_qds⟩
def l_qdm_0:ACode:=
 (.seq (.reg [i (.bin .lss E17 E16)] [(18,L0)])
 (.seq (.cond E18 .skip (.exit 2))
 (.seq (.blk 3 (.seq (.reg [i (.idxs 2 E15 E17),i (.load true 2 L0),i (.box 2 (v (.agg [n0,.nil0]))),i (.store 2 L2 L1)] [(8,L2),(7,E17)])
 (.seq (.reg [i (.nilck E0),i (.fld 15 L0),i (ld L1),i (.bin .add E3 E7),i (.idxs 1 L2 L3),i (ld L4)] [(9,L5)])
 (.seq (.reg [g E4 true (.fld 1 E8),g E4 true (.fld 0 L0),g E4 true (ld L1),g E4 true (.len L2),g E4 true (.bin .eql L3 V0),i (.pick E4 L4 Vf)] [(4,L5)])
 (.seq (.reg [i (.fld 0 E8),i (ld L0)] [(19,L1)])
 (.blk 4 (.seq (.seq (.reg [i (.bin .eql E19 V1)] [(20,L0)])
 (.cond E20 .skip (.reg [i (.bin .eql E19 (v (.int .i64 2)))] [(20,L0)])))
 (.cond E20 (.reg [g E4 true (.mov E9),g E4 true (.bin .eql L0 (v (.int .i64 2))),i (.pick E4 L1 Vf)] [(4,L2)]) (.seq (.reg [i (.bin .eql E19 (v (.int .i64 3)))] [(21,L0)])
 (.cond E21 (.seq (.reg [g E4 true (.mov E9),g E4 true (.bin .eql L0 (v (.int .i64 4))),i (.pick E4 L1 Vf)] [(4,L2)])
 (.reg [i (.nilck E0),i (.fld 17 L0),i (ld L1),i (.bin .add E3 E7),i (.idxs 1 L2 L3),i (.store 1 L4 (v (.int .i64 2)))] [])) (.seq (.seq (.reg [i (.bin .eql E19 (v (.int .i64 4)))] [(22,L0)])
 (.cond E22 .skip (.reg [i (.bin .eql E19 (v (.int .i64 5)))] [(22,L0)])))
 (.cond E22 (.reg [g E4 true (.mov E9),g E4 true (.bin .neq L0 (v (.int .i64 4))),i (.pick E4 L1 Vf)] [(4,L2)]) (.reg [] [(4,Vf)])))))))))))))
 (.reg [i (.bin .add E17 V1)] [(17,L0)]))))
def l_qdm_1:ACode:=
 (.seq (.reg [i (.bin .lss E13 E12)] [(14,L0)])
 (.seq (.cond E14 .skip (.exit 0))
 (.seq (.blk 1 (.seq (.reg [i (.idxs 1 E11 E13),i (ld L0)] [(5,E13),(6,L1)])
 (.reg [g E4 true (.mov E6),g E4 true (.mov E5),g E4 true (.bin .eql L0 L1),i (.pick E4 L2 Vf),g L3 true (.mov E0),g L3 true (.nilck L4),g L3 true (.fld 15 L5),g L3 true (ld L6),g L3 true (.mov E5),g L3 true (.idxs 1 L7 L8),g L3 true (ld L9),g L3 true (.bin .neq L10 (v (.int .i64 4))),i (.pick L3 L11 Vf)] [(4,L12)])))
 (.reg [i (.bin .add E13 V1)] [(13,L0)]))))
def b_qdm:ACode:=
 (.seq (.reg [] [(1,Vf)])
 (.seq (.reg [i (.nilck E0),i (.fld 3 L0),i (.load true 12 L1),i (.box 12 (v (.agg [n0,n0,n0,n0,.nil0,nf,.nil0,.nil0,.nil0,.nil0,.nil0,n0]))),i (.store 12 L3 L2)] [(2,L3)])
 (.seq (.reg [i (.fld 7 E2),i (ld L0),i (.len L1)] [(3,L2)])
 (.seq (.reg [i (.nilck E0),i (.fld 0 L0),i (ld L1),i (.fld 1 E2),i (ld L3),i (.idxs 12 L2 L4),i (.fld 0 L5),i (ld L6),i (.bin .eql L7 (v (.int .i64 9))),g L8 true (.mov E3),g L8 true (.bin .leq L9 (v (.int .i64 3))),i (.pick L8 L10 Vf),g L11 true (.fld 8 E2),g L11 true (ld L12),g L11 true (.len L13),g L11 true (.bin .leq L14 (v (.int .i64 12))),i (.pick L11 L15 Vf),g L16 true (.mov E3),g L16 true (.fld 8 E2),g L16 true (ld L18),g L16 true (.len L19),g L16 true (.bin .add L17 L20),g L16 true (.mov E0),g L16 true (.nilck L22),g L16 true (.fld 15 L23),g L16 true (ld L24),g L16 true (.len L25),g L16 true (.bin .eql L21 L26),i (.pick L16 L27 Vf)] [(4,L28)])
 (.seq (.seq (.reg [i (.una .not E4)] [(10,L0)])
 (.cond E10 (.seq (.reg [] [(1,Vf)])
 .ret) .skip))
 (.seq (.reg [i (.nilck E0),i (.fld 15 L0),i (ld L1),i (.call 95 [L2] true),i (.nilck E0),i (.fld 17 L4),i (.store 1 L5 L3)] [])
 (.seq (.seq (.reg [i (.fld 7 E2),i (ld L0),i (.len L1)] [(11,L1),(12,L2),(13,V0)])
 (.blk 0 (.loop [5,6,14] l_qdm_1)))
 (.seq (.seq (.reg [i (.fld 8 E2),i (ld L0),i (.len L1)] [(15,L1),(16,L2),(17,V0)])
 (.blk 2 (.loop [7,8,9,18,19,20,21,22] l_qdm_0)))
 (.seq (.reg [] [(1,E4)])
 .ret)))))))))
def f_qdm:AFunc:=⟨23,1,.keep,[.env 1],b_qdm⟩
def l_qdt_0:ACode:=
 (.seq (.reg [i (.bin .lss E7 E6)] [(8,L0)])
 (.seq (.cond E8 .skip (.exit 0))
 (.seq (.blk 1 (.seq (.reg [i (.idxs 1 E5 E7),i (lt L0),i (.box 1 (v (.agg [.nil0]))),i (.store 1 L2 L1)] [(2,L2)])
 (.seq (.reg [i (lt E2),i (.nilck E0),i (.fld 15 L1),i (ld L2),i (.call 276 [L0,L3] false),i (.ext 0 L4),i (.ext 1 L4)] [(3,L5),(4,L6)])
 (.seq (.seq (.reg [i (.bin .neq E4 V0)] [(9,L0)])
 (.cond E9 (.seq (.reg [] [(1,Vf)])
 .ret) .skip))
 (.reg [i (.nilck E0),i (.fld 17 L0),i (ld L1),i (.mkl 1 [E3]),i (.app 1 L2 L3),i (.nilck E0),i (.fld 17 L5),i (.store 1 L6 L4)] [])))))
 (.reg [i (.bin .add E7 V1)] [(7,L0)]))))
def b_qdt:ACode:=
 (.seq (.reg [] [(1,Vf)])
 (.seq (.reg [i (.nilck E0),i (.fld 17 L0),i (.store 1 L1 Vn)] [])
 (.seq (.seq (.lift 0 17 1 (.reg [i (.nilck E0),i (.fld 3 L0),i (.fld 9 L1),i (ld L2),i (.len L3)] [(5,L3),(6,L4),(7,V0)]))
 (.blk 0 (.loop [1,2,3,4,8,9] l_qdt_0)))
 (.seq (.reg [i (.nilck E0),i (.fld 17 L0),i (ld L1),i (.len L2),i (.bin .gtr L3 V0)] [(1,L4)])
 .ret))))
def f_qdt:AFunc:=⟨10,1,.keep,[.env 1],b_qdt⟩
def b_qdr:ACode:=
 (.seq (.reg [] [(1,Vf)])
 (.seq (.reg [i (.nilck E0),i (.fld 15 L0),i (ld L1),i (.nilck E0),i (.fld 17 L3),i (.store 1 L4 L2)] [])
 (.seq (.reg [] [(1,Vt)])
 .ret)))
def f_qdr:AFunc:=⟨2,1,.keep,[.env 1],b_qdr⟩
def l_qdz_0:ACode:=
 (.seq (.reg [i (.bin .lss E8 E7)] [(9,L0)])
 (.seq (.cond E9 .skip (.exit 0))
 (.seq (.blk 1 (.seq (.reg [i (.idxs 1 E6 E8),i (ld L0)] [(2,E8),(3,L1)])
 (.seq (.reg [i (.nilck E0),i (.fld 16 L0),i (ld L1),i (.idxs 1 L2 E2),i (ld L3)] [(4,L4)])
 (.seq (.seq (.reg [i (.bin .eql E3 V0)] [(10,L0)])
 (.cond E10 (.reg [] [(3,E4)]) .skip))
 (.seq (.seq (.reg [i (.bin .neq E4 V0),g L0 true (.mov E4),g L0 true (.mov E3),g L0 true (.bin .neq L1 L2),i (.pick L0 L3 Vf)] [(11,L4)])
 (.cond E11 (.seq (.reg [] [(1,Vf)])
 .ret) .skip))
 (.reg [i (.nilck E0),i (.fld 17 L0),i (ld L1),i (.mkl 1 [E3]),i (.app 1 L2 L3),i (.nilck E0),i (.fld 17 L5),i (.store 1 L6 L4)] []))))))
 (.reg [i (.bin .add E8 V1)] [(8,L0)]))))
def b_qdz:ACode:=
 (.seq (.reg [] [(1,Vf)])
 (.seq (.seq (.reg [i (.nilck E0),i (.fld 15 L0),i (ld L1),i (.len L2),i (.nilck E0),i (.fld 16 L4),i (ld L5),i (.len L6),i (.bin .neq L3 L7)] [(5,L8)])
 (.cond E5 (.seq (.reg [] [(1,Vf)])
 .ret) .skip))
 (.seq (.reg [i (.nilck E0),i (.fld 17 L0),i (.store 1 L1 Vn)] [])
 (.seq (.seq (.lift 0 17 1 (.reg [i (.nilck E0),i (.fld 15 L0),i (ld L1),i (.len L2)] [(6,L2),(7,L3),(8,V0)]))
 (.blk 0 (.loop [1,2,3,4,9,10,11] l_qdz_0)))
 (.seq (.reg [] [(1,Vt)])
 .ret)))))
def f_qdz:AFunc:=⟨12,1,.keep,[.env 1],b_qdz⟩
def b_qdw:ACode:=
 (.seq (.reg [i (.box 1 E0)] [(1,L0),(2,Vf)])
 (.seq (.reg [i (ld E1),i (ld E1),i (.nilck L1),i (.fld 15 L2),i (ld L3),i (.nilck L0),i (.fld 17 L5),i (.store 1 L6 L4)] [])
 (.seq (.reg [i (ld E1),i (.nilck L0),i (.fld 3 L1),i (.fld 10 L2),i (ld L3),i (.mkfn 277 [] [E1]),i (.call 110 [L4,L5] false)] [(3,L6)])
 (.seq (.reg [i (.una .not E3),g L0 true (ld E1),g L0 true (.nilck L1),g L0 true (.fld 3 L2),g L0 true (.fld 10 L3),g L0 true (ld L4),g L0 true (.len L5),g L0 true (.bin .leq L6 (v (.int .i64 3))),i (.pick L0 L7 Vf),g L8 true (ld E1),g L8 true (.nilck L9),g L8 true (.fld 3 L10),g L8 true (.fld 11 L11),g L8 true (ld L12),g L8 true (.bin .geq L13 (v (.int .i64 (-1)))),i (.pick L8 L14 Vf),g L15 true (ld E1),g L15 true (.nilck L16),g L15 true (.fld 3 L17),g L15 true (.fld 11 L18),g L15 true (ld L19),g L15 true (.bin .leq L20 (v (.int .i64 2147483647))),i (.pick L15 L21 Vf)] [(2,L22)])
 .ret))))
def f_qdw:AFunc:=⟨4,1,.keep,[.env 2],b_qdw⟩
def b_qea:ACode:=
 (.seq (.reg [] [(1,V0)])
 (.seq (.seq (.reg [] [(2,E0)])
 (.blk 0 (.seq (.seq (.reg [i (.bin .eql E2 V1)] [(3,L0)])
 (.cond E3 .skip (.reg [i (.bin .eql E2 (v (.int .i64 9)))] [(3,L0)])))
 (.cond E3 (.seq (.reg [] [(1,V0)])
 .ret) (.seq (.seq (.reg [i (.bin .eql E2 (v (.int .i64 2)))] [(4,L0)])
 (.cond E4 .skip (.reg [i (.bin .eql E2 (v (.int .i64 7)))] [(4,L0)])))
 (.cond E4 (.seq (.reg [] [(1,v (.int .i64 2))])
 .ret) (.seq (.seq (.reg [i (.bin .eql E2 (v (.int .i64 3)))] [(5,L0)])
 (.cond E5 .skip (.seq (.reg [i (.bin .eql E2 (v (.int .i64 4)))] [(5,L0)])
 (.cond E5 .skip (.seq (.reg [i (.bin .eql E2 (v (.int .i64 5)))] [(5,L0)])
 (.cond E5 .skip (.seq (.reg [i (.bin .eql E2 (v (.int .i64 6)))] [(5,L0)])
 (.cond E5 .skip (.seq (.reg [i (.bin .eql E2 (v (.int .i64 8)))] [(5,L0)])
 (.cond E5 .skip (.seq (.reg [i (.bin .eql E2 (v (.int .i64 10)))] [(5,L0)])
 (.cond E5 .skip (.reg [i (.bin .eql E2 (v (.int .i64 11)))] [(5,L0)])))))))))))))
 (.cond E5 (.seq (.reg [] [(1,V1)])
 .ret) .skip))))))))
 (.seq (.reg [] [(1,v (.int .i64 (-1)))])
 .ret)))
def f_qea:AFunc:=⟨6,1,.pure,[.env 1],b_qea⟩
def b_qdi:ACode:=
 (.seq (.reg [i (.box 12 E0)] [(1,L0),(2,Vf)])
 (.seq (.reg [i (.fld 0 E1),i (ld L0),i (.bin .eql L1 V1),g L2 false (.fld 0 E1),g L2 false (ld L3),g L2 false (.bin .eql L4 (v (.int .i64 9))),i (.pick L2 Vt L5),i (.fld 0 E1),i (ld L7),i (.bin .eql L8 (v (.int .i64 4))),g L9 false (.fld 0 E1),g L9 false (ld L10),g L9 false (.bin .eql L11 (v (.int .i64 10))),i (.pick L9 Vt L12),g L13 false (.fld 0 E1),g L13 false (ld L14),g L13 false (.bin .eql L15 (v (.int .i64 11))),i (.pick L13 Vt L16)] [(3,L6),(4,L17)])
 (.seq (.reg [g E3 false (.fld 3 E1),g E3 false (ld L0),g E3 false (.bin .eql L1 V0),g E3 false (.mov L2),g L3 true (.fld 4 E1),g L3 true (ld L4),g L3 true (.len L5),g L3 true (.bin .eql L6 V0),g E3 false (.pick L3 L7 Vf),i (.pick E3 Vt L8)] [(5,L9)])
 (.seq (.reg [g E5 true (.fld 0 E1),g E5 true (ld L0),g E5 true (.bin .eql L1 (v (.int .i64 2))),g E5 true (.mov L2),g L3 false (.fld 5 E1),g L3 false (ld L4),g L3 false (.una .not L5),g E5 true (.pick L3 Vt L6),i (.pick E5 L7 Vf),g L8 true (.fld 0 E1),g L8 true (ld L9),g L8 true (.bin .eql L10 (v (.int .i64 2))),g L8 true (.mov L11),g L12 false (.fld 0 E1),g L12 false (ld L13),g L12 false (.bin .eql L14 (v (.int .i64 3))),g L8 true (.pick L12 Vt L15),g L8 true (.mov L16),g L17 false (.fld 6 E1),g L17 false (.fld 0 L18),g L17 false (ld L19),g L17 false (.len L20),g L17 false (.bin .eql L21 V0),g L8 true (.pick L17 Vt L22),i (.pick L8 L23 Vf)] [(5,L24)])
 (.seq (.reg [g E5 true (.mov E4),g E5 true (.mov L0),g L1 false (.fld 7 E1),g L1 false (ld L2),g L1 false (.len L3),g L1 false (.fld 8 E1),g L1 false (ld L5),g L1 false (.len L6),g L1 false (.bin .add L4 L7),g L1 false (.bin .eql L8 V0),g E5 true (.pick L1 Vt L9),i (.pick E5 L10 Vf),g L11 true (.fld 0 E1),g L11 true (ld L12),g L11 true (.bin .eql L13 (v (.int .i64 5))),g L11 true (.mov L14),g L15 false (.fld 9 E1),g L15 false (ld L16),g L15 false (.len L17),g L15 false (.bin .eql L18 V0),g L11 true (.pick L15 Vt L19),i (.pick L11 L20 Vf)] [(5,L21)])
 (.seq (.reg [g E5 true (.fld 0 E1),g E5 true (ld L0),g E5 true (.bin .eql L1 (v (.int .i64 8))),g E5 true (.mov L2),g L3 false (.fld 10 E1),g L3 false (ld L4),g L3 false (.len L5),g L3 false (.bin .eql L6 V0),g L3 false (.mov L7),g L8 true (.fld 11 E1),g L8 true (ld L9),g L8 true (.bin .eql L10 V0),g L3 false (.pick L8 L11 Vf),g E5 true (.pick L3 Vt L12),i (.pick E5 L13 Vf)] [(2,L14)])
 .ret))))))
def f_qdi:AFunc:=⟨6,1,.pure,[.env 2],b_qdi⟩
def b_qcy:ACode:=
 (.seq (.reg [i (.box 1 E0),i (.box 1 E1)] [(2,L0),(3,L1),(4,v (.nilf))])
 (.seq (.reg [i (.mkfn 509 [] [E2,E3])] [(4,L0)])
 .ret))
def f_qcy:AFunc:=⟨5,2,.keep,[.env 4],b_qcy⟩
def b_qaf:ACode:=
 (.seq (.reg [] [(1,V0)])
 (.seq (.seq (.reg [] [(2,E0)])
 (.blk 0 (.seq (.reg [i (.bin .eql E2 (v (.int .i64 9)))] [(3,L0)])
 (.cond E3 (.seq (.reg [] [(1,V0)])
 .ret) (.seq (.seq (.reg [i (.bin .eql E2 (v (.int .i64 10)))] [(4,L0)])
 (.cond E4 .skip (.reg [i (.bin .eql E2 (v (.int .i64 11)))] [(4,L0)])))
 (.cond E4 (.seq (.reg [] [(1,V1)])
 .ret) .skip))))))
 (.seq (.reg [i (.call 299 [E0] false)] [(1,L0)])
 .ret)))
def f_qaf:AFunc:=⟨5,1,.pure,[.env 1],b_qaf⟩
def b_qv:ACode:=
 (.seq (.reg [i (.box 12 E0)] [(1,L0),(2,Vf)])
 (.seq (.seq (.reg [i (.fld 0 E1),i (ld L0),i (.bin .neq L1 V1),g L2 true (.fld 3 E1),g L2 true (ld L3),g L2 true (.bin .neq L4 V0),g L2 true (.mov L5),g L6 false (.fld 4 E1),g L6 false (ld L7),g L6 false (.len L8),g L6 false (.bin .gtr L9 V0),g L2 true (.pick L6 Vt L10),i (.pick L2 L11 Vf)] [(3,L12)])
 (.cond E3 (.seq (.reg [] [(2,Vf)])
 .ret) .skip))
 (.seq (.seq (.reg [i (.fld 0 E1),i (ld L0),i (.bin .neq L1 (v (.int .i64 2))),g L2 true (.fld 5 E1),g L2 true (ld L3),i (.pick L2 L4 Vf),g L5 false (.fld 0 E1),g L5 false (ld L6),g L5 false (.bin .neq L7 (v (.int .i64 2))),g L5 false (.mov L8),g L9 true (.fld 0 E1),g L9 true (ld L10),g L9 true (.bin .neq L11 (v (.int .i64 3))),g L5 false (.pick L9 L12 Vf),g L5 false (.mov L13),g L14 true (.fld 6 E1),g L14 true (.fld 0 L15),g L14 true (ld L16),g L14 true (.len L17),g L14 true (.bin .gtr L18 V0),g L5 false (.pick L14 L19 Vf),i (.pick L5 Vt L20)] [(4,L21)])
 (.cond E4 (.seq (.reg [] [(2,Vf)])
 .ret) .skip))
 (.seq (.seq (.reg [i (.fld 0 E1),i (ld L0),i (.bin .neq L1 (v (.int .i64 4))),g L2 true (.fld 7 E1),g L2 true (ld L3),g L2 true (.len L4),g L2 true (.bin .gtr L5 V0),g L2 true (.mov L6),g L7 false (.fld 8 E1),g L7 false (ld L8),g L7 false (.len L9),g L7 false (.bin .gtr L10 V0),g L2 true (.pick L7 Vt L11),i (.pick L2 L12 Vf),g L13 false (.fld 0 E1),g L13 false (ld L14),g L13 false (.bin .neq L15 (v (.int .i64 5))),g L13 false (.mov L16),g L17 true (.fld 9 E1),g L17 true (ld L18),g L17 true (.len L19),g L17 true (.bin .gtr L20 V0),g L13 false (.pick L17 L21 Vf),i (.pick L13 Vt L22)] [(5,L23)])
 (.cond E5 (.seq (.reg [] [(2,Vf)])
 .ret) .skip))
 (.seq (.reg [i (.fld 0 E1),i (ld L0),i (.bin .eql L1 (v (.int .i64 8))),g L2 false (.fld 10 E1),g L2 false (ld L3),g L2 false (.len L4),g L2 false (.bin .eql L5 V0),g L2 false (.mov L6),g L7 true (.fld 11 E1),g L7 true (ld L8),g L7 true (.bin .eql L9 V0),g L2 false (.pick L7 L10 Vf),i (.pick L2 Vt L11)] [(2,L12)])
 .ret)))))
def f_qv:AFunc:=⟨6,1,.pure,[.env 2],b_qv⟩
def l_qan_0:ACode:=
 (.seq (.reg [i (.bin .lss E5 E4)] [(6,L0)])
 (.seq (.cond E6 .skip (.exit 0))
 (.seq (.blk 1 (.seq (.reg [i (.idxs 1 E3 E5),i (ld L0)] [(2,L1)])
 (.seq (.reg [i (.bin .eql E2 (v (.int .i64 4)))] [(7,L0)])
 (.cond E7 (.seq (.reg [] [(1,Vt)])
 .ret) .skip))))
 (.reg [i (.bin .add E5 V1)] [(5,L0)]))))
def b_qan:ACode:=
 (.seq (.reg [] [(1,Vf)])
 (.seq (.seq (.reg [i (.len E0)] [(3,E0),(4,L0),(5,V0)])
 (.blk 0 (.loop [1,2,6,7] l_qan_0)))
 (.seq (.reg [] [(1,Vf)])
 .ret)))
def f_qan:AFunc:=⟨8,1,.pure,[.env 1],b_qan⟩
def l_ql_0:ACode:=
 (.seq (.reg [i (.bin .lss E15 E14)] [(16,L0)])
 (.seq (.cond E16 .skip (.exit 2))
 (.seq (.blk 3 (.seq (.reg [i (.idxs 8 E13 E15),i (.load true 8 L0),i (.box 8 (v (.agg [n0,n0,n0,n0,n0,n0,.int .u64 0,.str []]))),i (.store 8 L2 L1)] [(8,L2)])
 (.seq (.seq (.reg [i (.fld 1 E8),i (ld L0),i (.bin .geq L1 V0)] [(17,L2)])
 (.cond E17 (.reg [i (.fld 1 E8),i (ld L0),i (.bin .add L1 E7),i (.fld 1 E8),i (.store 1 L3 L2)] []) .skip))
 (.seq (.seq (.reg [i (.fld 2 E8),i (ld L0),i (.bin .geq L1 V0)] [(18,L2)])
 (.cond E18 (.reg [i (.fld 2 E8),i (ld L0),i (.bin .add L1 E7),i (.fld 2 E8),i (.store 1 L3 L2)] []) .skip))
 (.reg [i (.fld 0 E4),i (ld L0),i (.load true 8 E8),i (.mkl 8 [L2]),i (.app 8 L1 L3),i (.fld 0 E4),i (.store 1 L5 L4)] [])))))
 (.reg [i (.bin .add E15 V1)] [(15,L0)]))))
def l_ql_1:ACode:=
 (.seq (.reg [i (.bin .lss E11 E10)] [(12,L0)])
 (.seq (.cond E12 .skip (.exit 0))
 (.seq (.blk 1 (.seq (.reg [i (.idxs 1 E9 E11),i (lt L0),i (.box 1 (v (.agg [.nil0]))),i (.store 1 L2 L1)] [(6,L2),(5,E11)])
 (.seq (.reg [i (.fld 0 E4),i (ld L0),i (.len L1)] [(7,L2)])
 (.seq (.seq (.reg [i (.fld 0 E6),i (ld L0),i (.len L1)] [(13,L1),(14,L2),(15,V0)])
 (.blk 2 (.loop [8,16,17,18] l_ql_0)))
 (.seq (.reg [i (.bin .eql E5 V0)] [(19,L0)])
 (.cond E19 (.reg [i (.fld 0 E4),i (ld L0),i (.len L1),i (.bin .sub L2 V1),i (.fld 1 E2),i (.store 1 L4 L3)] []) (.reg [i (.fld 0 E4),i (ld L0),i (.len L1),i (.bin .sub L2 V1),i (.fld 2 E2),i (.store 1 L4 L3)] [])))))))
 (.reg [i (.bin .add E11 V1)] [(11,L0)]))))
def b_ql:ACode:=
 (.seq (.reg [i (.box 8 E0),i (.box 1 (v (.agg [.nil0])))] [(2,L0),(3,L1)])
 (.seq (.reg [i (.box 1 (v (.agg [.nil0])))] [(4,L0)])
 (.seq (.reg [i (.fld 1 E2),i (.store 1 L0 (v (.int .i64 (-1)))),i (.fld 2 E2),i (.store 1 L2 (v (.int .i64 (-1))))] [])
 (.seq (.seq (.lift 4 0 8 (.reg [i (.len E1)] [(9,E1),(10,L0),(11,V0)]))
 (.blk 0 (.loop [5,6,7,8,12,13,14,15,16,17,18,19] l_ql_1)))
 (.seq (.reg [i (.fld 0 E4),i (ld L0),i (.load true 8 E2),i (.mkl 8 [L2]),i (.app 8 L1 L3),i (.fld 0 E4),i (.store 1 L5 L4)] [])
 (.seq (.reg [i (lt E4),i (.store 1 E3 L0)] [])
 .ret))))))
def f_ql:AFunc:=⟨20,2,.pure,[.cell true 1 3],b_ql⟩
def b_qu:ACode:=
 (.seq (.reg [i (.box 1 E0),i (.mov Vn)] [(2,L0),(3,L1),(4,Vf)])
 (.seq (.seq (.reg [i (lt E2),i (.call 301 [L0,E1] false),i (.bin .eql L1 V0),g L2 false (.fld 0 E2),g L2 false (ld L3),g L2 false (.mov E1),g L2 false (.idxs 12 L4 L5),g L2 false (.load true 12 L6),g L2 false (.call 217 [L7] false),g L2 false (.una .not L8),i (.pick L2 Vt L9)] [(14,L10)])
 (.cond E14 (.seq (.reg [i (.mov Vn)] [(3,L0),(4,Vf)])
 .ret) .skip))
 (.seq (.reg [i (.fld 0 E2),i (ld L0),i (.idxs 12 L1 E1),i (.load true 12 L2),i (.box 12 (v (.agg [n0,n0,n0,n0,.nil0,nf,.nil0,.nil0,.nil0,.nil0,.nil0,n0]))),i (.store 12 L4 L3)] [(5,L4)])
 (.seq (.reg [i (.mov Vn),i (.mov Vn)] [(6,L0),(7,L1)])
 (.seq (.seq (.reg [i (.fld 1 E5),i (ld L0),i (.bin .geq L1 V0)] [(15,L2)])
 (.cond E15 (.seq (.reg [i (lt E2),i (.fld 1 E5),i (ld L1),i (.call 218 [L0,L2] false),i (.ext 0 L3),i (.ext 1 L3)] [(8,L4),(9,L5)])
 (.seq (.seq (.reg [i (.una .not E9)] [(16,L0)])
 (.cond E16 (.seq (.reg [i (.mov Vn)] [(3,L0),(4,Vf)])
 .ret) .skip))
 (.reg [] [(6,E8)]))) .skip))
 (.seq (.seq (.reg [i (.fld 2 E5),i (ld L0),i (.bin .geq L1 V0)] [(17,L2)])
 (.cond E17 (.seq (.reg [i (lt E2),i (.fld 2 E5),i (ld L1),i (.call 218 [L0,L2] false),i (.ext 0 L3),i (.ext 1 L3)] [(10,L4),(11,L5)])
 (.seq (.seq (.reg [i (.una .not E11)] [(18,L0)])
 (.cond E18 (.seq (.reg [i (.mov Vn)] [(3,L0),(4,Vf)])
 .ret) .skip))
 (.reg [] [(7,E10)]))) .skip))
 (.seq (.reg [i (.load true 12 E5),i (.call 300 [L0,E6,E7] false),i (.ext 0 L1),i (.ext 1 L1)] [(12,L2),(13,L3)])
 (.seq (.seq (.reg [i (.fld 0 E5),i (ld L0),i (.bin .eql L1 (v (.int .i64 8))),g L2 true (.mov E1),g L2 true (.fld 0 E2),g L2 true (ld L4),g L2 true (.len L5),g L2 true (.bin .sub L6 V1),g L2 true (.bin .neq L3 L7),i (.pick L2 L8 Vf),g L9 false (.mov E12),g L9 false (.len L10),g L9 false (.bin .gtr L11 (v (.int .i64 16))),i (.pick L9 Vt L12)] [(19,L13)])
 (.cond E19 (.seq (.reg [i (.mov Vn)] [(3,L0),(4,Vf)])
 .ret) .skip))
 (.seq (.reg [] [(3,E12),(4,E13)])
 .ret)))))))))
def f_qu:AFunc:=⟨20,2,.trunc,[.env 3,.env 4],b_qu⟩
def l_qz_0:ACode:=
 (.seq (.seq (.reg [i (.fld 10 E2),i (ld L0),i (.len L1),i (.bin .lss E6 L2)] [(11,L3)])
 (.cond E11 .skip (.exit 2)))
 (.seq (.blk 3 (.seq (.reg [i (.fld 10 E2),i (ld L0),i (.idxs 2 L1 E6),i (.load true 2 L2),i (.fld 10 E3),i (ld L4),i (.idxs 2 L5 E6),i (.load true 2 L6),i (.eqa true [0,1] L3 L7)] [(12,L8)])
 (.cond E12 (.seq (.reg [] [(4,Vf)])
 .ret) .skip)))
 (.reg [i (.bin .add E6 V1)] [(6,L0)])))
def l_qz_1:ACode:=
 (.seq (.seq (.reg [i (.fld 8 E2),i (ld L0),i (.len L1),i (.bin .lss E5 L2)] [(9,L3)])
 (.cond E9 .skip (.exit 0)))
 (.seq (.blk 1 (.seq (.reg [i (.fld 8 E2),i (ld L0),i (.idxs 2 L1 E5),i (.fld 0 L2),i (ld L3),i (.fld 8 E3),i (ld L5),i (.idxs 2 L6 E5),i (.fld 0 L7),i (ld L8),i (.bin .neq L4 L9),g L10 false (.fld 8 E2),g L10 false (ld L11),g L10 false (.mov E5),g L10 false (.idxs 2 L12 L13),g L10 false (.fld 1 L14),g L10 false (lt L15),g L10 false (.fld 8 E3),g L10 false (ld L17),g L10 false (.mov E5),g L10 false (.idxs 2 L18 L19),g L10 false (.fld 1 L20),g L10 false (lt L21),g L10 false (.call 507 [L16,L22] false),g L10 false (.una .not L23),i (.pick L10 Vt L24)] [(10,L25)])
 (.cond E10 (.seq (.reg [] [(4,Vf)])
 .ret) .skip)))
 (.reg [i (.bin .add E5 V1)] [(5,L0)])))
def b_qz:ACode:=
 (.seq (.reg [i (.box 12 E0),i (.box 12 E1)] [(2,L0),(3,L1),(4,Vf)])
 (.seq (.seq (.reg [i (.fld 0 E2),i (ld L0),i (.fld 0 E3),i (ld L2),i (.bin .neq L1 L3),g L4 false (.fld 1 E2),g L4 false (ld L5),g L4 false (.fld 1 E3),g L4 false (ld L7),g L4 false (.bin .neq L6 L8),i (.pick L4 Vt L9),g L10 false (.fld 2 E2),g L10 false (ld L11),g L10 false (.fld 2 E3),g L10 false (ld L13),g L10 false (.bin .neq L12 L14),i (.pick L10 Vt L15),g L16 false (.fld 3 E2),g L16 false (ld L17),g L16 false (.fld 3 E3),g L16 false (ld L19),g L16 false (.bin .neq L18 L20),i (.pick L16 Vt L21),g L22 false (.fld 5 E2),g L22 false (ld L23),g L22 false (.fld 5 E3),g L22 false (ld L25),g L22 false (.eqb true L24 L26),i (.pick L22 Vt L27),g L28 false (.fld 11 E2),g L28 false (ld L29),g L28 false (.fld 11 E3),g L28 false (ld L31),g L28 false (.bin .neq L30 L32),i (.pick L28 Vt L33)] [(7,L34)])
 (.cond E7 (.seq (.reg [] [(4,Vf)])
 .ret) .skip))
 (.seq (.seq (.reg [i (.fld 8 E2),i (ld L0),i (.len L1),i (.fld 8 E3),i (ld L3),i (.len L4),i (.bin .neq L2 L5),g L6 false (.fld 10 E2),g L6 false (ld L7),g L6 false (.len L8),g L6 false (.fld 10 E3),g L6 false (ld L10),g L6 false (.len L11),g L6 false (.bin .neq L9 L12),i (.pick L6 Vt L13),g L14 false (.fld 4 E2),g L14 false (ld L15),g L14 false (.fld 4 E3),g L14 false (ld L17),g L14 false (.call 23 [L16,L18] false),g L14 false (.una .not L19),i (.pick L14 Vt L20),g L21 false (.fld 7 E2),g L21 false (ld L22),g L21 false (.fld 7 E3),g L21 false (ld L24),g L21 false (.call 23 [L23,L25] false),g L21 false (.una .not L26),i (.pick L21 Vt L27)] [(8,L28)])
 (.cond E8 (.seq (.reg [] [(4,Vf)])
 .ret) .skip))
 (.seq (.seq (.reg [] [(5,V0)])
 (.blk 0 (.loop [4,9,10] l_qz_1)))
 (.seq (.seq (.reg [] [(6,V0)])
 (.blk 2 (.loop [4,11,12] l_qz_0)))
 (.seq (.reg [i (.fld 6 E2),i (lt L0),i (.fld 6 E3),i (lt L2),i (.call 507 [L1,L3] false),g L4 true (.fld 9 E2),g L4 true (ld L5),g L4 true (.fld 9 E3),g L4 true (ld L7),g L4 true (.call 508 [L6,L8] false),i (.pick L4 L9 Vf)] [(4,L10)])
 .ret))))))
def f_qz:AFunc:=⟨13,2,.pure,[.env 4],b_qz⟩
def b_qge:ACode:=
 (.seq (.reg [] [(1,Vf)])
 (.seq (.reg [i (.mov (v (.fn 510 [] [])))] [(2,L0)])
 (.seq (.reg [i (.len E0),i (.bin .leq L0 (v (.int .i64 8000))),g L1 true (.mov E0),g L1 true (.mov E2),g L1 true (.call 42 [L2,L3] false),g L1 true (.una .not L4),i (.pick L1 L5 Vf)] [(1,L6)])
 .ret)))
def f_qge:AFunc:=⟨3,1,.pure,[.env 1],b_qge⟩
def b_qga:ACode:=
 (.seq (.reg [i (.box 13 E0),i (.box 9 E1)] [(2,L0),(3,L1),(4,Vf)])
 (.seq (.reg [i (.fld 2 E3),i (.load true 6 L0),i (.box 6 (v (.agg [.int .u32 0,.int .u64 0,.nil0,.nil0,n0,nf]))),i (.store 6 L2 L1)] [(5,L2)])
 (.seq (.reg [i (.fld 0 E3),i (ld L0),i (.bin .geq L1 V0),g L2 true (.fld 0 E3),g L2 true (ld L3),g L2 true (.bin .lss L4 (v (.int .i64 30))),i (.pick L2 L5 Vf),g L6 true (.fld 1 E3),g L6 true (ld L7),g L6 true (.bin .geq L8 V0),i (.pick L6 L9 Vf),g L10 true (.fld 1 E3),g L10 true (ld L11),g L10 true (.fld 1 E2),g L10 true (ld L13),g L10 true (.bin .leq L12 L14),i (.pick L10 L15 Vf),g L16 true (.fld 8 E3),g L16 true (ld L17),g L16 true (.call 492 [L18] false),i (.pick L16 L19 Vf)] [(6,L20)])
 (.seq (.reg [g E6 true (.load true 6 E5),g E6 true (.call 506 [L0] false),g E6 true (.bin .eql L1 V0),i (.pick E6 L2 Vf),g L3 true (.fld 0 E5),g L3 true (ld L4),g L3 true (.fld 0 E2),g L3 true (ld L6),g L3 true (.conv .u32 L7),g L3 true (.bin .eql L5 L8),i (.pick L3 L9 Vf),g L10 true (.fld 4 E5),g L10 true (ld L11),g L10 true (.bin .eql L12 (v (.int .i64 8))),i (.pick L10 L13 Vf),g L14 true (.fld 3 E5),g L14 true (ld L15),g L14 true (.len L16),g L14 true (.bin .eql L17 V0),i (.pick L14 L18 Vf)] [(4,L19)])
 .ret))))
def f_qga:AFunc:=⟨7,2,.pure,[.env 4],b_qga⟩
def b_qgb:ACode:=
 (.seq (.reg [i (.box 13 E0),i (.box 9 E1)] [(2,L0),(3,L1),(4,Vf)])
 (.seq (.reg [i (.fld 0 E3),i (ld L0),i (.bin .geq L1 V0),g L2 true (.fld 0 E3),g L2 true (ld L3),g L2 true (.fld 1 E2),g L2 true (ld L5),g L2 true (.bin .leq L4 L6),i (.pick L2 L7 Vf),g L8 true (.fld 8 E3),g L8 true (ld L9),g L8 true (.call 492 [L10] false),i (.pick L8 L11 Vf),g L12 true (.fld 1 E3),g L12 true (.load true 7 L13),g L12 true (.call 511 [L14] false),g L12 true (.bin .eql L15 V0),i (.pick L12 L16 Vf),g L17 true (.fld 1 E3),g L17 true (.fld 0 L18),g L17 true (ld L19),g L17 true (.fld 0 E2),g L17 true (ld L21),g L17 true (.conv .u32 L22),g L17 true (.bin .eql L20 L23),i (.pick L17 L24 Vf)] [(4,L25)])
 .ret))
def f_qgb:AFunc:=⟨5,2,.pure,[.env 4],b_qgb⟩
def b_qgi:ACode:=
 (.seq (.reg [i (.box 13 E0)] [(1,L0),(2,Vf)])
 (.seq (.reg [i (.fld 10 E1),i (ld L0),i (.mkfn 512 [] [E1]),i (.call 469 [L1,L2] false)] [(3,L3)])
 (.seq (.reg [i (.fld 11 E1),i (ld L0),i (.len L1),i (.bin .eql L2 V0),g L3 false (.fld 4 E1),g L3 false (.fld 2 L4),g L3 false (ld L5),g L3 false (.bin .eql L6 (v (.int .i64 4))),i (.pick L3 Vt L7)] [(4,L8)])
 (.seq (.seq (.reg [i (.fld 8 E1),i (ld L0)] [(5,L1)])
 (.blk 0 (.seq (.reg [i (.bin .eql E5 V1)] [(6,L0)])
 (.cond E6 (.seq (.reg [g E3 true (.fld 11 E1),g E3 true (ld L0),g E3 true (.len L1),g E3 true (.bin .eql L2 V0),i (.pick E3 L3 Vf),g L4 true (.fld 12 E1),g L4 true (ld L5),g L4 true (.bin .eql L6 V0),i (.pick L4 L7 Vf)] [(2,L8)])
 .ret) (.seq (.reg [i (.bin .eql E5 (v (.int .i64 2)))] [(7,L0)])
 (.cond E7 (.seq (.reg [i (.load true 13 E1),i (.call 466 [L0] false),g L1 true (.fld 10 E1),g L1 true (ld L2),g L1 true (.call 469 [L3,(v (.fn 470 [] []))] false),g L1 true (.una .not L4),i (.pick L1 L5 Vf),g L6 true (.mov E4),i (.pick L6 L7 Vf),g L8 true (.fld 12 E1),g L8 true (ld L9),g L8 true (.bin .eql L10 V0),i (.pick L8 L11 Vf)] [(2,L12)])
 .ret) (.seq (.reg [i (.bin .eql E5 (v (.int .i64 3)))] [(8,L0)])
 (.cond E8 (.seq (.reg [i (.load true 13 E1),i (.call 466 [L0] false),g L1 true (.fld 10 E1),g L1 true (ld L2),g L1 true (.call 469 [L3,(v (.fn 470 [] []))] false),i (.pick L1 L4 Vf),g L5 true (.mov E4),i (.pick L5 L6 Vf),g L7 true (.fld 12 E1),g L7 true (ld L8),g L7 true (.bin .eql L9 V0),i (.pick L7 L10 Vf)] [(2,L11)])
 .ret) (.seq (.reg [i (.bin .eql E5 (v (.int .i64 4)))] [(9,L0)])
 (.cond E9 (.seq (.reg [i (.load true 13 E1),i (.call 466 [L0] false),g L1 true (.mov E3),i (.pick L1 L2 Vf),g L3 true (.fld 11 E1),g L3 true (ld L4),g L3 true (.len L5),g L3 true (.bin .eql L6 V0),i (.pick L3 L7 Vf),g L8 true (.fld 12 E1),g L8 true (ld L9),g L8 true (.bin .eql L10 (v (.int .i64 140))),g L8 true (.mov L11),g L12 false (.fld 12 E1),g L12 false (ld L13),g L12 false (.bin .eql L14 (v (.int .i64 300))),g L8 true (.pick L12 Vt L15),i (.pick L8 L16 Vf)] [(2,L17)])
 .ret) .skip))))))))))
 (.seq (.reg [] [(2,Vf)])
 .ret)))))
def f_qgi:AFunc:=⟨10,1,.pure,[.env 2],b_qgi⟩
def b_qen:ACode:=
 (.seq (.reg [i (.mov Vn)] [(1,L0)])
 (.seq (.seq (.reg [i (.nils false E0)] [(2,L0)])
 (.cond E2 (.seq (.reg [i (.mov Vn)] [(1,L0)])
 .ret) .skip))
 (.seq (.reg [i (.mov (v .nil0)),i (.app 9 L0 E0)] [(1,L1)])
 .ret)))
def f_qen:AFunc:=⟨3,1,.fresh 9,[.env 1],b_qen⟩
def b_qeo:ACode:=
 (.seq (.reg [i (.mov Vn)] [(1,L0)])
 (.seq (.seq (.reg [i (.nils false E0)] [(2,L0)])
 (.cond E2 (.seq (.reg [i (.mov Vn)] [(1,L0)])
 .ret) .skip))
 (.seq (.reg [i (.mov (v .nil0)),i (.app 9 L0 E0)] [(1,L1)])
 .ret)))
def f_qeo:AFunc:=⟨3,1,.fresh 9,[.env 1],b_qeo⟩
def b_qev:ACode:=
 (.seq (.reg [] [(2,Vf)])
 (.seq (.reg [i (.call 513 [E0,E1] false),i (.bin .geq L0 V0)] [(2,L1)])
 .ret))
def f_qev:AFunc:=⟨3,2,.pure,[.env 2],b_qev⟩
def l_qeg_0:ACode:=
 (.seq (.reg [i (.bin .lss E11 E10)] [(12,L0)])
 (.seq (.cond E12 .skip (.exit 2))
 (.seq (.blk 3 (.seq (.reg [i (.idxs 1 E9 E11),i (ld L0)] [(4,L1)])
 (.seq (.reg [i (.call 163 [E4] false),i (.una .not L0)] [(13,L1)])
 (.cond E13 (.seq (.reg [] [(1,v (.int .i64 150))])
 .ret) .skip))))
 (.reg [i (.bin .add E11 V1)] [(11,L0)]))))
def l_qeg_1:ACode:=
 (.seq (.reg [i (.bin .lss E7 E6)] [(8,L0)])
 (.seq (.cond E8 .skip (.exit 0))
 (.seq (.blk 1 (.seq (.reg [i (.idxs 1 E5 E7),i (ld L0)] [(3,L1)])
 (.seq (.seq (.reg [i (.len E3)] [(9,E3),(10,L0),(11,V0)])
 (.blk 2 (.loop [1,4,12,13] l_qeg_0)))
 (.reg [i (.len E3),i (.maxs E2 [L0])] [(2,L1)]))))
 (.reg [i (.bin .add E7 V1)] [(7,L0)]))))
def b_qeg:ACode:=
 (.seq (.reg [] [(1,V0)])
 (.seq (.reg [] [(2,V0)])
 (.seq (.seq (.reg [i (.len E0)] [(5,E0),(6,L0),(7,V0)])
 (.blk 0 (.loop [1,3,4,8,9,10,11,12,13] l_qeg_1)))
 (.seq (.seq (.reg [i (.bin .gtr E2 (v (.int .i64 8000)))] [(14,L0)])
 (.cond E14 (.seq (.reg [] [(1,v (.int .i64 3))])
 .ret) .skip))
 (.seq (.reg [] [(1,V0)])
 .ret)))))
def f_qeg:AFunc:=⟨15,1,.pure,[.env 1],b_qeg⟩
def b_qee:ACode:=
 (.seq (.reg [i (.mov Vn)] [(1,L0),(2,V0)])
 (.seq (.seq (.reg [i (.mkl 1 [E0]),i (.call 79 [L0] false)] [(3,L1)])
 (.seq (.reg [i (.bin .neq E3 V0)] [(4,L0)])
 (.cond E4 (.seq (.reg [i (.mov Vn)] [(1,L0),(2,E3)])
 .ret) .skip)))
 (.seq (.reg [i (.call 80 [E0] true)] [(1,L0),(2,V0)])
 .ret)))
def f_qee:AFunc:=⟨5,1,.pure,[.env 1,.env 2],b_qee⟩
def b_qbn:ACode:=
 (.seq (.reg [i (.box 12 E1),i (.mov Vn)] [(2,L0),(3,L1),(4,Vf)])
 (.seq (.reg [i (.nilck E0),i (.fld 4 L0),i (ld L1)] [(5,L2)])
 (.seq (.seq (.reg [i (.fld 0 E2),i (ld L0),i (.bin .eql L1 (v (.int .i64 9)))] [(6,L2)])
 (.cond E6 (.reg [i (.nilck E0),i (.fld 5 L0),i (ld L1)] [(5,L2)]) .skip))
 (.seq (.seq (.reg [i (.fld 3 E2),i (ld L0),i (.len E5),i (.bin .geq L1 L2),g L3 false (.mov E5),g L3 false (.fld 3 E2),g L3 false (ld L5),g L3 false (.idxs 1 L4 L6),g L3 false (ld L7),g L3 false (.fld 4 E2),g L3 false (ld L9),g L3 false (.call 75 [L8,L10] false),g L3 false (.una .not L11),i (.pick L3 Vt L12)] [(7,L13)])
 (.cond E7 (.seq (.reg [i (.mov Vn)] [(3,L0),(4,Vf)])
 .ret) .skip))
 (.seq (.reg [i (.fld 3 E2),i (ld L0),i (.idxs 1 E5 L1),i (ld L2)] [(3,L3),(4,Vt)])
 .ret)))))
def f_qbn:AFunc:=⟨8,2,.keep,[.env 3,.env 4],b_qbn⟩
def b_qbi:ACode:=
 (.seq (.reg [] [(0,v (.nilm))])
 (.seq (.reg [i (.mkmap),i (.mput L0 V1 (v (.fn 98 [] []))),i (.mput L0 (v (.int .i64 9)) (v (.fn 98 [] []))),i (.mput L0 (v (.int .i64 2)) (v (.fn 99 [] []))),i (.mput L0 (v (.int .i64 3)) (v (.fn 100 [] []))),i (.mput L0 (v (.int .i64 5)) (v (.fn 101 [] []))),i (.mput L0 (v (.int .i64 4)) (v (.fn 102 [] []))),i (.mput L0 (v (.int .i64 10)) (v (.fn 103 [] []))),i (.mput L0 (v (.int .i64 11)) (v (.fn 104 [] []))),i (.mput L0 (v (.int .i64 6)) (v (.fn 105 [] []))),i (.mput L0 (v (.int .i64 7)) (v (.fn 106 [] []))),i (.mput L0 (v (.int .i64 8)) (v (.fn 107 [] [])))] [(0,L0)])
 .ret))
def f_qbi:AFunc:=⟨1,0,.pure,[.env 0],b_qbi⟩
def b_qfa:ACode:=
 (.seq (.reg [] [(2,Vf)])
 (.seq (.reg [i (.call 160 [E0,E1] false),i (.bin .geq L0 V0)] [(2,L1)])
 .ret))
def f_qfa:AFunc:=⟨3,2,.pure,[.env 2],b_qfa⟩
def b_qbj:ACode:=
 (.seq (.reg [i (.box 1 E1)] [(2,L0),(3,Vf)])
 (.seq (.seq (.reg [i (.len E0),i (.bin .gtr L0 (v (.int .i64 8000)))] [(4,L1)])
 (.cond E4 (.seq (.reg [] [(3,Vf)])
 .ret) .skip))
 (.seq (.reg [i (.mkfn 161 [] [E2]),i (.call 42 [E0,L0] false),i (.una .not L1)] [(3,L2)])
 .ret)))
def f_qbj:AFunc:=⟨5,2,.pure,[.env 3],b_qbj⟩
def b_qcg:ACode:=
 (.seq (.reg [i (.box 7 E0),i (.box 1 E1),i (.box 7 (v (.agg [.int .u32 0,.int .u64 0,.nil0,.int .u64 0,.int .u64 0,n0,nf])))] [(2,L0),(3,L1),(4,L2),(5,V0)])
 (.seq (.reg [i (.load true 7 E2),i (.mkfn 514 [] [E3]),i (.call 504 [L0,L1] false),i (.ext 0 L2),i (.ext 1 L2),i (.store 7 E4 L3)] [(5,L4)])
 .ret))
def f_qcg:AFunc:=⟨6,2,.pure,[.cell true 7 4,.env 5],b_qcg⟩
def b_qcc:ACode:=
 (.seq (.reg [i (.box 7 E0),i (.box 7 (v (.agg [.int .u32 0,.int .u64 0,.nil0,.int .u64 0,.int .u64 0,n0,nf])))] [(1,L0),(2,L1),(3,V0)])
 (.seq (.reg [i (.load true 7 E1),i (.call 504 [L0,(v (.fn 515 [] []))] false),i (.ext 0 L1),i (.ext 1 L1),i (.store 7 E2 L2)] [(3,L3)])
 .ret))
def f_qcc:AFunc:=⟨4,1,.pure,[.cell true 7 2,.env 3],b_qcc⟩
def b_qex:ACode:=
 (.seq (.reg [] [(2,Vf)])
 (.seq (.reg [i (.call 516 [E0,E1] false),i (.bin .geq L0 V0)] [(2,L1)])
 .ret))
def f_qex:AFunc:=⟨3,2,.pure,[.env 2],b_qex⟩
def b_qfw:ACode:=
 (.seq (.reg [i (.box 9 E0)] [(2,L0),(3,Vf)])
 (.seq (.reg [i (ld E1),i (.load true 9 E2),i (.callv L0 [L1]),i (.una .not L2)] [(3,L3)])
 .ret))
def f_qfw:AFunc:=⟨4,2,.pure,[.env 3],b_qfw⟩
def b_qcr:ACode:=
 (.seq (.reg [i (.box 7 E0),i (.box 7 (v (.agg [.int .u32 0,.int .u64 0,.nil0,.int .u64 0,.int .u64 0,n0,nf])))] [(2,L0),(3,L1),(4,V0)])
 (.seq (.seq (.reg [i (.load true 7 E2),i (.call 511 [L0] false)] [(5,L1)])
 (.seq (.reg [i (.bin .neq E5 V0)] [(8,L0)])
 (.cond E8 (.seq (.reg [i (.build [.int .u32 0,.int .u64 0,.nil0,.int .u64 0,.int .u64 0,n0,nf] []),i (.store 7 E3 L0)] [(4,E5)])
 .ret) .skip)))
 (.seq (.reg [i (.load true 7 E2),i (.box 7 (v (.agg [.int .u32 0,.int .u64 0,.nil0,.int .u64 0,.int .u64 0,n0,nf]))),i (.store 7 L1 L0)] [(6,L1)])
 (.seq (.reg [i (.fld 2 E2),i (ld L0),i (.call 517 [L1] true),i (.fld 2 E6),i (.store 1 L3 L2)] [])
 (.seq (.seq (.reg [i (.callv E1 [E6])] [(7,L0)])
 (.seq (.reg [i (.bin .neq E7 V0)] [(9,L0)])
 (.cond E9 (.seq (.reg [i (.build [.int .u32 0,.int .u64 0,.nil0,.int .u64 0,.int .u64 0,n0,nf] []),i (.store 7 E3 L0)] [(4,E7)])
 .ret) .skip)))
 (.seq (.reg [i (.load true 7 E6),i (.store 7 E3 L0)] [(4,V0)])
 .ret))))))
def f_qcr:AFunc:=⟨10,2,.keep,[.cell true 7 3,.env 4],b_qcr⟩
def l_qca_0:ACode:=
 (.seq (.reg [i (.bin .lss E11 E10)] [(12,L0)])
 (.seq (.cond E12 .skip (.exit 0))
 (.seq (.blk 1 (.seq (.reg [i (.idxs 4 E9 E11),i (.load true 4 L0),i (.box 4 (v (.agg [.int .u64 0,.nil0,nf,.int .u64 0]))),i (.store 4 L2 L1)] [(7,L2),(6,E11)])
 (.seq (.seq (.reg [i (.fld 0 E7),i (ld L0),i (.bin .leq L1 E5),g L2 false (.fld 0 E7),g L2 false (ld L3),g L2 false (.load true 6 E1),g L2 false (.call 505 [L5] false),g L2 false (.bin .gtr L4 L6),i (.pick L2 Vt L7),g L8 false (.fld 1 E7),g L8 false (.load true 3 L9),g L8 false (.fld 0 E7),g L8 false (ld L11),g L8 false (.call 522 [L10,L12] false),g L8 false (.una .not L13),i (.pick L8 Vt L14),g L15 false (.fld 1 E7),g L15 false (.fld 1 L16),g L15 false (ld L17),g L15 false (.mov L18),g L19 true (.mov E6),g L19 true (.fld 2 E1),g L19 true (ld L21),g L19 true (.len L22),g L19 true (.bin .sub L23 V1),g L19 true (.bin .lss L20 L24),g L15 false (.pick L19 L25 Vf),i (.pick L15 Vt L26)] [(13,L27)])
 (.cond E13 (.seq (.reg [] [(2,v (.int .i64 320))])
 .ret) .skip))
 (.reg [i (.fld 0 E7),i (ld L0)] [(5,L1)]))))
 (.reg [i (.bin .add E11 V1)] [(11,L0)]))))
def b_qca:ACode:=
 (.seq (.reg [i (.box 6 E0)] [(1,L0),(2,V0)])
 (.seq (.reg [i (.fld 3 E1),i (ld L0),i (.len L1)] [(3,L2)])
 (.seq (.reg [i (.fld 0 E1),i (ld L0),i (.call 460 [L1] false),g L2 true (.fld 4 E1),g L2 true (ld L3),g L2 true (.bin .geq L4 V1),i (.pick L2 L5 Vf),g L6 true (.fld 4 E1),g L6 true (ld L7),g L6 true (.bin .leq L8 (v (.int .i64 8))),i (.pick L6 L9 Vf),g L10 true (.fld 1 E1),g L10 true (ld L11),g L10 true (.bin .geq L12 (v (.int .u64 1))),i (.pick L10 L13 Vf),g L14 true (.fld 1 E1),g L14 true (ld L15),g L14 true (.bin .leq L16 (v (.int .u64 1099511627777))),i (.pick L14 L17 Vf),g L18 true (.mov E3),g L18 true (.fld 4 E1),g L18 true (ld L20),g L18 true (.bin .leq L19 L21),i (.pick L18 L22 Vf),g L23 true (.mov E3),g L23 true (.conv .u64 L24),g L23 true (.fld 1 E1),g L23 true (ld L26),g L23 true (.bin .lss L25 L27),i (.pick L23 L28 Vf)] [(4,L29)])
 (.seq (.reg [g E4 true (.fld 3 E1),g E4 true (ld L0),g E4 true (.fld 1 E1),g E4 true (ld L2),g E4 true (.mov E3),g E4 true (.conv .u64 L4),g E4 true (.bin .sub L3 L5),g E4 true (.call 523 [L1,L6] false),i (.pick E4 L7 Vf),g L8 true (.fld 2 E1),g L8 true (ld L9),g L8 true (.len L10),g L8 true (.bin .eql L11 V0),g L8 true (.mov L12),g L13 false (.fld 3 E1),g L13 false (ld L14),g L13 false (.call 524 [L15] false),g L13 false (.una .not L16),g L8 true (.pick L13 Vt L17),i (.pick L8 L18 Vf)] [(4,L19)])
 (.seq (.seq (.reg [i (.una .not E4),g L0 false (.fld 5 E1),g L0 false (ld L1),g L0 false (.mov L2),g L3 true (.mov E3),g L3 true (.bin .gtr L4 V0),g L3 true (.mov L5),g L6 false (.fld 2 E1),g L6 false (ld L7),g L6 false (.len L8),g L6 false (.bin .gtr L9 V0),g L3 true (.pick L6 Vt L10),g L3 true (.mov L11),g L12 false (.fld 1 E1),g L12 false (ld L13),g L12 false (.bin .lss L14 (v (.int .u64 2))),g L3 true (.pick L12 Vt L15),g L0 false (.pick L3 L16 Vf),i (.pick L0 Vt L17)] [(8,L18)])
 (.cond E8 (.seq (.reg [] [(2,v (.int .i64 320))])
 .ret) .skip))
 (.seq (.reg [i (.fld 1 E1),i (ld L0)] [(5,L1)])
 (.seq (.seq (.reg [i (.fld 2 E1),i (ld L0),i (.len L1)] [(9,L1),(10,L2),(11,V0)])
 (.blk 0 (.loop [2,6,7,12,13] l_qca_0)))
 (.seq (.reg [] [(2,V0)])
 .ret))))))))
def f_qca:AFunc:=⟨14,1,.pure,[.env 2],b_qca⟩
def b_qcn:ACode:=
 (.seq (.reg [i (.box 6 E0)] [(1,L0),(2,v (.int .u64 0))])
 (.seq (.reg [i (.fld 1 E1),i (ld L0),i (.bin .sub L1 (v (.int .u64 1))),i (.fld 4 E1),i (ld L3),i (.fld 3 E1),i (ld L5),i (.len L6),i (.bin .sub L4 L7),i (.conv .u64 L8),i (.bin .add L2 L9),i (.mins L10 [(v (.int .u64 1099511627776))])] [(2,L11)])
 .ret))
def f_qcn:AFunc:=⟨3,1,.pure,[.env 2],b_qcn⟩
def b_qdv:ACode:=
 (.seq (.reg [] [(1,Vf)])
 (.seq (.reg [i (.bin .lss E0 V1),g L0 false (.mov E0),g L0 false (.bin .gtr L1 (v (.int .i64 3))),i (.pick L0 Vt L2)] [(1,L3)])
 .ret))
def f_qdv:AFunc:=⟨2,1,.pure,[.env 1],b_qdv⟩
def b_qdp:ACode:=
 (.seq (.reg [] [(1,Vf)])
 (.seq (.reg [i (.bin .lss E0 V0),g L0 false (.mov E0),g L0 false (.bin .gtr L1 (v (.int .i64 4))),i (.pick L0 Vt L2)] [(1,L3)])
 .ret))
def f_qdp:AFunc:=⟨2,1,.pure,[.env 1],b_qdp⟩
def l_qeu_0:ACode:=
 (.seq (.reg [i (.bin .lss E13 E12)] [(14,L0)])
 (.seq (.cond E14 .skip (.exit 2))
 (.seq (.blk 3 (.seq (.reg [i (.idxs 1 E11 E13),i (ld L0)] [(5,L1)])
 (.reg [i (.app 1 E4 E5)] [(4,L0)])))
 (.reg [i (.bin .add E13 V1)] [(13,L0)]))))
def l_qeu_1:ACode:=
 (.seq (.reg [i (.bin .lss E8 E7)] [(9,L0)])
 (.seq (.cond E9 .skip (.exit 0))
 (.seq (.blk 1 (.seq (.reg [i (.idxs 1 E6 E8),i (ld L0)] [(3,L1)])
 (.seq (.reg [i (.len E3),i (.bin .add E2 L0)] [(2,L1)])
 (.seq (.reg [i (.bin .lss E2 V0)] [(10,L0)])
 (.cond E10 (.reg [i (.bad),i (.bad)] []) .skip)))))
 (.reg [i (.bin .add E8 V1)] [(8,L0)]))))
def b_qeu:ACode:=
 (.seq (.reg [i (.mov Vn)] [(1,L0)])
 (.seq (.reg [] [(2,V0)])
 (.seq (.seq (.reg [i (.len E0)] [(6,E0),(7,L0),(8,V0)])
 (.blk 0 (.loop [3,9,10] l_qeu_1)))
 (.seq (.reg [i (.call 339 [Vn,E2] false)] [(4,L0)])
 (.seq (.seq (.reg [i (.len E0)] [(11,E0),(12,L0),(13,V0)])
 (.blk 2 (.loop [5,14] l_qeu_0)))
 (.seq (.reg [] [(1,E4)])
 .ret))))))
def f_qeu:AFunc:=⟨15,1,.pure,[.env 1],b_qeu⟩
def b_qeb:ACode:=
 (.seq (.reg [i (.box 1 E0)] [(2,L0),(3,Vf)])
 (.seq (.reg [i (lt E2),i (.call 276 [L0,E1] false),i (.ext 0 L1),i (.ext 1 L1)] [(4,L2),(5,L3)])
 (.seq (.reg [i (.bin .eql E5 V0),g L0 true (.mov E4),g L0 true (.bin .eql L1 V0),g L0 true (.mov L2),g L3 false (.mov E4),g L3 false (.bin .eql L4 V1),g L0 true (.pick L3 Vt L5),i (.pick L0 L6 Vf)] [(3,L7)])
 .ret)))
def f_qeb:AFunc:=⟨6,2,.pure,[.env 3],b_qeb⟩
def l_qbr_0:ACode:=
 (.seq (.reg [i (.bin .lss E17 E16)] [(18,L0)])
 (.seq (.cond E18 .skip (.exit 2))
 (.seq (.blk 3 (.seq (.reg [i (.idxs 1 E15 E17),i (ld L0)] [(8,L1)])
 (.seq (.reg [i (ld E3),i (.len L0),i (.bin .geq E8 L1)] [(19,L2)])
 (.cond E19 (.seq (.reg [] [(4,V0),(5,v (.int .i64 2))])
 .ret) .skip))))
 (.reg [i (.bin .add E17 V1)] [(17,L0)]))))
def l_qbs:ACode:=
 (.seq (.reg [i (.bin .lss E12 E11)] [(13,L0)])
 (.seq (.cond E13 .skip (.exit 0))
 (.seq (.blk 1 (.seq (.reg [i (.idxs 1 E10 E12),i (ld L0)] [(7,L1)])
 (.seq (.reg [i (.bin .lss E7 V0),g L0 false (.mov E7),g L0 false (.bin .gtr L1 (v (.int .i64 3))),i (.pick L0 Vt L2)] [(14,L3)])
 (.cond E14 (.seq (.reg [] [(4,V0),(5,v (.int .i64 2))])
 .ret) .skip))))
 (.reg [i (.bin .add E12 V1)] [(12,L0)]))))
def b_qbr:ACode:=
 (.seq (.reg [i (.box 1 E0),i (.box 1 E1)] [(2,L0),(3,L1),(4,V0),(5,V0)])
 (.seq (.seq (.reg [i (lt E2),i (.call 71 [L0] false)] [(6,L1)])
 (.seq (.reg [i (.bin .neq E6 V0)] [(9,L0)])
 (.cond E9 (.seq (.reg [] [(4,V0),(5,E6)])
 .ret) .skip)))
 (.seq (.seq (.reg [i (ld E3),i (.len L0)] [(10,L0),(11,L1),(12,V0)])
 (.blk 0 (.loop [4,5,7,13,14] l_qbs)))
 (.seq (.seq (.reg [i (lt E2),i (.call 207 [L0] false),i (.len L1)] [(15,L1),(16,L2),(17,V0)])
 (.blk 2 (.loop [4,5,8,18,19] l_qbr_0)))
 (.seq (.reg [i (lt E2),i (.mkfn 340 [] [E3]),i (.call 341 [L0,L1] false),i (.ext 0 L2),i (.ext 1 L2)] [(4,L3),(5,L4)])
 .ret)))))
def f_qbr:AFunc:=⟨20,2,.pure,[.env 4,.env 5],b_qbr⟩
def b_qew:ACode:=
 (.seq (.reg [] [(2,Vf)])
 (.seq (.reg [i (.call 196 [E0,E1] false),i (.bin .geq L0 V0)] [(2,L1)])
 .ret))
def f_qew:AFunc:=⟨3,2,.pure,[.env 2],b_qew⟩
def b_qdx:ACode:=
 (.seq (.reg [i (.box 2 E0)] [(2,L0),(3,Vf)])
 (.seq (.reg [i (.fld 0 E2),i (ld L0),i (.bin .lss L1 V0),g L2 false (.fld 0 E2),g L2 false (ld L3),g L2 false (ld E1),g L2 false (.nilck L5),g L2 false (.fld 15 L6),g L2 false (ld L7),g L2 false (.len L8),g L2 false (.bin .geq L4 L9),i (.pick L2 Vt L10)] [(3,L11)])
 .ret))
def f_qdx:AFunc:=⟨4,2,.pure,[.env 3],b_qdx⟩
def l_qcz_0:ACode:=
 (.seq (.reg [i (.bin .lss E19 E18)] [(20,L0)])
 (.seq (.cond E20 .skip (.exit 4))
 (.seq (.blk 5 (.seq (.reg [i (.idxs 1 E17 E19),i (ld L0)] [(7,L1)])
 (.seq (.reg [i (.build [n0,n0,n0] [(0,1,E3),(1,1,E6),(2,1,E7)]),i (.callv E0 [L0,E5]),i (.una .not L1)] [(21,L2)])
 (.cond E21 .ret .skip))))
 (.reg [i (.bin .add E19 V1)] [(19,L0)]))))
def l_qcz_1:ACode:=
 (.seq (.reg [i (.bin .lss E15 E14)] [(16,L0)])
 (.seq (.cond E16 .skip (.exit 2))
 (.seq (.blk 3 (.seq (.reg [i (.idxs 1 E13 E15),i (ld L0)] [(6,L1)])
 (.seq (.reg [i (.fld 0 E1),i (ld L0),i (.idxs 4 L1 E5),i (.load true 4 L2),i (ld E2),i (.call 456 [L3,L4] false),i (.len L5)] [(17,L5),(18,L6),(19,V0)])
 (.blk 4 (.loop [7,20,21] l_qcz_0)))))
 (.reg [i (.bin .add E15 V1)] [(15,L0)]))))
def l_qcz_2:ACode:=
 (.seq (.reg [i (.bin .lss E10 E9)] [(11,L0)])
 (.seq (.cond E11 .skip (.exit 0))
 (.seq (.blk 1 (.seq (.reg [i (.idxs 4 E8 E10),i (.load true 4 L0),i (.box 4 (v (.agg [.nil0,n0,n0,.nil0]))),i (.store 4 L2 L1)] [(4,L2),(3,E10)])
 (.seq (.reg [i (lt E1),i (.call 525 [L0,E3] false)] [(5,L1)])
 (.seq (.seq (.reg [i (.bin .lss E5 V0)] [(12,L0)])
 (.cond E12 (.exit 1) .skip))
 (.seq (.reg [i (.load true 4 E4),i (ld E2),i (.call 456 [L0,L1] false),i (.len L2)] [(13,L2),(14,L3),(15,V0)])
 (.blk 2 (.loop [6,7,16,17,18,19,20,21] l_qcz_1)))))))
 (.reg [i (.bin .add E10 V1)] [(10,L0)]))))
def b_qcz:ACode:=
 (.seq (.reg [i (.fld 0 E1),i (ld L0),i (.len L1)] [(8,L1),(9,L2),(10,V0)])
 (.blk 0 (.loop [3,4,5,6,7,11,12,13,14,15,16,17,18,19,20,21] l_qcz_2)))
def f_qcz:AFunc:=⟨22,3,.keep,[],b_qcz⟩
def b_qdb:ACode:=
 (.seq (.reg [i (.box 1 E0)] [(2,L0),(3,V0)])
 (.seq (.seq (.reg [i (lt E2),i (.call 526 [L0,E1] false),i (.ext 0 L1),i (.ext 1 L1),i (.ext 2 L1)] [(4,L2),(5,L4)])
 (.seq (.reg [] [(6,E5)])
 (.cond E6 (.seq (.reg [] [(3,E4)])
 .ret) .skip)))
 (.seq (.reg [] [(3,v (.int .i64 (-1)))])
 .ret)))
def f_qdb:AFunc:=⟨7,2,.pure,[.env 3],b_qdb⟩
def b_qw:ACode:=
 (.seq (.reg [] [(1,V0)])
 (.seq (.seq (.reg [] [(2,E0)])
 (.blk 0 (.seq (.reg [i (.bin .eql E2 V1)] [(3,L0)])
 (.cond E3 (.seq (.reg [] [(1,V0)])
 .ret) (.seq (.seq (.reg [i (.bin .eql E2 (v (.int .i64 2)))] [(4,L0)])
 (.cond E4 .skip (.reg [i (.bin .eql E2 (v (.int .i64 7)))] [(4,L0)])))
 (.cond E4 (.seq (.reg [] [(1,v (.int .i64 2))])
 .ret) (.seq (.seq (.reg [i (.bin .eql E2 (v (.int .i64 3)))] [(5,L0)])
 (.cond E5 .skip (.seq (.reg [i (.bin .eql E2 (v (.int .i64 4)))] [(5,L0)])
 (.cond E5 .skip (.seq (.reg [i (.bin .eql E2 (v (.int .i64 5)))] [(5,L0)])
 (.cond E5 .skip (.seq (.reg [i (.bin .eql E2 (v (.int .i64 6)))] [(5,L0)])
 (.cond E5 .skip (.reg [i (.bin .eql E2 (v (.int .i64 8)))] [(5,L0)])))))))))
 (.cond E5 (.seq (.reg [] [(1,V1)])
 .ret) .skip))))))))
 (.seq (.reg [] [(1,v (.int .i64 (-1)))])
 .ret)))
def f_qw:AFunc:=⟨6,1,.pure,[.env 1],b_qw⟩
def b_qaa:ACode:=
 (.seq (.reg [i (.box 1 E0)] [(2,L0),(3,V0)])
 (.seq (.seq (.reg [i (.bin .lss E1 V0),g L0 false (.mov E1),g L0 false (.fld 0 E2),g L0 false (ld L2),g L0 false (.len L3),g L0 false (.bin .geq L1 L4),i (.pick L0 Vt L5)] [(8,L6)])
 (.cond E8 (.seq (.reg [] [(3,V0)])
 .ret) .skip))
 (.seq (.reg [i (.fld 0 E2),i (ld L0),i (.idxs 12 L1 E1),i (.load true 12 L2),i (.box 12 (v (.agg [n0,n0,n0,n0,.nil0,nf,.nil0,.nil0,.nil0,.nil0,.nil0,n0]))),i (.store 12 L4 L3)] [(4,L4)])
 (.seq (.seq (.reg [i (.fld 0 E4),i (ld L0),i (.call 299 [L1] false)] [(9,L2)])
 (.blk 0 (.seq (.reg [i (.bin .eql E9 V0)] [(10,L0)])
 (.cond E10 (.seq (.reg [i (.fld 1 E4),i (ld L0),i (.bin .eql L1 (v (.int .i64 (-1)))),g L2 true (.fld 2 E4),g L2 true (ld L3),g L2 true (.bin .eql L4 (v (.int .i64 (-1)))),i (.pick L2 L5 Vf)] [(11,L6)])
 (.cond E11 (.seq (.reg [] [(3,V1)])
 .ret) .skip)) (.seq (.reg [i (.bin .eql E9 V1)] [(12,L0)])
 (.cond E12 (.seq (.reg [i (.fld 1 E4),i (ld L0),i (.bin .sub E1 V1),i (.bin .eql L1 L2),g L3 true (.fld 2 E4),g L3 true (ld L4),g L3 true (.bin .eql L5 (v (.int .i64 (-1)))),i (.pick L3 L6 Vf)] [(13,L7)])
 (.cond E13 (.seq (.reg [i (lt E2),i (.fld 1 E4),i (ld L1),i (.call 301 [L0,L2] false)] [(5,L3)])
 (.seq (.reg [i (.bin .gtr E5 V0)] [(14,L0)])
 (.cond E14 (.seq (.reg [i (.bin .add E5 V1)] [(3,L0)])
 .ret) .skip))) .skip)) (.seq (.reg [i (.bin .eql E9 (v (.int .i64 2)))] [(15,L0)])
 (.cond E15 (.seq (.reg [i (.fld 2 E4),i (ld L0),i (.bin .sub E1 V1),i (.bin .eql L1 L2)] [(16,L3)])
 (.cond E16 (.seq (.reg [i (lt E2),i (.fld 2 E4),i (ld L1),i (.call 301 [L0,L2] false)] [(6,L3)])
 (.seq (.reg [i (.bin .gtr E6 V0),g L0 true (.fld 1 E4),g L0 true (ld L1),g L0 true (.fld 2 E4),g L0 true (ld L3),g L0 true (.mov E6),g L0 true (.bin .sub L4 L5),g L0 true (.bin .eql L2 L6),i (.pick L0 L7 Vf)] [(17,L8)])
 (.cond E17 (.seq (.reg [i (lt E2),i (.fld 1 E4),i (ld L1),i (.call 301 [L0,L2] false)] [(7,L3)])
 (.seq (.reg [i (.bin .gtr E7 V0)] [(18,L0)])
 (.cond E18 (.seq (.reg [i (.bin .add E7 E6),i (.bin .add L0 V1)] [(3,L1)])
 .ret) .skip))) .skip))) .skip)) .skip))))))))
 (.seq (.reg [] [(3,V0)])
 .ret)))))
def f_qaa:AFunc:=⟨19,2,.pure,[.env 3],b_qaa⟩
def l_qac_0:ACode:=
 (.seq (.seq (.reg [i (.fld 10 E3),i (ld L0),i (.len L1),i (.bin .lss E18 L2)] [(35,L3)])
 (.cond E35 .skip (.exit 11)))
 (.seq (.blk 12 (.reg [g E7 true (.fld 10 E3),g E7 true (ld L0),g E7 true (.mov E18),g E7 true (.idxs 2 L1 L2),g E7 true (.fld 0 L3),g E7 true (ld L4),g E7 true (.bin .geq L5 V0),i (.pick E7 L6 Vf),g L7 true (.fld 10 E3),g L7 true (ld L8),g L7 true (.mov E18),g L7 true (.idxs 2 L9 L10),g L7 true (.fld 0 L11),g L7 true (ld L12),g L7 true (.mov E1),g L7 true (.len L14),g L7 true (.bin .lss L13 L15),i (.pick L7 L16 Vf)] [(7,L17)]))
 (.reg [i (.bin .add E18 V1)] [(18,L0)])))
def l_qac_1:ACode:=
 (.seq (.seq (.reg [i (.fld 4 E3),i (ld L0),i (.len L1),i (.bin .lss E8 L2)] [(21,L3)])
 (.cond E21 .skip (.exit 1)))
 (.seq (.blk 2 (.reg [g E7 true (.fld 4 E3),g E7 true (ld L0),g E7 true (.mov E8),g E7 true (.idxs 1 L1 L2),g E7 true (ld L3),g E7 true (.bin .geq L4 V1),i (.pick E7 L5 Vf),g L6 true (.fld 4 E3),g L6 true (ld L7),g L6 true (.mov E8),g L6 true (.idxs 1 L8 L9),g L6 true (ld L10),g L6 true (.bin .leq L11 (v (.int .i64 3))),i (.pick L6 L12 Vf)] [(7,L13)]))
 (.reg [i (.bin .add E8 V1)] [(8,L0)])))
def l_qac_2:ACode:=
 (.seq (.seq (.reg [i (.fld 8 E3),i (ld L0),i (.len L1),i (.bin .lss E10 L2)] [(27,L3)])
 (.cond E27 .skip (.exit 5)))
 (.seq (.blk 6 (.seq (.reg [i (.fld 8 E3),i (ld L0),i (.idxs 2 L1 E10),i (.load true 2 L2),i (.call 360 [L3,E1] false),i (.ext 0 L4),i (.ext 1 L4)] [(11,L5),(12,L6)])
 (.seq (.reg [i (.mkl 1 [E11]),i (.app 1 E6 L0)] [(6,L1)])
 (.reg [g E7 true (.mov E12),i (.pick E7 L0 Vf)] [(7,L1)]))))
 (.reg [i (.bin .add E10 V1)] [(10,L0)])))
def l_qac_3:ACode:=
 (.seq (.seq (.reg [i (.fld 7 E3),i (ld L0),i (.len L1),i (.bin .lss E9 L2)] [(25,L3)])
 (.cond E25 .skip (.exit 3)))
 (.seq (.blk 4 (.seq (.seq (.reg [i (.fld 7 E3),i (ld L0),i (.idxs 1 L1 E9),i (ld L2),i (.bin .lss L3 V0),g L4 false (.fld 7 E3),g L4 false (ld L5),g L4 false (.mov E9),g L4 false (.idxs 1 L6 L7),g L4 false (ld L8),g L4 false (.mov E1),g L4 false (.len L10),g L4 false (.bin .geq L9 L11),i (.pick L4 Vt L12)] [(26,L13)])
 (.cond E26 (.seq (.reg [i (.mov Vn)] [(4,L0),(5,Vf)])
 .ret) .skip))
 (.reg [i (.fld 7 E3),i (ld L0),i (.idxs 1 L1 E9),i (ld L2),i (.idxs 1 E1 L3),i (ld L4),i (.mkl 1 [L5]),i (.app 1 E6 L6)] [(6,L7)])))
 (.reg [i (.bin .add E9 V1)] [(9,L0)])))
def l_qac_4:ACode:=
 (.seq (.seq (.reg [i (.fld 9 E3),i (ld L0),i (.len L1),i (.bin .lss E13 L2)] [(29,L3)])
 (.cond E29 .skip (.exit 7)))
 (.seq (.blk 8 (.seq (.reg [i (.fld 9 E3),i (ld L0),i (.idxs 1 L1 E13),i (lt L2),i (.call 361 [L3,E1] false),i (.ext 0 L4),i (.ext 1 L4)] [(14,L5),(15,L6)])
 (.seq (.reg [i (.mkl 1 [E14]),i (.app 1 E6 L0)] [(6,L1)])
 (.reg [g E7 true (.mov E15),g E7 true (.bin .eql L0 V0),i (.pick E7 L1 Vf)] [(7,L2)]))))
 (.reg [i (.bin .add E13 V1)] [(13,L0)])))
def l_qac_5:ACode:=
 (.seq (.seq (.reg [i (.len E1),i (.bin .lss E16 L0)] [(33,L1)])
 (.cond E33 .skip (.exit 9)))
 (.seq (.blk 10 (.seq (.reg [i (.idxs 1 E1 E16),i (ld L0)] [(17,L1)])
 (.seq (.seq (.reg [i (.bin .eql E17 V0)] [(34,L0)])
 (.cond E34 (.reg [i (.idxs 1 E2 E16),i (ld L0)] [(17,L1)]) .skip))
 (.seq (.reg [i (.mkl 1 [E17]),i (.app 1 E6 L0)] [(6,L1)])
 (.reg [g E7 true (.mov E2),g E7 true (.mov E16),g E7 true (.idxs 1 L0 L1),g E7 true (ld L2),g E7 true (.mov E17),g E7 true (.bin .eql L3 L4),g E7 true (.mov L5),g L6 false (.mov E2),g L6 false (.mov E16),g L6 false (.idxs 1 L7 L8),g L6 false (ld L9),g L6 false (.bin .eql L10 V0),g E7 true (.pick L6 Vt L11),i (.pick E7 L12 Vf)] [(7,L13)])))))
 (.reg [i (.bin .add E16 V1)] [(16,L0)])))
def b_qac:ACode:=
 (.seq (.reg [i (.box 12 E0),i (.mov Vn)] [(3,L0),(4,L1),(5,Vf)])
 (.seq (.reg [i (.mknil 1)] [(6,L0)])
 (.seq (.reg [] [(7,Vt)])
 (.seq (.seq (.reg [i (.fld 0 E3),i (ld L0)] [(19,L1)])
 (.blk 0 (.seq (.reg [i (.bin .eql E19 V1)] [(20,L0)])
 (.cond E20 (.seq (.seq (.reg [] [(8,V0)])
 (.blk 1 (.loop [21] l_qac_1)))
 (.seq (.reg [i (.fld 4 E3),i (ld L0),g E7 true (.fld 3 E3),g E7 true (ld L2),g E7 true (.bin .geq L3 V0),i (.pick E7 L4 Vf),g L5 true (.fld 3 E3),g L5 true (ld L6),g L5 true (.bin .leq L7 (v (.int .i64 3))),i (.pick L5 L8 Vf),g L9 true (.fld 4 E3),g L9 true (ld L10),g L9 true (.len L11),g L9 true (.bin .geq L12 V1),i (.pick L9 L13 Vf),g L14 true (.fld 4 E3),g L14 true (ld L15),g L14 true (.len L16),g L14 true (.bin .leq L17 (v (.int .i64 4))),i (.pick L14 L18 Vf)] [(4,L1),(5,L19)])
 .ret)) (.seq (.reg [i (.bin .eql E19 (v (.int .i64 2)))] [(22,L0)])
 (.cond E22 (.seq (.reg [i (.app 1 E6 E1),i (.app 1 L0 E2)] [(6,L1)])
 (.seq (.reg [i (.fld 6 E3),i (lt L0),i (.call 359 [L1,E6] false)] [(4,E6),(5,L2)])
 .ret)) (.seq (.reg [i (.bin .eql E19 (v (.int .i64 3)))] [(23,L0)])
 (.cond E23 (.seq (.reg [i (.fld 6 E3),i (lt L0),i (.call 359 [L1,E1] false)] [(4,E1),(5,L2)])
 .ret) (.seq (.reg [i (.bin .eql E19 (v (.int .i64 4)))] [(24,L0)])
 (.cond E24 (.seq (.seq (.reg [] [(9,V0)])
 (.blk 3 (.loop [4,5,25,26] l_qac_3)))
 (.seq (.seq (.reg [] [(10,V0)])
 (.blk 5 (.loop [11,12,27] l_qac_2)))
 (.seq (.reg [g E7 true (.fld 7 E3),g E7 true (ld L0),g E7 true (.len L1),g E7 true (.bin .leq L2 (v (.int .i64 3))),i (.pick E7 L3 Vf),g L4 true (.fld 8 E3),g L4 true (ld L5),g L4 true (.len L6),g L4 true (.bin .leq L7 (v (.int .i64 12))),i (.pick L4 L8 Vf),g L9 true (.mov E6),g L9 true (.len L10),g L9 true (.bin .gtr L11 V0),i (.pick L9 L12 Vf)] [(4,E6),(5,L13)])
 .ret))) (.seq (.reg [i (.bin .eql E19 (v (.int .i64 5)))] [(28,L0)])
 (.cond E28 (.seq (.seq (.reg [] [(13,V0)])
 (.blk 7 (.loop [14,15,29] l_qac_4)))
 (.seq (.reg [g E7 true (.mov E6),g E7 true (.len L0),g E7 true (.bin .geq L1 V1),i (.pick E7 L2 Vf),g L3 true (.mov E6),g L3 true (.len L4),g L3 true (.bin .leq L5 (v (.int .i64 16))),i (.pick L3 L6 Vf)] [(4,E6),(5,L7)])
 .ret)) (.seq (.reg [i (.bin .eql E19 (v (.int .i64 6)))] [(30,L0)])
 (.cond E30 (.seq (.reg [] [(4,E1),(5,Vt)])
 .ret) (.seq (.reg [i (.bin .eql E19 (v (.int .i64 7)))] [(31,L0)])
 (.cond E31 (.seq (.seq (.reg [i (.len E1),i (.len E2),i (.bin .neq L0 L1)] [(32,L2)])
 (.cond E32 (.seq (.reg [i (.mov Vn)] [(4,L0),(5,Vf)])
 .ret) .skip))
 (.seq (.seq (.reg [] [(16,V0)])
 (.blk 9 (.loop [17,33,34] l_qac_5)))
 (.seq (.reg [] [(4,E6),(5,E7)])
 .ret))) .skip))))))))))))))))
 (.seq (.seq (.reg [] [(18,V0)])
 (.blk 11 (.loop [35] l_qac_0)))
 (.seq (.reg [g E7 true (.fld 10 E3),g E7 true (ld L0),g E7 true (.len L1),g E7 true (.bin .leq L2 (v (.int .i64 3))),i (.pick E7 L3 Vf),g L4 true (.fld 11 E3),g L4 true (ld L5),g L4 true (.bin .geq L6 (v (.int .i64 (-1)))),i (.pick L4 L7 Vf),g L8 true (.fld 11 E3),g L8 true (ld L9),g L8 true (.bin .leq L10 (v (.int .i64 2147483647))),i (.pick L8 L11 Vf)] [(4,E1),(5,L12)])
 .ret))))))
def f_qac:AFunc:=⟨36,3,.trunc,[.env 4,.env 5],b_qac⟩
def l_qo_0:ACode:=
 (.seq (.reg [i (.bin .lss E8 E7)] [(9,L0)])
 (.seq (.cond E9 .skip (.exit 0))
 (.seq (.blk 1 (.seq (.reg [] [(5,E8)])
 (.seq (.reg [i (.fld 0 E2),i (ld L0),i (.idxs 8 L1 E5),i (.load true 8 L2),i (.fld 0 E3),i (ld L4),i (.idxs 8 L5 E5),i (.load true 8 L6),i (.eqa true [0,0,0,0,0,0,0,2] L3 L7)] [(10,L8)])
 (.cond E10 (.seq (.reg [] [(4,Vf)])
 .ret) .skip))))
 (.reg [i (.bin .add E8 V1)] [(8,L0)]))))
def b_qo:ACode:=
 (.seq (.reg [i (.box 1 E0),i (.box 1 E1)] [(2,L0),(3,L1),(4,Vf)])
 (.seq (.seq (.reg [i (.fld 0 E2),i (ld L0),i (.len L1),i (.fld 0 E3),i (ld L3),i (.len L4),i (.bin .neq L2 L5)] [(6,L6)])
 (.cond E6 (.seq (.reg [] [(4,Vf)])
 .ret) .skip))
 (.seq (.seq (.reg [i (.fld 0 E2),i (ld L0),i (.len L1)] [(7,L2),(8,V0)])
 (.blk 0 (.loop [4,5,9,10] l_qo_0)))
 (.seq (.reg [] [(4,Vt)])
 .ret))))
def f_qo:AFunc:=⟨11,2,.pure,[.env 4],b_qo⟩
def l_qp_0:ACode:=
 (.seq (.reg [i (.bin .lss E6 E5)] [(7,L0)])
 (.seq (.cond E7 .skip (.exit 0))
 (.seq (.blk 1 (.seq (.reg [] [(3,E6)])
 (.seq (.reg [i (.idxs 1 E0 E3),i (lt L0),i (.idxs 1 E1 E3),i (lt L2),i (.call 507 [L1,L3] false),i (.una .not L4)] [(8,L5)])
 (.cond E8 (.seq (.reg [] [(2,Vf)])
 .ret) .skip))))
 (.reg [i (.bin .add E6 V1)] [(6,L0)]))))
def b_qp:ACode:=
 (.seq (.reg [] [(2,Vf)])
 (.seq (.seq (.reg [i (.len E0),i (.len E1),i (.bin .neq L0 L1)] [(4,L2)])
 (.cond E4 (.seq (.reg [] [(2,Vf)])
 .ret) .skip))
 (.seq (.seq (.reg [i (.len E0)] [(5,L0),(6,V0)])
 (.blk 0 (.loop [2,3,7,8] l_qp_0)))
 (.seq (.reg [] [(2,Vt)])
 .ret))))
def f_qp:AFunc:=⟨9,2,.pure,[.env 2],b_qp⟩
def b_qec:ACode:=
 (.seq (.reg [] [(1,V0)])
 (.seq (.seq (.reg [i (.call 163 [E0] false),i (.una .not L0)] [(2,L1)])
 (.cond E2 (.seq (.reg [] [(1,v (.int .i64 150))])
 .ret) .skip))
 (.seq (.reg [] [(1,V0)])
 .ret)))
def f_qec:AFunc:=⟨3,1,.pure,[.env 1],b_qec⟩
def b_qey:ACode:=
 (.seq (.reg [] [(2,Vf)])
 (.seq (.reg [i (.call 112 [E0,E1] false),i (.bin .geq L0 V0)] [(2,L1)])
 .ret))
def f_qey:AFunc:=⟨3,2,.pure,[.env 2],b_qey⟩
def b_qcb:ACode:=
 (.seq (.reg [i (.box 7 E0)] [(1,L0),(2,V0)])
 (.seq (.reg [i (.fld 0 E1),i (ld L0),i (.call 460 [L1] false),g L2 true (.fld 1 E1),g L2 true (ld L3),g L2 true (.bin .geq L4 (v (.int .u64 1))),i (.pick L2 L5 Vf),g L6 true (.fld 1 E1),g L6 true (ld L7),g L6 true (.bin .leq L8 (v (.int .u64 1099511627776))),i (.pick L6 L9 Vf),g L10 true (.fld 2 E1),g L10 true (ld L11),g L10 true (.len L12),g L10 true (.bin .leq L13 (v (.int .i64 8))),i (.pick L10 L14 Vf),g L15 true (.fld 2 E1),g L15 true (ld L16),g L15 true (.fld 1 E1),g L15 true (ld L18),g L15 true (.call 523 [L17,L19] false),i (.pick L15 L20 Vf)] [(3,L21)])
 (.seq (.reg [g E3 true (.fld 6 E1),g E3 true (ld L0),g E3 true (.mov L1),g L2 false (.fld 2 E1),g L2 false (ld L3),g L2 false (.call 524 [L4] false),g L2 false (.una .not L5),g E3 true (.pick L2 Vt L6),i (.pick E3 L7 Vf),g L8 true (.fld 3 E1),g L8 true (ld L9),g L8 true (.fld 1 E1),g L8 true (ld L11),g L8 true (.bin .sub L12 (v (.int .u64 1))),g L8 true (.bin .geq L10 L13),i (.pick L8 L14 Vf),g L15 true (.fld 3 E1),g L15 true (ld L16),g L15 true (.load true 7 E1),g L15 true (.call 527 [L18] false),g L15 true (.bin .leq L17 L19),i (.pick L15 L20 Vf),g L21 true (.fld 4 E1),g L21 true (ld L22),g L21 true (.fld 3 E1),g L21 true (ld L24),g L21 true (.bin .geq L23 L25),i (.pick L21 L26 Vf),g L27 true (.fld 4 E1),g L27 true (ld L28),g L27 true (.bin .leq L29 (v (.int .u64 1099511627776))),i (.pick L27 L30 Vf)] [(3,L31)])
 (.seq (.seq (.reg [i (.una .not E3),g L0 false (.fld 5 E1),g L0 false (ld L1),g L0 false (.bin .lss L2 V0),i (.pick L0 Vt L3),g L4 false (.fld 5 E1),g L4 false (ld L5),g L4 false (.bin .geq L6 (v (.int .i64 3))),i (.pick L4 Vt L7),g L8 false (.fld 5 E1),g L8 false (ld L9),g L8 false (.bin .gtr L10 V0),g L8 false (.mov L11),g L12 true (.fld 3 E1),g L12 true (ld L13),g L12 true (.fld 1 E1),g L12 true (ld L15),g L12 true (.bin .lss L14 L16),g L8 false (.pick L12 L17 Vf),i (.pick L8 Vt L18)] [(4,L19)])
 (.cond E4 (.seq (.reg [] [(2,v (.int .i64 320))])
 .ret) .skip))
 (.seq (.reg [] [(2,V0)])
 .ret)))))
def f_qcb:AFunc:=⟨5,1,.pure,[.env 2],b_qcb⟩
def b_qgj:ACode:=
 (.seq (.reg [i (.box 9 E0)] [(2,L0),(3,Vf)])
 (.seq (.reg [i (.fld 0 E1),i (ld L0),i (.load true 9 E2),i (.call 528 [L1,L2] false)] [(3,L3)])
 .ret))
def f_qgj:AFunc:=⟨4,2,.pure,[.env 3],b_qgj⟩
def b_qfz:ACode:=
 (.seq (.reg [i (.box 9 E1)] [(2,L0),(3,Vf)])
 (.seq (.reg [i (.conv .u32 E0),i (.call 434 [L0] false),i (.ext 0 L1),i (.ext 1 L1),i (.box 7 (v (.agg [.int .u32 0,.int .u64 0,.nil0,.int .u64 0,.int .u64 0,n0,nf]))),i (.store 7 L4 L2)] [(4,L4)])
 (.seq (.reg [i (.fld 1 E2),i (.fld 4 L0),i (ld L1),i (.fld 4 E4),i (.store 1 L3 L2)] [])
 (.seq (.reg [i (.fld 8 E2),i (ld L0),i (.len L1),i (.bin .eql L2 V0),g L3 true (.load true 7 E4),g L3 true (.fld 1 E2),g L3 true (.load true 7 L5),g L3 true (.call 448 [L4,L6] false),i (.pick L3 L7 Vf)] [(3,L8)])
 .ret))))
def f_qfz:AFunc:=⟨5,2,.pure,[.env 3],b_qfz⟩
def l_qff_0:ACode:=
 (.seq (.reg [i (.bin .lss E5 E4)] [(6,L0)])
 (.seq (.cond E6 .skip (.exit 0))
 (.seq (.blk 1 (.seq (.reg [] [(3,E5)])
 (.seq (.reg [i (.idxs 9 E0 E3),i (.load true 9 L0),i (.callv E1 [L1])] [(7,L2)])
 (.cond E7 (.seq (.reg [] [(2,E3)])
 .ret) .skip))))
 (.reg [i (.bin .add E5 V1)] [(5,L0)]))))
def b_qff:ACode:=
 (.seq (.reg [] [(2,V0)])
 (.seq (.seq (.reg [i (.len E0)] [(4,L0),(5,V0)])
 (.blk 0 (.loop [2,3,6,7] l_qff_0)))
 (.seq (.reg [] [(2,v (.int .i64 (-1)))])
 .ret)))
def f_qff:AFunc:=⟨8,2,.pure,[.env 2],b_qff⟩
def b_qei:ACode:=
 (.seq (.reg [] [(1,Vf)])
 (.seq (.reg [i (.mov (v (.fn 260 [] [])))] [(2,L0)])
 (.seq (.reg [i (.len E0),i (.bin .leq L0 (v (.int .i64 16))),g L1 true (.mov E0),g L1 true (.mov E2),g L1 true (.call 259 [L2,L3] false),g L1 true (.una .not L4),i (.pick L1 L5 Vf)] [(1,L6)])
 .ret)))
def f_qei:AFunc:=⟨3,1,.pure,[.env 1],b_qei⟩
def b_qek:ACode:=
 (.seq (.reg [i (.mov Vn)] [(1,L0)])
 (.seq (.reg [i (.call 68 [E0] true)] [(2,L0)])
 (.seq (.reg [i (.call 67 [E2,(v (.fn 140 [] []))] false)] [])
 (.seq (.reg [] [(1,E2)])
 .ret))))
def f_qek:AFunc:=⟨3,1,.fresh 1,[.env 1],b_qek⟩
def b_qbm:ACode:=
 (.seq (.reg [i (.box 12 E1),i (.mov Vn)] [(2,L0),(3,L1),(4,V0)])
 (.seq (.reg [i (.load true 12 E2),i (.call 36 [E0,L0] false),i (.ext 0 L1),i (.ext 1 L1)] [(5,L2)])
 (.seq (.reg [i (.call 191 [E5] false),i (.ext 0 L0),i (.ext 1 L0)] [(3,L1),(4,L2)])
 .ret)))
def f_qbm:AFunc:=⟨6,2,.pure,[.env 3,.env 4],b_qbm⟩
def l_qfk_0:ACode:=
 (.seq (.reg [i (.bin .lss E5 E4)] [(6,L0)])
 (.seq (.cond E6 .skip (.exit 0))
 (.seq (.blk 1 (.seq (.reg [] [(3,E5)])
 (.seq (.reg [i (.idxs 1 E0 E3),i (ld L0),i (.callv E1 [L1])] [(7,L2)])
 (.cond E7 (.seq (.reg [] [(2,E3)])
 .ret) .skip))))
 (.reg [i (.bin .add E5 V1)] [(5,L0)]))))
def b_qfk:ACode:=
 (.seq (.reg [] [(2,V0)])
 (.seq (.seq (.reg [i (.len E0)] [(4,L0),(5,V0)])
 (.blk 0 (.loop [2,3,6,7] l_qfk_0)))
 (.seq (.reg [] [(2,v (.int .i64 (-1)))])
 .ret)))
def f_qfk:AFunc:=⟨8,2,.pure,[.env 2],b_qfk⟩
def b_qbk:ACode:=
 (.seq (.reg [] [(2,Vf)])
 (.seq (.reg [i (ld E1),i (.call 253 [E0,L0,(v (.fn 254 [] []))] false),i (.una .not L1)] [(2,L2)])
 .ret))
def f_qbk:AFunc:=⟨3,2,.pure,[.env 2],b_qbk⟩
def l_qfd_0:ACode:=
 (.seq (.reg [i (.bin .lss E10 E9)] [(11,L0)])
 (.seq (.cond E11 .skip (.exit 0))
 (.seq (.blk 1 (.seq (.reg [i (.idxs 4 E8 E10),i (.load true 4 L0),i (.box 4 (v (.agg [n0,n0,.int .u64 0,.str []]))),i (.store 4 L2 L1)] [(5,L2),(4,E10)])
 (.seq (.reg [i (.idxs 1 E1 E4),i (ld L0)] [(6,L1)])
 (.seq (.reg [i (.load true 4 E5),i (.callv E2 [L0,E6]),i (.una .not L1)] [(12,L2)])
 (.cond E12 (.seq (.reg [] [(3,Vf)])
 .ret) .skip)))))
 (.reg [i (.bin .add E10 V1)] [(10,L0)]))))
def b_qfd:ACode:=
 (.seq (.reg [] [(3,Vf)])
 (.seq (.seq (.reg [i (.len E0),i (.len E1),i (.bin .neq L0 L1)] [(7,L2)])
 (.cond E7 (.seq (.reg [] [(3,Vf)])
 .ret) .skip))
 (.seq (.seq (.reg [i (.len E0)] [(8,E0),(9,L0),(10,V0)])
 (.blk 0 (.loop [3,4,5,6,11,12] l_qfd_0)))
 (.seq (.reg [] [(3,Vt)])
 .ret))))
def f_qfd:AFunc:=⟨13,3,.pure,[.env 3],b_qfd⟩
def b_qbl:ACode:=
 (.seq (.reg [i (.box 4 E0)] [(2,L0),(3,Vf)])
 (.seq (.reg [i (.load true 4 E2),i (.call 255 [L0] false),i (.bin .eql L1 V0),g L2 true (.fld 0 E2),g L2 true (ld L3),g L2 true (.bin .eql L4 V0),g L2 true (.mov L5),g L6 false (.fld 0 E2),g L6 false (ld L7),g L6 false (.mov E1),g L6 false (.bin .eql L8 L9),g L2 true (.pick L6 Vt L10),i (.pick L2 L11 Vf)] [(3,L12)])
 .ret))
def f_qbl:AFunc:=⟨4,2,.pure,[.env 3],b_qbl⟩
def b_qgl:ACode:=
 (.seq (.reg [i (.box 4 E0)] [(1,L0),(2,V0)])
 (.seq (.seq (.reg [i (.load true 4 E1),i (.call 256 [L0] false),i (.build [n0,n0,.int .u64 0,.str []] []),i (.eqa true [0,0,0,2] L1 L2)] [(3,L3)])
 (.cond E3 (.seq (.reg [] [(2,v (.int .i64 120))])
 .ret) .skip))
 (.seq (.reg [] [(2,V0)])
 .ret)))
def f_qgl:AFunc:=⟨4,1,.pure,[.env 2],b_qgl⟩
def b_qch:ACode:=
 (.seq (.reg [] [(2,V0)])
 (.seq (.seq (.reg [i (ld E1),i (.call 530 [L0] false),i (.una .not L1)] [(3,L2)])
 (.cond E3 (.seq (.reg [] [(2,v (.int .i64 321))])
 .ret) .skip))
 (.seq (.reg [i (ld E1),i (.call 62 [L0] true),i (.build [.nil0,nf,.int .u64 0] [(0,1,L1)]),i (.call 529 [E0,L2] false)] [(2,L3)])
 .ret)))
def f_qch:AFunc:=⟨4,2,.keep,[.env 2],b_qch⟩
def b_qcp:ACode:=
 (.seq (.reg [] [(1,Vf)])
 (.seq (.reg [i (.len E0),i (.bin .gtr L0 V0),g L1 true (.mov E0),g L1 true (.len L2),g L1 true (.bin .leq L3 (v (.int .i64 4))),i (.pick L1 L4 Vf),g L5 true (.mov E0),g L5 true (.call 42 [L6,(v (.fn 531 [] []))] false),g L5 true (.una .not L7),i (.pick L5 L8 Vf)] [(1,L9)])
 .ret))
def f_qcp:AFunc:=⟨2,1,.pure,[.env 1],b_qcp⟩
def b_qco:ACode:=
 (.seq (.reg [i (.box 3 E1)] [(2,L0),(3,V0)])
 (.seq (.blk 0 (.seq (.reg [i (.nilck E0),i (.fld 6 L0),i (ld L1)] [(4,L2)])
 (.cond E4 (.seq (.reg [] [(3,v (.int .i64 322))])
 .ret) (.seq (.reg [i (.nilck E0),i (.fld 2 L0),i (ld L1),i (.len L2),i (.bin .eql L3 (v (.int .i64 8))),g L4 false (.mov E0),g L4 false (.nilck L5),g L4 false (.load true 7 L6),g L4 false (.call 527 [L7] false),g L4 false (.bin .geq L8 (v (.int .u64 1099511627776))),i (.pick L4 Vt L9)] [(5,L10)])
 (.cond E5 (.seq (.reg [] [(3,v (.int .i64 6))])
 .ret) .skip)))))
 (.seq (.regd [i (.nilck E0),i (.fld 2 L0),i (ld L1),i (.load true 3 E2),i (.mkl 3 [L3]),i (.app 3 L2 L4),i (.fld 1 E2),i (ld L6),i (.nilck E0),i (.fld 2 L8),i (.store 1 L9 L5),i (.nilck E0),i (.fld 6 L11),i (.store 1 L12 L7)] [] [(6,0),(6,11),(7,0),(7,11)])
 (.seq (.reg [] [(3,V0)])
 .ret))))
def f_qco:AFunc:=⟨6,2,.keep,[.env 3],b_qco⟩
def b_qep:ACode:=
 (.seq (.reg [i (.mov Vn)] [(1,L0)])
 (.seq (.seq (.reg [i (.nils false E0)] [(2,L0)])
 (.cond E2 (.seq (.reg [i (.mov Vn)] [(1,L0)])
 .ret) .skip))
 (.seq (.reg [i (.mov (v .nil0)),i (.app 1 L0 E0)] [(1,L1)])
 .ret)))
def f_qep:AFunc:=⟨3,1,.fresh 1,[.env 1],b_qep⟩
def b_qcd:ACode:=
 (.seq (.reg [] [(1,V0)])
 (.seq (.reg [i (.nilck E0),i (.load true 7 L0),i (.call 527 [L1] false),i (.build [.nil0,nf,.int .u64 0] [(1,1,Vt),(2,1,L2)]),i (.call 529 [E0,L3] false)] [(1,L4)])
 .ret))
def f_qcd:AFunc:=⟨2,1,.keep,[.env 1],b_qcd⟩
def b_qcm:ACode:=
 (.seq (.reg [i (.box 7 E0)] [(1,L0),(2,v (.int .u64 0))])
 (.seq (.reg [i (.fld 1 E1),i (ld L0),i (.bin .sub L1 (v (.int .u64 1))),i (.fld 2 E1),i (ld L3),i (.len L4),i (.conv .u64 L5),i (.bin .add L2 L6)] [(2,L7)])
 .ret))
def f_qcm:AFunc:=⟨3,1,.pure,[.env 2],b_qcm⟩
def l_qfh_0:ACode:=
 (.seq (.reg [i (.bin .lss E5 E4)] [(6,L0)])
 (.seq (.cond E6 .skip (.exit 0))
 (.seq (.blk 1 (.seq (.reg [] [(3,E5)])
 (.seq (.reg [i (.idxs 9 E0 E3),i (.load true 9 L0),i (.callv E1 [L1])] [(7,L2)])
 (.cond E7 (.seq (.reg [] [(2,E3)])
 .ret) .skip))))
 (.reg [i (.bin .add E5 V1)] [(5,L0)]))))
def b_qfh:ACode:=
 (.seq (.reg [] [(2,V0)])
 (.seq (.seq (.reg [i (.len E0)] [(4,L0),(5,V0)])
 (.blk 0 (.loop [2,3,6,7] l_qfh_0)))
 (.seq (.reg [] [(2,v (.int .i64 (-1)))])
 .ret)))
def f_qfh:AFunc:=⟨8,2,.pure,[.env 2],b_qfh⟩
def b_qem:ACode:=
 (.seq (.reg [i (.mov Vn)] [(1,L0)])
 (.seq (.seq (.reg [i (.nils false E0)] [(2,L0)])
 (.cond E2 (.seq (.reg [i (.mov Vn)] [(1,L0)])
 .ret) .skip))
 (.seq (.reg [i (.mov (v .nil0)),i (.app 3 L0 E0)] [(1,L1)])
 .ret)))
def f_qem:AFunc:=⟨3,1,.fresh 3,[.env 1],b_qem⟩
def l_qcl_0:ACode:=
 (.seq (.reg [i (.bin .lss E7 E6)] [(8,L0)])
 (.seq (.cond E8 .skip (.exit 0))
 (.seq (.blk 1 (.seq (.reg [i (.idxs 3 E5 E7),i (.load true 3 L0),i (.box 3 (v (.agg [.nil0,nf,.int .u64 0]))),i (.store 3 L2 L1)] [(4,L2),(3,E7)])
 (.seq (.reg [i (.load true 3 E4),i (.conv .u64 E3),i (.bin .add E1 L1),i (.call 522 [L0,L2] false),i (.una .not L3),g L4 false (.fld 1 E4),g L4 false (ld L5),g L4 false (.mov L6),g L7 true (.mov E3),g L7 true (.mov E0),g L7 true (.len L9),g L7 true (.bin .sub L10 V1),g L7 true (.bin .lss L8 L11),g L4 false (.pick L7 L12 Vf),i (.pick L4 Vt L13)] [(9,L14)])
 (.cond E9 (.seq (.reg [] [(2,Vf)])
 .ret) .skip))))
 (.reg [i (.bin .add E7 V1)] [(7,L0)]))))
def b_qcl:ACode:=
 (.seq (.reg [] [(2,Vf)])
 (.seq (.seq (.reg [i (.len E0)] [(5,E0),(6,L0),(7,V0)])
 (.blk 0 (.loop [2,3,4,8,9] l_qcl_0)))
 (.seq (.reg [] [(2,Vt)])
 .ret)))
def f_qcl:AFunc:=⟨10,2,.pure,[.env 2],b_qcl⟩
def b_qck:ACode:=
 (.seq (.reg [] [(1,Vf)])
 (.seq (.reg [i (.len E0),i (.bin .gtr L0 V0),g L1 true (.mov E0),g L1 true (.mov E0),g L1 true (.len L3),g L1 true (.bin .sub L4 V1),g L1 true (.idxs 3 L2 L5),g L1 true (.fld 1 L6),g L1 true (ld L7),i (.pick L1 L8 Vf)] [(1,L9)])
 .ret))
def f_qck:AFunc:=⟨2,1,.pure,[.env 1],b_qck⟩
def b_qcj:ACode:=
 (.seq (.reg [i (.box 3 E0)] [(2,L0),(3,Vf)])
 (.seq (.seq (.reg [i (.bin .lss E1 (v (.int .u64 1))),g L0 false (.mov E1),g L0 false (.bin .gtr L1 (v (.int .u64 1099511627776))),i (.pick L0 Vt L2)] [(4,L3)])
 (.cond E4 (.seq (.reg [] [(3,Vf)])
 .ret) .skip))
 (.seq (.seq (.reg [i (.fld 1 E2),i (ld L0)] [(5,L1)])
 (.cond E5 (.seq (.reg [i (.fld 0 E2),i (ld L0),i (.len L1),i (.bin .eql L2 V0),g L3 true (.fld 2 E2),g L3 true (ld L4),g L3 true (.mov E1),g L3 true (.bin .sub L6 (v (.int .u64 1))),g L3 true (.bin .eql L5 L7),i (.pick L3 L8 Vf)] [(3,L9)])
 .ret) .skip))
 (.seq (.reg [i (.fld 2 E2),i (ld L0),i (.bin .eql L1 (v (.int .u64 0))),g L2 true (.fld 0 E2),g L2 true (ld L3),g L2 true (.call 530 [L4] false),i (.pick L2 L5 Vf)] [(3,L6)])
 .ret))))
def f_qcj:AFunc:=⟨6,2,.pure,[.env 3],b_qcj⟩
def b_qfe:ACode:=
 (.seq (.reg [i (.mov Vn)] [(2,L0)])
 (.seq (.seq (.reg [i (.bin .lss E1 V0)] [(3,L0)])
 (.cond E3 (.reg [i (.bad),i (.bad)] []) .skip))
 (.seq (.seq (.reg [i (.cap E0),i (.len E0),i (.bin .sub L0 L1),i (.bin .sub E1 L2)] [(1,L3)])
 (.seq (.reg [i (.bin .gtr E1 V0)] [(4,L0)])
 (.cond E4 (.reg [i (.cap E0),i (.slice 1 E0 none (some L0)),i (.appz 1 (.int .i64 0) L1 E1),i (.len E0),i (.slice 1 L2 none (some L3))] [(0,L4)]) .skip)))
 (.seq (.reg [] [(2,E0)])
 .ret))))
def f_qfe:AFunc:=⟨5,2,.keep,[.env 2],b_qfe⟩
def b_qbp:ACode:=
 (.seq (.reg [i (.box 1 E0)] [(1,L0),(2,V0)])
 (.seq (.seq (.reg [i (lt E1),i (.call 146 [L0] false),i (.ext 0 L1),i (.ext 1 L1)] [(3,L3)])
 (.seq (.reg [i (.una .not E3)] [(4,L0)])
 (.cond E4 (.seq (.reg [] [(2,v (.int .i64 200))])
 .ret) .skip)))
 (.seq (.reg [] [(2,V0)])
 .ret)))
def f_qbp:AFunc:=⟨5,1,.pure,[.env 2],b_qbp⟩
def l_qbq_0:ACode:=
 (.seq (.reg [i (.bin .lss E8 E7)] [(9,L0)])
 (.seq (.cond E9 .skip (.exit 0))
 (.seq (.blk 1 (.seq (.reg [i (.idxs 8 E6 E8),i (.load true 8 L0),i (.box 8 (v (.agg [n0,n0,n0,n0,n0,n0,.int .u64 0,.str []]))),i (.store 8 L2 L1)] [(4,L2)])
 (.seq (.reg [i (.fld 0 E4),i (ld L0),i (.bin .eql L1 (v (.int .i64 2)))] [(10,L2)])
 (.cond E10 (.reg [i (.fld 3 E4),i (ld L0),i (.mkl 1 [L1]),i (.app 1 E3 L2)] [(3,L3)]) .skip))))
 (.reg [i (.bin .add E8 V1)] [(8,L0)]))))
def b_qbq:ACode:=
 (.seq (.reg [i (.box 1 E0),i (.mov Vn)] [(1,L0),(2,L1)])
 (.seq (.seq (.reg [i (lt E1),i (.call 71 [L0] false),i (.bin .neq L1 V0)] [(5,L2)])
 (.cond E5 (.seq (.reg [i (.mov Vn)] [(2,L0)])
 .ret) .skip))
 (.seq (.reg [i (.mknil 1)] [(3,L0)])
 (.seq (.seq (.reg [i (.fld 0 E1),i (ld L0),i (.len L1)] [(6,L1),(7,L2),(8,V0)])
 (.blk 0 (.loop [4,9,10] l_qbq_0)))
 (.seq (.reg [i (.call 282 [E3] false)] [])
 (.seq (.reg [i (.call 281 [E3] false)] [(2,L0)])
 .ret))))))
def f_qbq:AFunc:=⟨11,1,.pure,[.env 2],b_qbq⟩
def l_qbw_0:ACode:=
 (.seq (.reg [i (.bin .lss E14 E13)] [(15,L0)])
 (.seq (.cond E15 .skip (.exit 0))
 (.seq (.blk 1 (.seq (.reg [i (.idxs 8 E12 E14),i (.load true 8 L0),i (.box 8 (v (.agg [n0,n0,n0,n0,n0,n0,.int .u64 0,.str []]))),i (.store 8 L2 L1)] [(9,L2)])
 (.seq (.regd [i (.load true 8 E9),i (.fld 0 E9),i (ld L1),i (.call 247 [L2] false),i (.callv E7 [L3]),i (.callv E1 [L0,L4]),i (.ext 0 L5),i (.ext 1 L5)] [(10,L6),(11,L7)] [(0,5)])
 (.seq (.seq (.reg [i (.bin .neq E11 V0)] [(16,L0)])
 (.cond E16 (.seq (.reg [] [(8,E11)])
 (.exit 0)) .skip))
 (.reg [i (ld E5),i (.mkl 1 [E10]),i (.app 1 L0 L1),i (.store 1 E5 L2)] [])))))
 (.reg [i (.bin .add E14 V1)] [(14,L0)]))))
def b_qbw:ACode:=
 (.seq (.reg [i (.box 1 E0)] [(2,L0),(3,V0),(4,V0)])
 (.scope (.seq (.reg [i (.box 1 Vn)] [(5,L0)])
 (.seq (.reg [] [(6,V0)])
 (.seq (.reg [i (.mkfn 374 [] [E5])] [(7,L0)])
 (.seq (.reg [] [(8,V0)])
 (.seq (.seq (.lift 5 0 1 (.reg [i (.fld 0 E2),i (ld L0),i (.len L1)] [(12,L1),(13,L2),(14,V0)]))
 (.blk 0 (.loop [9,10,11,15,16] l_qbw_0)))
 (.seq (.seq (.reg [i (.bin .neq E8 V0)] [(17,L0)])
 (.cond E17 (.seq (.reg [] [(3,E6),(4,E8)])
 .ret) .skip))
 (.seq (.reg [i (ld E5),i (.idxs 1 L0 V0),i (ld L1)] [(3,L2),(4,V0)])
 .ret)))))))))
def f_qbw:AFunc:=⟨18,2,.pure,[.env 3,.env 4],b_qbw⟩
def l_qbs_0:ACode:=
 (.seq (.reg [i (.bin .lss E12 E11)] [(13,L0)])
 (.seq (.cond E13 .skip (.exit 0))
 (.seq (.blk 1 (.seq (.reg [i (.idxs 1 E10 E12),i (ld L0)] [(7,L1)])
 (.blk 2 (.seq (.reg [i (.bin .eql E7 V0),g L0 false (.mov E7),g L0 false (.mov E6),g L0 false (.bin .eql L1 L2),i (.pick L0 Vt L3)] [(14,L4)])
 (.cond E14 .skip (.seq (.reg [i (.bin .eql E6 V0)] [(15,L0)])
 (.cond E15 (.reg [] [(6,E7)]) (.reg [] [(6,v (.int .i64 (-1)))]))))))))
 (.reg [i (.bin .add E12 V1)] [(12,L0)]))))
def b_qbs:ACode:=
 (.seq (.reg [i (.box 8 E0)] [(3,L0),(4,V0),(5,V0)])
 (.seq (.reg [] [(6,V0)])
 (.seq (.seq (.reg [i (.len E1)] [(10,E1),(11,L0),(12,V0)])
 (.blk 0 (.loop [7,13,14,15] l_qbs_0)))
 (.seq (.reg [] [(8,E6)])
 (.seq (.reg [] [(9,V1)])
 (.seq (.blk 3 (.seq (.reg [i (.fld 0 E3),i (ld L0),i (.bin .eql L1 V1)] [(16,L2)])
 (.cond E16 (.seq (.reg [i (.fld 4 E3),i (.fld 0 L0),i (ld L1)] [(4,L2),(5,V0)])
 .ret) (.seq (.reg [i (.fld 0 E3),i (ld L0),i (.bin .eql L1 (v (.int .i64 2)))] [(17,L2)])
 (.cond E17 (.seq (.reg [i (ld E2),i (.fld 3 E3),i (ld L1),i (.idxs 1 L0 L2),i (ld L3)] [(4,L4),(5,V0)])
 .ret) (.seq (.reg [i (.fld 0 E3),i (ld L0),i (.call 375 [L1] false)] [(18,L2)])
 (.cond E18 (.reg [] [(8,v (.int .i64 2)),(9,v (.int .i64 2))]) (.seq (.reg [i (.fld 0 E3),i (ld L0),i (.bin .eql L1 (v (.int .i64 5))),g L2 false (.fld 0 E3),g L2 false (ld L3),g L2 false (.bin .eql L4 (v (.int .i64 22))),i (.pick L2 Vt L5),g L6 false (.fld 0 E3),g L6 false (ld L7),g L6 false (.bin .eql L8 (v (.int .i64 23))),i (.pick L6 Vt L9)] [(19,L10)])
 (.cond E19 (.reg [] [(8,V1)]) .skip)))))))))
 (.seq (.seq (.reg [i (.bin .eql E6 (v (.int .i64 (-1)))),g L0 false (.mov E6),g L0 false (.bin .neq L1 V0),g L0 false (.mov L2),g L3 true (.mov E6),g L3 true (.mov E8),g L3 true (.bin .neq L4 L5),g L0 false (.pick L3 L6 Vf),i (.pick L0 Vt L7)] [(20,L8)])
 (.cond E20 (.seq (.reg [] [(4,V0),(5,v (.int .i64 201))])
 .ret) .skip))
 (.seq (.reg [] [(4,E9),(5,V0)])
 .ret))))))))
def f_qbs:AFunc:=⟨21,3,.pure,[.env 4,.env 5],b_qbs⟩
def b_qbt:ACode:=
 (.seq (.reg [] [(1,Vf)])
 (.seq (.reg [i (.bin .eql E0 (v (.int .i64 4))),g L0 false (.mov E0),g L0 false (.bin .geq L1 (v (.int .i64 12))),g L0 false (.mov L2),g L3 true (.mov E0),g L3 true (.bin .leq L4 (v (.int .i64 15))),g L0 false (.pick L3 L5 Vf),i (.pick L0 Vt L6)] [(1,L7)])
 .ret))
def f_qbt:AFunc:=⟨2,1,.pure,[.env 1],b_qbt⟩
def l_qfg_0:ACode:=
 (.seq (.reg [i (.bin .lss E5 E4)] [(6,L0)])
 (.seq (.cond E6 .skip (.exit 0))
 (.seq (.blk 1 (.seq (.reg [] [(3,E5)])
 (.seq (.reg [i (.idxs 2 E0 E3),i (.load true 2 L0),i (.callv E1 [L1])] [(7,L2)])
 (.cond E7 (.seq (.reg [] [(2,E3)])
 .ret) .skip))))
 (.reg [i (.bin .add E5 V1)] [(5,L0)]))))
def b_qfg:ACode:=
 (.seq (.reg [] [(2,V0)])
 (.seq (.seq (.reg [i (.len E0)] [(4,L0),(5,V0)])
 (.blk 0 (.loop [2,3,6,7] l_qfg_0)))
 (.seq (.reg [] [(2,v (.int .i64 (-1)))])
 .ret)))
def f_qfg:AFunc:=⟨8,2,.pure,[.env 2],b_qfg⟩
def q_prop_Reader_0:ACode:=
 (.blk 1 (.seq (.reg [i (.store 1 E3 E6),i (.store 1 E4 E7),i (.store 1 E5 Vt)] [])
 .ret))
def q_prop_Reader_0p:ACode:=
 (.seq (.reg [] [(6,E9)])
 (.reg [] [(7,E10)]))
def b_qdg:ACode:=
 (.seq (.reg [i (.box 1 E0),i (.box 1 V0),i (.box 1 V0),i (.box 1 Vf)] [(2,L0),(3,L1),(4,L2),(5,L3)])
 (.seq (.seq (.reg [i (lt E2),i (.call 533 [L0,E1] false)] [(8,L1)])
 (.blk 0 (.rng 11 E8 532)))
 (.seq (.reg [i (.store 1 E3 V0),i (.store 1 E4 V0),i (.store 1 E5 Vf)] [])
 .ret)))
def f_qdg:AFunc:=⟨11,2,.pure,[.cell false 1 3,.cell false 1 4,.cell false 1 5],b_qdg⟩
def r_prop_Reader_0:ARound:=⟨11,[9,10],q_prop_Reader_0p,q_prop_Reader_0⟩
def b_qad:ACode:=
 (.seq (.reg [i (.box 1 E0)] [(2,L0),(3,Vf)])
 (.seq (.reg [i (lt E2),i (.call 361 [L0,E1] false),i (.ext 0 L1),i (.ext 1 L1)] [(4,L2),(5,L3)])
 (.seq (.reg [i (.bin .eql E5 V0),g L0 true (.mov E4),g L0 true (.bin .eql L1 V0),g L0 true (.mov L2),g L3 false (.mov E4),g L3 false (.bin .eql L4 V1),g L0 true (.pick L3 Vt L5),i (.pick L0 L6 Vf)] [(3,L7)])
 .ret)))
def f_qad:AFunc:=⟨6,2,.pure,[.env 3],b_qad⟩
def b_qab:ACode:=
 (.seq (.reg [i (.box 2 E0)] [(2,L0),(3,V0),(4,Vf)])
 (.seq (.seq (.reg [i (.fld 0 E2),i (ld L0),i (.bin .eql L1 V1)] [(7,L2)])
 (.cond E7 (.seq (.reg [i (.fld 1 E2),i (.fld 0 L0),i (ld L1),i (.len L2),i (.bin .eql L3 V0)] [(3,v (.int .i64 2)),(4,L4)])
 .ret) .skip))
 (.seq (.reg [i (.fld 1 E2),i (lt L0),i (.call 361 [L1,E1] false),i (.ext 0 L2),i (.ext 1 L2)] [(5,L3),(6,L4)])
 (.seq (.seq (.reg [i (.fld 0 E2),i (ld L0),i (.bin .lss L1 V1),g L2 false (.fld 0 E2),g L2 false (ld L3),g L2 false (.bin .gtr L4 (v (.int .i64 5))),i (.pick L2 Vt L5),g L6 false (.mov E6),g L6 false (.bin .neq L7 V0),i (.pick L6 Vt L8)] [(8,L9)])
 (.cond E8 (.seq (.reg [] [(3,V0),(4,Vf)])
 .ret) .skip))
 (.seq (.seq (.reg [i (.fld 0 E2),i (ld L0),i (.bin .eql L1 (v (.int .i64 3))),g L2 true (.mov E5),g L2 true (.bin .neq L3 (v (.int .i64 2))),i (.pick L2 L4 Vf),g L5 true (.mov E5),g L5 true (.bin .neq L6 V0),i (.pick L5 L7 Vf)] [(9,L8)])
 (.cond E9 (.seq (.reg [] [(3,V0),(4,Vf)])
 .ret) .skip))
 (.seq (.seq (.reg [i (.fld 0 E2),i (ld L0),i (.bin .geq L1 (v (.int .i64 4)))] [(10,L2)])
 (.cond E10 (.seq (.reg [] [(3,E5),(4,Vt)])
 .ret) .skip))
 (.seq (.reg [] [(3,v (.int .i64 2)),(4,Vt)])
 .ret)))))))
def f_qab:AFunc:=⟨11,2,.pure,[.env 3,.env 4],b_qab⟩
def l_qk_0:ACode:=
 (.seq (.reg [i (.bin .lss E26 E25)] [(27,L0)])
 (.seq (.cond E27 .skip (.exit 4))
 (.seq (.blk 5 (.seq (.reg [i (.idxs 8 E24 E26),i (.load true 8 L0),i (.box 8 (v (.agg [n0,n0,n0,n0,n0,n0,.int .u64 0,.str []]))),i (.store 8 L2 L1)] [(8,L2)])
 (.blk 6 (.seq (.reg [i (.fld 0 E8),i (ld L0),i (.bin .eql L1 V1)] [(30,L2)])
 (.cond E30 (.reg [i (.fld 4 E8),i (.fld 0 L0),i (ld L1),i (.mkl 1 [L2]),i (.app 1 E7 L3)] [(7,L4)]) (.seq (.reg [i (.fld 0 E8),i (ld L0),i (.bin .eql L1 (v (.int .i64 2)))] [(31,L2)])
 (.cond E31 (.reg [i (.fld 3 E8),i (ld L0),i (.idxs 1 E1 L1),i (ld L2),i (.mkl 1 [L3]),i (.app 1 E7 L4)] [(7,L5)]) (.seq (.reg [i (.fld 1 E8),i (ld L0),i (.idxs 1 E7 L1),i (ld L2)] [(9,L3),(10,V0)])
 (.seq (.seq (.reg [i (.fld 2 E8),i (ld L0),i (.bin .geq L1 V0)] [(28,L2)])
 (.cond E28 (.reg [i (.fld 2 E8),i (ld L0),i (.idxs 1 E7 L1),i (ld L2)] [(10,L3)]) .skip))
 (.seq (.reg [i (.fld 0 E8),i (ld L0),i (.call 391 [L1,E9,E10] false),i (.ext 0 L2),i (.ext 1 L2)] [(11,L3),(12,L4)])
 (.seq (.seq (.reg [i (.una .not E12)] [(29,L0)])
 (.cond E29 (.seq (.reg [] [(3,V0),(4,v (.int .i64 201))])
 .ret) .skip))
 (.reg [i (.mkl 1 [E11]),i (.app 1 E7 L0)] [(7,L1)]))))))))))))
 (.reg [i (.bin .add E26 V1)] [(26,L0)]))))
def l_qk_1:ACode:=
 (.seq (.reg [i (.bin .lss E21 E20)] [(22,L0)])
 (.seq (.cond E22 .skip (.exit 2))
 (.seq (.blk 3 (.seq (.reg [i (.idxs 8 E19 E21),i (.load true 8 L0),i (.box 8 (v (.agg [n0,n0,n0,n0,n0,n0,.int .u64 0,.str []]))),i (.store 8 L2 L1)] [(6,L2)])
 (.seq (.reg [i (.fld 0 E6),i (ld L0),i (.bin .eql L1 (v (.int .i64 2))),g L2 true (.fld 3 E6),g L2 true (ld L3),g L2 true (.mov E1),g L2 true (.len L5),g L2 true (.bin .geq L4 L6),i (.pick L2 L7 Vf)] [(23,L8)])
 (.cond E23 (.seq (.reg [] [(3,V0),(4,v (.int .i64 2))])
 .ret) .skip))))
 (.reg [i (.bin .add E21 V1)] [(21,L0)]))))
def l_qk_2:ACode:=
 (.seq (.reg [i (.bin .lss E16 E15)] [(17,L0)])
 (.seq (.cond E17 .skip (.exit 0))
 (.seq (.blk 1 (.seq (.reg [i (.idxs 1 E14 E16),i (ld L0)] [(5,L1)])
 (.seq (.reg [i (.bin .lss E5 V0),g L0 false (.mov E5),g L0 false (.bin .gtr L1 (v (.int .i64 3))),i (.pick L0 Vt L2)] [(18,L3)])
 (.cond E18 (.seq (.reg [] [(3,V0),(4,v (.int .i64 2))])
 .ret) .skip))))
 (.reg [i (.bin .add E16 V1)] [(16,L0)]))))
def b_qk:ACode:=
 (.seq (.reg [i (.box 1 E0)] [(2,L0),(3,V0),(4,V0)])
 (.seq (.seq (.reg [i (lt E2),i (.call 222 [L0] false),i (.una .not L1)] [(13,L2)])
 (.cond E13 (.seq (.reg [] [(3,V0),(4,v (.int .i64 200))])
 .ret) .skip))
 (.seq (.seq (.reg [i (.len E1)] [(14,E1),(15,L0),(16,V0)])
 (.blk 0 (.loop [3,4,5,17,18] l_qk_2)))
 (.seq (.seq (.reg [i (.fld 0 E2),i (ld L0),i (.len L1)] [(19,L1),(20,L2),(21,V0)])
 (.blk 2 (.loop [3,4,6,22,23] l_qk_1)))
 (.seq (.reg [i (.mknil 1)] [(7,L0)])
 (.seq (.seq (.reg [i (.fld 0 E2),i (ld L0),i (.len L1)] [(24,L1),(25,L2),(26,V0)])
 (.blk 4 (.loop [3,4,8,9,10,11,12,27,28,29,30,31] l_qk_0)))
 (.seq (.reg [i (.len E7),i (.bin .sub L0 V1),i (.idxs 1 E7 L1),i (ld L2)] [(3,L3),(4,V0)])
 .ret)))))))
def f_qk:AFunc:=⟨32,2,.pure,[.env 3,.env 4],b_qk⟩
def l_qfi_0:ACode:=
 (.seq (.reg [i (.bin .lss E5 E4)] [(6,L0)])
 (.seq (.cond E6 .skip (.exit 0))
 (.seq (.blk 1 (.seq (.reg [] [(3,E5)])
 (.seq (.reg [i (.idxs 1 E0 E3),i (ld L0),i (.callv E1 [L1])] [(7,L2)])
 (.cond E7 (.seq (.reg [] [(2,E3)])
 .ret) .skip))))
 (.reg [i (.bin .add E5 V1)] [(5,L0)]))))
def b_qfi:ACode:=
 (.seq (.reg [] [(2,V0)])
 (.seq (.seq (.reg [i (.len E0)] [(4,L0),(5,V0)])
 (.blk 0 (.loop [2,3,6,7] l_qfi_0)))
 (.seq (.reg [] [(2,v (.int .i64 (-1)))])
 .ret)))
def f_qfi:AFunc:=⟨8,2,.pure,[.env 2],b_qfi⟩
def b_qci:ACode:=
 (.seq (.reg [i (.box 7 E0),i (.box 7 E1)] [(2,L0),(3,L1),(4,Vf)])
 (.seq (.reg [i (.fld 0 E2),i (ld L0),i (.fld 0 E3),i (ld L2),i (.bin .eql L1 L3),g L4 true (.fld 1 E2),g L4 true (ld L5),g L4 true (.fld 1 E3),g L4 true (ld L7),g L4 true (.bin .eql L6 L8),i (.pick L4 L9 Vf),g L10 true (.fld 3 E2),g L10 true (ld L11),g L10 true (.fld 3 E3),g L10 true (ld L13),g L10 true (.bin .eql L12 L14),i (.pick L10 L15 Vf),g L16 true (.fld 4 E2),g L16 true (ld L17),g L16 true (.fld 4 E3),g L16 true (ld L19),g L16 true (.bin .eql L18 L20),i (.pick L16 L21 Vf),g L22 true (.fld 5 E2),g L22 true (ld L23),g L22 true (.fld 5 E3),g L22 true (ld L25),g L22 true (.bin .eql L24 L26),i (.pick L22 L27 Vf),g L28 true (.fld 6 E2),g L28 true (ld L29),g L28 true (.fld 6 E3),g L28 true (ld L31),g L28 true (.eqb false L30 L32),i (.pick L28 L33 Vf)] [(5,L34)])
 (.seq (.reg [g E5 true (.fld 2 E2),g E5 true (ld L0),g E5 true (.fld 2 E3),g E5 true (ld L2),g E5 true (.call 444 [L1,L3,(v (.fn 445 [] []))] false),i (.pick E5 L4 Vf)] [(4,L5)])
 .ret)))
def f_qci:AFunc:=⟨6,2,.pure,[.env 4],b_qci⟩
def b_qej:ACode:=
 (.seq (.reg [i (.box 4 E0)] [(1,L0),(2,Vf)])
 (.seq (.reg [i (.load true 4 E1),i (.call 255 [L0] false),i (.bin .neq L1 V0)] [(2,L2)])
 .ret))
def f_qej:AFunc:=⟨3,1,.pure,[.env 2],b_qej⟩
def b_qez:ACode:=
 (.seq (.reg [] [(2,Vf)])
 (.seq (.reg [i (.call 320 [E0,E1] false),i (.bin .geq L0 V0)] [(2,L1)])
 .ret))
def f_qez:AFunc:=⟨3,2,.pure,[.env 2],b_qez⟩
def l_qef_0:ACode:=
 (.seq (.reg [i (.bin .lss E6 E5)] [(7,L0)])
 (.seq (.cond E7 .skip (.exit 0))
 (.seq (.blk 1 (.seq (.reg [i (.idxs 1 E4 E6),i (ld L0)] [(3,L1)])
 (.reg [i (.call 114 [E3] true),i (.mkl 1 [L0]),i (.app 1 E2 L1)] [(2,L2)])))
 (.reg [i (.bin .add E6 V1)] [(6,L0)]))))
def b_qef:ACode:=
 (.seq (.reg [i (.mov Vn)] [(1,L0)])
 (.seq (.reg [i (.mknil 1)] [(2,L0)])
 (.seq (.seq (.reg [i (.len E0)] [(4,E0),(5,L0),(6,V0)])
 (.blk 0 (.loop [3,7] l_qef_0)))
 (.seq (.reg [] [(1,E2)])
 .ret))))
def f_qef:AFunc:=⟨8,1,.fresh 1,[.env 1],b_qef⟩
def b_qeh:ACode:=
 (.seq (.reg [] [(2,V0)])
 (.seq (.reg [i (.call 142 [E0,E1,(v (.fn 143 [] []))] false)] [(2,L0)])
 .ret))
def f_qeh:AFunc:=⟨3,2,.pure,[.env 2],b_qeh⟩
def b_qbo:ACode:=
 (.seq (.reg [i (.mov Vn)] [(1,L0),(2,V0)])
 (.seq (.seq (.reg [i (.len E0),i (.bin .gtr L0 (v (.int .i64 8000)))] [(5,L1)])
 (.cond E5 (.seq (.reg [] [(1,E0),(2,V0)])
 .ret) .skip))
 (.seq (.reg [i (.call 29 [E0] false),i (.ext 0 L0),i (.ext 1 L0)] [(3,L1),(4,L2)])
 (.seq (.seq (.reg [i (.bin .neq E4 V0)] [(6,L0)])
 (.cond E6 (.seq (.reg [i (.mov Vn)] [(1,L0),(2,v (.int .i64 140))])
 .ret) .skip))
 (.seq (.reg [] [(1,E3),(2,V0)])
 .ret)))))
def f_qbo:AFunc:=⟨7,1,.pure,[.env 1,.env 2],b_qbo⟩
def b_qgn:ACode:=
 (.seq (.reg [i (.box 4 E0),i (.box 4 (v (.agg [n0,n0,.int .u64 0,.str []])))] [(1,L0),(2,L1)])
 (.seq (.seq (.reg [i (.fld 0 E1),i (ld L0)] [(3,L1)])
 (.blk 0 (.seq (.blk 5 (.seq (.blk 4 (.seq (.blk 3 (.seq (.blk 2 (.seq (.blk 1 (.seq (.seq (.seq (.reg [i (.bin .eql E3 V1)] [(4,L0)])
 (.cond E4 (.exit 1) .skip))
 (.seq (.seq (.reg [i (.bin .eql E3 (v (.int .i64 2)))] [(5,L0)])
 (.cond E5 (.exit 2) .skip))
 (.seq (.seq (.reg [i (.bin .eql E3 V0)] [(6,L0)])
 (.cond E6 (.exit 3) .skip))
 (.seq (.seq (.reg [i (.bin .eql E3 (v (.int .i64 3)))] [(7,L0)])
 (.cond E7 (.exit 4) .skip))
 (.seq (.reg [i (.bin .eql E3 (v (.int .i64 4)))] [(8,L0)])
 (.cond E8 (.exit 5) .skip))))))
 (.exit 0)))
 (.seq (.reg [i (.fld 1 E1),i (ld L0),i (.bin .neq L1 V0),g L2 true (.fld 1 E1),g L2 true (ld L3),g L2 true (.bin .neq L4 V1),i (.pick L2 L5 Vf)] [(9,L6)])
 (.cond E9 (.exit 0) .skip))))
 (.reg [i (.fld 1 E1),i (.store 1 L0 V0)] [])))
 (.seq (.reg [i (.fld 0 E1),i (.store 1 L0 V0)] [])
 (.exit 0))))
 (.seq (.seq (.reg [i (.fld 3 E1),i (ld L0),i (.lent L1),i (.bin .leq L2 (v (.int .i64 40)))] [(10,L3)])
 (.cond E10 (.reg [i (.fld 0 E1),i (.store 1 L0 V0),i (.fld 3 E1),i (.store 1 L2 (v (.str [])))] []) .skip))
 (.exit 0))))
 (.seq (.reg [i (.fld 0 E1),i (.store 1 L0 V0),i (.fld 1 E1),i (.store 1 L2 V0),i (.fld 2 E1),i (.store 1 L4 (v (.int .u64 0)))] [])
 (.exit 0)))))
 (.seq (.reg [i (.load true 4 E1),i (.store 4 E2 L0)] [])
 .ret)))
def f_qgn:AFunc:=⟨11,1,.pure,[.cell true 4 2],b_qgn⟩
def b_qcq:ACode:=
 (.seq (.reg [] [(1,Vf)])
 (.seq (.reg [i (.call 197 [E0] false),i (.bin .neq L0 V0)] [(1,L1)])
 .ret))
def f_qcq:AFunc:=⟨2,1,.pure,[.env 1],b_qcq⟩
def l_qbv_0:ACode:=
 (.seq (.reg [i (.bin .lss E21 E20)] [(22,L0)])
 (.seq (.cond E22 .skip (.exit 2))
 (.seq (.blk 3 (.seq (.reg [i (.idxs 1 E19 E21),i (ld L0)] [(12,E21),(13,L1)])
 (.regd [i (.idxs 1 E4 E13),i (ld L0),i (.mins E11 [L1]),i (.idxa 2 1 E10 E12),i (.store 1 L3 E13)] [(11,L2)] [(0,5),(1,5)])))
 (.reg [i (.bin .add E21 V1)] [(21,L0)]))))
def l_qbv_1:ACode:=
 (.seq (.reg [i (.bin .lss E16 E15)] [(17,L0)])
 (.seq (.cond E17 .skip (.exit 0))
 (.seq (.blk 1 (.seq (.reg [i (.idxs 8 E14 E16),i (.load true 8 L0),i (.box 8 (v (.agg [n0,n0,n0,n0,n0,n0,.int .u64 0,.str []]))),i (.store 8 L2 L1)] [(7,L2),(6,E16)])
 (.seq (.reg [i (.fld 0 E7),i (ld L0),i (.call 247 [L1] false)] [(8,L2)])
 (.seq (.seq (.reg [i (.bin .lss E8 V0),g L0 false (.mov E8),g L0 false (.mov E5),g L0 false (.len L2),g L0 false (.bin .gtr L1 L3),i (.pick L0 Vt L4),g L5 false (.load true 8 E7),g L5 false (.call 246 [L6] false),g L5 false (.una .not L7),i (.pick L5 Vt L8)] [(18,L9)])
 (.cond E18 (.seq (.reg [i (.mov Vn)] [(2,L0),(3,Vf)])
 .ret) .skip))
 (.seq (.reg [i (.len E5),i (.bin .sub L0 E8),i (.slice 1 E5 (some L1) none)] [(9,L2)])
 (.seq (.reg [i (.build [n0,n0] [(0,1,v (.int .i64 (-1))),(1,1,v (.int .i64 (-1)))]),i (.box 2 (v (.agg [n0,n0]))),i (.store 2 L1 L0)] [(10,L1)])
 (.seq (.reg [] [(11,E6)])
 (.seq (.seq (.reg [i (.len E9)] [(19,E9),(20,L0),(21,V0)])
 (.blk 2 (.loop [12,13,22] l_qbv_0)))
 (.seq (.seq (.reg [i (.load true 2 E10),i (.fld 1 E7),i (ld L1),i (.fld 2 E7),i (ld L3),i (.build [n0,n0] [(0,1,L2),(1,1,L4)]),i (.eqa true [0,0] L0 L5)] [(23,L6)])
 (.cond E23 (.seq (.reg [i (.mov Vn)] [(2,L0),(3,Vf)])
 .ret) .skip))
 (.seq (.reg [i (.mkl 1 [E11]),i (.app 1 E4 L0)] [(4,L1)])
 (.reg [i (.len E5),i (.bin .sub L0 E8),i (.slice 1 E5 none (some L1)),i (.mkl 1 [E6]),i (.app 1 L2 L3)] [(5,L4)])))))))))))
 (.reg [i (.bin .add E16 V1)] [(16,L0)]))))
def b_qbv:ACode:=
 (.seq (.reg [i (.box 1 E0),i (.mov Vn)] [(1,L0),(2,L1),(3,Vf)])
 (.seq (.reg [i (.mknil 1),i (.mknil 1)] [(4,L0),(5,L1)])
 (.seq (.seq (.reg [i (.fld 0 E1),i (ld L0),i (.len L1)] [(14,L1),(15,L2),(16,V0)])
 (.blk 0 (.loop [2,3,6,7,8,9,10,11,12,13,17,18,19,20,21,22,23] l_qbv_1)))
 (.seq (.reg [i (.len E5),i (.bin .eql L0 V1),g L1 true (.mov E4),g L1 true (.len L2),g L1 true (.bin .leq L3 (v (.int .i64 1000))),i (.pick L1 L4 Vf)] [(2,E4),(3,L5)])
 .ret))))
def f_qbv:AFunc:=⟨24,1,.pure,[.env 2,.env 3],b_qbv⟩
def l_qes_0:ACode:=
 (.seq (.seq (.reg [i (.len E3),i (.bin .lss E4 L0)] [(8,L1)])
 (.cond E8 .skip (.exit 2)))
 (.seq (.blk 3 (.seq (.reg [i (.idxs 1 E3 E4),i (ld L0),i (.bin .sub E4 V1),i (.idxs 1 E3 L2),i (ld L3),i (.bin .neq L1 L4)] [(9,L5)])
 (.cond E9 (.seq (.reg [i (.idxs 1 E3 E4),i (ld L0),i (.idxs 1 E0 E2),i (.store 1 L2 L1)] [])
 (.reg [i (.bin .add E2 V1)] [(2,L0)])) .skip)))
 (.reg [i (.bin .add E4 V1)] [(4,L0)])))
def l_qes_1:ACode:=
 (.seq (.seq (.reg [i (.len E0),i (.bin .lss E2 L0)] [(6,L1)])
 (.cond E6 .skip (.exit 0)))
 (.seq (.blk 1 (.seq (.reg [i (.idxs 1 E0 E2),i (ld L0),i (.bin .sub E2 V1),i (.idxs 1 E0 L2),i (ld L3),i (.bin .eql L1 L4)] [(7,L5)])
 (.cond E7 (.seq (.reg [i (.slice 1 E0 (some E2) none)] [(3,L0)])
 (.seq (.seq (.reg [] [(4,V1)])
 (.blk 2 (.loop [8,9] l_qes_0)))
 (.seq (.reg [i (.slice 1 E0 (some E2) none),i (.clr (.int .i64 0) L0)] [])
 (.seq (.reg [i (.slice 1 E0 none (some E2))] [(1,L0)])
 .ret)))) .skip)))
 (.reg [i (.bin .add E2 V1)] [(2,L0)])))
def b_qes:ACode:=
 (.seq (.reg [i (.mov Vn)] [(1,L0)])
 (.seq (.seq (.reg [i (.len E0),i (.bin .lss L0 (v (.int .i64 2)))] [(5,L1)])
 (.cond E5 (.seq (.reg [] [(1,E0)])
 .ret) .skip))
 (.seq (.seq (.reg [] [(2,V1)])
 (.blk 0 (.loop [1,3,4,6,7,8,9] l_qes_1)))
 (.seq (.reg [] [(1,E0)])
 .ret))))
def f_qes:AFunc:=⟨10,1,.keep,[.env 1],b_qes⟩
def b_qbx:ACode:=
 (.seq (.reg [i (.mov Vn)] [(2,L0)])
 (.seq (.reg [i (ld E1),i (ld E1),i (.len L1),i (.bin .sub L2 E0),i (.slice 1 L0 (some L3) none),i (.call 95 [L4] true)] [(3,L5)])
 (.seq (.reg [i (ld E1),i (ld E1),i (.len L1),i (.bin .sub L2 E0),i (.slice 1 L0 none (some L3)),i (.store 1 E1 L4)] [])
 (.seq (.reg [] [(2,E3)])
 .ret))))
def f_qbx:AFunc:=⟨4,2,.keep,[.env 2],b_qbx⟩
def b_qby:ACode:=
 (.seq (.reg [] [(1,V0)])
 (.seq (.blk 0 (.seq (.reg [i (.bin .eql E0 V1),g L0 false (.mov E0),g L0 false (.bin .eql L1 (v (.int .i64 2))),i (.pick L0 Vt L2)] [(2,L3)])
 (.cond E2 (.seq (.reg [] [(1,V0)])
 .ret) (.seq (.reg [i (.bin .geq E0 (v (.int .i64 4))),g L0 true (.mov E0),g L0 true (.bin .leq L1 (v (.int .i64 7))),i (.pick L0 L2 Vf)] [(3,L3)])
 (.cond E3 (.seq (.reg [] [(1,V1)])
 .ret) (.seq (.reg [i (.bin .geq E0 (v (.int .i64 12))),g L0 true (.mov E0),g L0 true (.bin .leq L1 (v (.int .i64 23))),i (.pick L0 L2 Vf)] [(4,L3)])
 (.cond E4 (.seq (.reg [] [(1,v (.int .i64 2))])
 .ret) .skip)))))))
 (.seq (.reg [] [(1,v (.int .i64 (-1)))])
 .ret)))
def f_qby:AFunc:=⟨5,1,.pure,[.env 1],b_qby⟩
def b_qdj:ACode:=
 (.seq (.reg [i (.box 1 E0),i (.box 1 E1)] [(2,L0),(3,L1),(4,v (.nilf))])
 (.seq (.reg [i (.mkfn 534 [] [E2,E3])] [(4,L0)])
 .ret))
def f_qdj:AFunc:=⟨5,2,.keep,[.env 4],b_qdj⟩
def b_qn:ACode:=
 (.seq (.reg [i (.box 1 E0)] [(1,L0),(2,Vf)])
 (.seq (.reg [i (.fld 0 E1),i (ld L0),i (.len L1),i (.bin .geq L2 V1),g L3 true (.fld 0 E1),g L3 true (ld L4),g L3 true (.len L5),g L3 true (.bin .leq L6 (v (.int .i64 1000))),i (.pick L3 L7 Vf),g L8 true (lt E1),g L8 true (.fld 0 E1),g L8 true (ld L10),g L8 true (.len L11),g L8 true (.bin .sub L12 V1),g L8 true (.call 302 [L9,L13] false),g L8 true (.fld 0 E1),g L8 true (ld L15),g L8 true (.len L16),g L8 true (.bin .eql L14 L17),i (.pick L8 L18 Vf)] [(2,L19)])
 .ret))
def f_qn:AFunc:=⟨3,1,.pure,[.env 2],b_qn⟩
def b_qs:ACode:=
 (.seq (.reg [] [(3,V0),(4,Vf)])
 (.seq (.blk 0 (.seq (.reg [i (.bin .eql E0 (v (.int .i64 4))),g L0 false (.mov E0),g L0 false (.bin .geq L1 (v (.int .i64 12))),g L0 false (.mov L2),g L3 true (.mov E0),g L3 true (.bin .leq L4 (v (.int .i64 15))),g L0 false (.pick L3 L5 Vf),i (.pick L0 Vt L6)] [(5,L7)])
 (.cond E5 (.seq (.reg [i (.call 399 [E1,(v (.int .i64 2))] false),g L0 true (.mov E2),g L0 true (.call 399 [L1,(v (.int .i64 2))] false),i (.pick L0 L2 Vf)] [(3,v (.int .i64 2)),(4,L3)])
 .ret) (.seq (.reg [i (.bin .eql E0 (v (.int .i64 5))),g L0 false (.mov E0),g L0 false (.bin .geq L1 (v (.int .i64 22))),i (.pick L0 Vt L2)] [(6,L3)])
 (.cond E6 (.seq (.reg [i (.call 399 [E1,V1] false),g L0 true (.mov E2),g L0 true (.call 399 [L1,V1] false),i (.pick L0 L2 Vf)] [(3,V1),(4,L3)])
 .ret) (.seq (.reg [i (.bin .eql E0 (v (.int .i64 6))),g L0 false (.mov E0),g L0 false (.bin .eql L1 (v (.int .i64 7))),i (.pick L0 Vt L2)] [(7,L3)])
 (.cond E7 (.seq (.reg [] [(3,V1),(4,Vt)])
 .ret) .skip)))))))
 (.seq (.reg [i (.bin .eql E1 E2),g L0 false (.mov E1),g L0 false (.bin .eql L1 V0),i (.pick L0 Vt L2),g L3 false (.mov E2),g L3 false (.bin .eql L4 V0),i (.pick L3 Vt L5)] [(3,V1),(4,L6)])
 .ret)))
def f_qs:AFunc:=⟨8,3,.pure,[.env 3,.env 4],b_qs⟩
def l_qfc_0:ACode:=
 (.seq (.reg [i (.bin .lss E10 E9)] [(11,L0)])
 (.seq (.cond E11 .skip (.exit 0))
 (.seq (.blk 1 (.seq (.reg [i (.idxs 3 E8 E10),i (.load true 3 L0),i (.box 3 (v (.agg [.nil0,nf,.int .u64 0]))),i (.store 3 L2 L1)] [(5,L2),(4,E10)])
 (.seq (.reg [i (.idxs 3 E1 E4),i (.load true 3 L0),i (.box 3 (v (.agg [.nil0,nf,.int .u64 0]))),i (.store 3 L2 L1)] [(6,L2)])
 (.seq (.reg [i (.load true 3 E5),i (.load true 3 E6),i (.callv E2 [L0,L1]),i (.una .not L2)] [(12,L3)])
 (.cond E12 (.seq (.reg [] [(3,Vf)])
 .ret) .skip)))))
 (.reg [i (.bin .add E10 V1)] [(10,L0)]))))
def b_qfc:ACode:=
 (.seq (.reg [] [(3,Vf)])
 (.seq (.seq (.reg [i (.len E0),i (.len E1),i (.bin .neq L0 L1)] [(7,L2)])
 (.cond E7 (.seq (.reg [] [(3,Vf)])
 .ret) .skip))
 (.seq (.seq (.reg [i (.len E0)] [(8,E0),(9,L0),(10,V0)])
 (.blk 0 (.loop [3,4,5,6,11,12] l_qfc_0)))
 (.seq (.reg [] [(3,Vt)])
 .ret))))
def f_qfc:AFunc:=⟨13,3,.pure,[.env 3],b_qfc⟩
def l_qfj_0:ACode:=
 (.seq (.reg [i (.bin .lss E5 E4)] [(6,L0)])
 (.seq (.cond E6 .skip (.exit 0))
 (.seq (.blk 1 (.seq (.reg [] [(3,E5)])
 (.seq (.reg [i (.idxs 4 E0 E3),i (.load true 4 L0),i (.callv E1 [L1])] [(7,L2)])
 (.cond E7 (.seq (.reg [] [(2,E3)])
 .ret) .skip))))
 (.reg [i (.bin .add E5 V1)] [(5,L0)]))))
def b_qfj:ACode:=
 (.seq (.reg [] [(2,V0)])
 (.seq (.seq (.reg [i (.len E0)] [(4,L0),(5,V0)])
 (.blk 0 (.loop [2,3,6,7] l_qfj_0)))
 (.seq (.reg [] [(2,v (.int .i64 (-1)))])
 .ret)))
def f_qfj:AFunc:=⟨8,2,.pure,[.env 2],b_qfj⟩
def b_qeq:ACode:=
 (.seq (.reg [i (.mov Vn)] [(1,L0)])
 (.seq (.seq (.reg [i (.nils false E0)] [(2,L0)])
 (.cond E2 (.seq (.reg [i (.mov Vn)] [(1,L0)])
 .ret) .skip))
 (.seq (.reg [i (.mov (v .nil0)),i (.app 4 L0 E0)] [(1,L1)])
 .ret)))
def f_qeq:AFunc:=⟨3,1,.fresh 4,[.env 1],b_qeq⟩
def l_qet_0:ACode:=
 (.seq (.reg [i (.bin .lss E10 E9)] [(11,L0)])
 (.seq (.cond E11 .skip (.exit 0))
 (.seq (.blk 1 (.seq (.reg [i (.idxs 4 E8 E10),i (.load true 4 L0),i (.box 4 (v (.agg [n0,n0,.int .u64 0,.str []]))),i (.store 4 L2 L1)] [(5,L2),(4,E10)])
 (.seq (.seq (.reg [i (.len E1),i (.bin .geq E4 L0)] [(12,L1)])
 (.cond E12 (.seq (.reg [] [(3,V1)])
 .ret) .skip))
 (.seq (.reg [i (.idxs 4 E1 E4),i (.load true 4 L0),i (.box 4 (v (.agg [n0,n0,.int .u64 0,.str []]))),i (.store 4 L2 L1)] [(6,L2)])
 (.seq (.reg [i (.load true 4 E5),i (.load true 4 E6),i (.callv E2 [L0,L1])] [(7,L2)])
 (.seq (.reg [i (.bin .neq E7 V0)] [(13,L0)])
 (.cond E13 (.seq (.reg [] [(3,E7)])
 .ret) .skip)))))))
 (.reg [i (.bin .add E10 V1)] [(10,L0)]))))
def b_qet:ACode:=
 (.seq (.reg [] [(3,V0)])
 (.seq (.seq (.reg [i (.len E0)] [(8,E0),(9,L0),(10,V0)])
 (.blk 0 (.loop [3,4,5,6,7,11,12,13] l_qet_0)))
 (.seq (.seq (.reg [i (.len E0),i (.len E1),i (.bin .lss L0 L1)] [(14,L2)])
 (.cond E14 (.seq (.reg [] [(3,v (.int .i64 (-1)))])
 .ret) .skip))
 (.seq (.reg [] [(3,V0)])
 .ret))))
def f_qet:AFunc:=⟨15,3,.pure,[.env 3],b_qet⟩
def b_qel:ACode:=
 (.seq (.reg [i (.box 4 E0),i (.box 4 E1)] [(2,L0),(3,L1),(4,V0)])
 (.seq (.reg [i (.fld 0 E2),i (ld L0),i (.fld 0 E3),i (ld L2),i (.call 242 [L1,L3] false),i (.fld 1 E2),i (ld L5),i (.fld 1 E3),i (ld L7),i (.call 243 [L6,L8] false),i (.fld 2 E2),i (ld L10),i (.fld 2 E3),i (ld L12),i (.call 244 [L11,L13] false),i (.fld 3 E2),i (ld L15),i (.fld 3 E3),i (ld L17),i (.call 245 [L16,L18] false),i (.mkl 1 [L4,L9,L14,L19]),i (.call 141 [L20] false)] [(4,L21)])
 .ret))
def f_qel:AFunc:=⟨5,2,.pure,[.env 4],b_qel⟩
def b_qgm:ACode:=
 (.seq (.reg [i (.box 4 E0)] [(1,L0),(2,Vf)])
 (.seq (.reg [i (.load true 4 E1),i (.call 255 [L0] false),i (.bin .eql L1 V0),g L2 true (.fld 0 E1),g L2 true (ld L3),g L2 true (.bin .neq L4 (v (.int .i64 4))),i (.pick L2 L5 Vf)] [(2,L6)])
 .ret))
def f_qgm:AFunc:=⟨3,1,.pure,[.env 2],b_qgm⟩
def b_qbu:ACode:=
 (.seq (.reg [i (.box 8 E0)] [(1,L0),(2,Vf)])
 (.seq (.seq (.reg [i (.fld 0 E1),i (ld L0)] [(3,L1)])
 (.blk 0 (.seq (.reg [i (.bin .eql E3 V1)] [(4,L0)])
 (.cond E4 (.seq (.reg [i (.fld 4 E1),i (.load true 4 L0),i (.call 206 [L1] false),g L2 true (.fld 3 E1),g L2 true (ld L3),g L2 true (.bin .eql L4 V0),i (.pick L2 L5 Vf)] [(2,L6)])
 .ret) (.seq (.reg [i (.bin .eql E3 (v (.int .i64 2)))] [(5,L0)])
 (.cond E5 (.seq (.reg [i (.fld 4 E1),i (.load true 4 L0),i (.build [n0,n0,.int .u64 0,.str []] []),i (.eqa false [0,0,0,2] L1 L2),g L3 true (.fld 3 E1),g L3 true (ld L4),g L3 true (.bin .geq L5 V0),i (.pick L3 L6 Vf),g L7 true (.fld 3 E1),g L7 true (ld L8),g L7 true (.bin .lss L9 (v (.int .i64 16))),i (.pick L7 L10 Vf)] [(2,L11)])
 .ret) .skip))))))
 (.seq (.reg [i (.fld 4 E1),i (.load true 4 L0),i (.build [n0,n0,.int .u64 0,.str []] []),i (.eqa false [0,0,0,2] L1 L2),g L3 true (.fld 3 E1),g L3 true (ld L4),g L3 true (.bin .eql L5 V0),i (.pick L3 L6 Vf)] [(2,L7)])
 .ret)))
def f_qbu:AFunc:=⟨6,1,.pure,[.env 2],b_qbu⟩
def l_qdk_0:ACode:=
 (.seq (.reg [i (.bin .lss E13 E12)] [(14,L0)])
 (.seq (.cond E14 .skip (.exit 2))
 (.seq (.blk 3 (.seq (.reg [i (.idxs 12 E11 E13),i (.load true 12 L0),i (.box 12 (v (.agg [n0,n0,n0,n0,.nil0,nf,.nil0,.nil0,.nil0,.nil0,.nil0,n0]))),i (.store 12 L2 L1)] [(6,L2),(5,E13)])
 (.seq (.reg [i (.fld 0 E6),i (ld L0),i (.bin .eql L1 (v (.int .i64 9))),g L2 true (.fld 3 E6),g L2 true (ld L3),g L2 true (ld E2),g L2 true (.bin .eql L4 L5),i (.pick L2 L6 Vf),g L7 true (.mov E0),g L7 true (.mov E3),g L7 true (.mov E5),g L7 true (.callv L8 [L9,L10]),g L7 true (.una .not L11),i (.pick L7 L12 Vf)] [(15,L13)])
 (.cond E15 .ret .skip))))
 (.reg [i (.bin .add E13 V1)] [(13,L0)]))))
def l_qdk_1:ACode:=
 (.seq (.reg [i (.bin .lss E9 E8)] [(10,L0)])
 (.seq (.cond E10 .skip (.exit 0))
 (.seq (.blk 1 (.seq (.reg [i (.idxs 4 E7 E9),i (.load true 4 L0),i (.box 4 (v (.agg [.nil0,n0,n0,.nil0]))),i (.store 4 L2 L1)] [(4,L2),(3,E9)])
 (.seq (.reg [i (.fld 0 E4),i (ld L0),i (.len L1)] [(11,L1),(12,L2),(13,V0)])
 (.blk 2 (.loop [5,6,14,15] l_qdk_0)))))
 (.reg [i (.bin .add E9 V1)] [(9,L0)]))))
def b_qdk:ACode:=
 (.seq (.reg [i (.fld 0 E1),i (ld L0),i (.len L1)] [(7,L1),(8,L2),(9,V0)])
 (.blk 0 (.loop [3,4,5,6,10,11,12,13,14,15] l_qdk_1)))
def f_qdk:AFunc:=⟨16,3,.keep,[],b_qdk⟩
def b_qt:ACode:=
 (.seq (.reg [i (.box 1 E0)] [(2,L0),(3,V0)])
 (.seq (.seq (.reg [i (.bin .lss E1 V0),g L0 false (.mov E1),g L0 false (.fld 0 E2),g L0 false (ld L2),g L0 false (.len L3),g L0 false (.bin .geq L1 L4),i (.pick L0 Vt L5)] [(8,L6)])
 (.cond E8 (.seq (.reg [] [(3,V0)])
 .ret) .skip))
 (.seq (.reg [i (.fld 0 E2),i (ld L0),i (.idxs 8 L1 E1),i (.load true 8 L2),i (.box 8 (v (.agg [n0,n0,n0,n0,n0,n0,.int .u64 0,.str []]))),i (.store 8 L4 L3)] [(4,L4)])
 (.seq (.reg [i (.fld 0 E4),i (ld L0),i (.call 363 [L1] false)] [(5,L2)])
 (.seq (.seq (.reg [i (.bin .lss E5 V0),g L0 false (.load true 8 E4),g L0 false (.call 362 [L1] false),g L0 false (.una .not L2),i (.pick L0 Vt L3)] [(9,L4)])
 (.cond E9 (.seq (.reg [] [(3,V0)])
 .ret) .skip))
 (.seq (.seq (.reg [i (.bin .eql E5 V0)] [(10,L0)])
 (.cond E10 (.seq (.seq (.reg [i (.fld 1 E4),i (ld L0),i (.bin .neq L1 (v (.int .i64 (-1)))),g L2 false (.fld 2 E4),g L2 false (ld L3),g L2 false (.bin .neq L4 (v (.int .i64 (-1)))),i (.pick L2 Vt L5)] [(11,L6)])
 (.cond E11 (.seq (.reg [] [(3,V0)])
 .ret) .skip))
 (.seq (.reg [] [(3,V1)])
 .ret)) .skip))
 (.seq (.reg [i (lt E2),i (.bin .sub E1 V1),i (.call 302 [L0,L1] false)] [(6,L2)])
 (.seq (.seq (.reg [i (.bin .eql E6 V0)] [(12,L0)])
 (.cond E12 (.seq (.reg [] [(3,V0)])
 .ret) .skip))
 (.seq (.seq (.reg [i (.bin .eql E5 V1)] [(13,L0)])
 (.cond E13 (.seq (.seq (.reg [i (.fld 1 E4),i (ld L0),i (.bin .sub E1 V1),i (.bin .neq L1 L2),g L3 false (.fld 2 E4),g L3 false (ld L4),g L3 false (.bin .neq L5 (v (.int .i64 (-1)))),i (.pick L3 Vt L6)] [(14,L7)])
 (.cond E14 (.seq (.reg [] [(3,V0)])
 .ret) .skip))
 (.seq (.reg [i (.bin .add E6 V1)] [(3,L0)])
 .ret)) .skip))
 (.seq (.reg [i (lt E2),i (.bin .sub E1 V1),i (.bin .sub L1 E6),i (.call 302 [L0,L2] false)] [(7,L3)])
 (.seq (.seq (.reg [i (.bin .eql E7 V0),g L0 false (.fld 2 E4),g L0 false (ld L1),g L0 false (.mov E1),g L0 false (.bin .sub L3 V1),g L0 false (.bin .neq L2 L4),i (.pick L0 Vt L5),g L6 false (.fld 1 E4),g L6 false (ld L7),g L6 false (.mov E1),g L6 false (.bin .sub L9 V1),g L6 false (.mov E6),g L6 false (.bin .sub L10 L11),g L6 false (.bin .neq L8 L12),i (.pick L6 Vt L13)] [(15,L14)])
 (.cond E15 (.seq (.reg [] [(3,V0)])
 .ret) .skip))
 (.seq (.reg [i (.bin .add E7 E6),i (.bin .add L0 V1)] [(3,L1)])
 .ret))))))))))))
def f_qt:AFunc:=⟨16,2,.pure,[.env 3],b_qt⟩
def b_qr:ACode:=
 (.seq (.reg [] [(2,Vf)])
 (.seq (.reg [i (.bin .eql E0 E1),g L0 false (.mov E0),g L0 false (.bin .eql L1 V0),i (.pick L0 Vt L2)] [(2,L3)])
 .ret))
def f_qr:AFunc:=⟨3,2,.pure,[.env 2],b_qr⟩
def l_qbb_0:ACode:=
 (.seq (.reg [i (.bin .lss E6 E5)] [(7,L0)])
 (.seq (.cond E7 .skip (.exit 0))
 (.seq (.blk 1 (.seq (.reg [i (.idxs 1 E4 E6),i (ld L0)] [(3,L1)])
 (.seq (.reg [i (.bin .neq E3 E2)] [(8,L0)])
 (.cond E8 (.seq (.reg [] [(1,E3)])
 .ret) .skip))))
 (.reg [i (.bin .add E6 V1)] [(6,L0)]))))
def b_qbb:ACode:=
 (.seq (.reg [] [(1,V0)])
 (.seq (.reg [] [(2,V0)])
 (.seq (.seq (.reg [i (.len E0)] [(4,E0),(5,L0),(6,V0)])
 (.blk 0 (.loop [1,3,7,8] l_qbb_0)))
 (.seq (.reg [] [(1,E2)])
 .ret))))
def f_qbb:AFunc:=⟨9,1,.pure,[.env 1],b_qbb⟩
def b_qax:ACode:=
 (.seq (.reg [] [(2,V0)])
 (.seq (.reg [i (.call 316 [E0] false)] [(3,L0)])
 (.seq (.reg [i (.call 316 [E1] false)] [(4,L0)])
 (.seq (.seq (.reg [] [(5,E3)])
 (.cond E5 (.seq (.seq (.reg [] [(6,E4)])
 (.cond E6 (.seq (.reg [] [(2,V0)])
 .ret) .skip))
 (.seq (.reg [] [(2,v (.int .i64 (-1)))])
 .ret)) .skip))
 (.seq (.seq (.reg [] [(7,E4)])
 (.cond E7 (.seq (.reg [] [(2,V1)])
 .ret) .skip))
 (.seq (.seq (.reg [i (.bin .lss E0 E1)] [(8,L0)])
 (.cond E8 (.seq (.reg [] [(2,v (.int .i64 (-1)))])
 .ret) .skip))
 (.seq (.seq (.reg [i (.bin .gtr E0 E1)] [(9,L0)])
 (.cond E9 (.seq (.reg [] [(2,V1)])
 .ret) .skip))
 (.seq (.reg [] [(2,V0)])
 .ret))))))))
def f_qax:AFunc:=⟨10,2,.pure,[.env 2],b_qax⟩
def b_qay:ACode:=
 (.seq (.reg [] [(2,V0)])
 (.seq (.reg [i (.call 317 [E0] false)] [(3,L0)])
 (.seq (.reg [i (.call 317 [E1] false)] [(4,L0)])
 (.seq (.seq (.reg [] [(5,E3)])
 (.cond E5 (.seq (.seq (.reg [] [(6,E4)])
 (.cond E6 (.seq (.reg [] [(2,V0)])
 .ret) .skip))
 (.seq (.reg [] [(2,v (.int .i64 (-1)))])
 .ret)) .skip))
 (.seq (.seq (.reg [] [(7,E4)])
 (.cond E7 (.seq (.reg [] [(2,V1)])
 .ret) .skip))
 (.seq (.seq (.reg [i (.bin .lss E0 E1)] [(8,L0)])
 (.cond E8 (.seq (.reg [] [(2,v (.int .i64 (-1)))])
 .ret) .skip))
 (.seq (.seq (.reg [i (.bin .gtr E0 E1)] [(9,L0)])
 (.cond E9 (.seq (.reg [] [(2,V1)])
 .ret) .skip))
 (.seq (.reg [] [(2,V0)])
 .ret))))))))
def f_qay:AFunc:=⟨10,2,.pure,[.env 2],b_qay⟩
def b_qba:ACode:=
 (.seq (.reg [] [(2,V0)])
 (.seq (.reg [i (.call 318 [E0] false)] [(3,L0)])
 (.seq (.reg [i (.call 318 [E1] false)] [(4,L0)])
 (.seq (.seq (.reg [] [(5,E3)])
 (.cond E5 (.seq (.seq (.reg [] [(6,E4)])
 (.cond E6 (.seq (.reg [] [(2,V0)])
 .ret) .skip))
 (.seq (.reg [] [(2,v (.int .i64 (-1)))])
 .ret)) .skip))
 (.seq (.seq (.reg [] [(7,E4)])
 (.cond E7 (.seq (.reg [] [(2,V1)])
 .ret) .skip))
 (.seq (.seq (.reg [i (.bin .lss E0 E1)] [(8,L0)])
 (.cond E8 (.seq (.reg [] [(2,v (.int .i64 (-1)))])
 .ret) .skip))
 (.seq (.seq (.reg [i (.bin .gtr E0 E1)] [(9,L0)])
 (.cond E9 (.seq (.reg [] [(2,V1)])
 .ret) .skip))
 (.seq (.reg [] [(2,V0)])
 .ret))))))))
def f_qba:AFunc:=⟨10,2,.pure,[.env 2],b_qba⟩
def b_qaz:ACode:=
 (.seq (.reg [] [(2,V0)])
 (.seq (.reg [i (.call 319 [E0] false)] [(3,L0)])
 (.seq (.reg [i (.call 319 [E1] false)] [(4,L0)])
 (.seq (.seq (.reg [] [(5,E3)])
 (.cond E5 (.seq (.seq (.reg [] [(6,E4)])
 (.cond E6 (.seq (.reg [] [(2,V0)])
 .ret) .skip))
 (.seq (.reg [] [(2,v (.int .i64 (-1)))])
 .ret)) .skip))
 (.seq (.seq (.reg [] [(7,E4)])
 (.cond E7 (.seq (.reg [] [(2,V1)])
 .ret) .skip))
 (.seq (.seq (.reg [i (.bin .lss E0 E1)] [(8,L0)])
 (.cond E8 (.seq (.reg [] [(2,v (.int .i64 (-1)))])
 .ret) .skip))
 (.seq (.seq (.reg [i (.bin .gtr E0 E1)] [(9,L0)])
 (.cond E9 (.seq (.reg [] [(2,V1)])
 .ret) .skip))
 (.seq (.reg [] [(2,V0)])
 .ret))))))))
def f_qaz:AFunc:=⟨10,2,.pure,[.env 2],b_qaz⟩
def b_qm:ACode:=
 (.seq (.reg [] [(1,V0)])
 (.seq (.seq (.reg [i (.bin .eql E0 (v (.int .i64 3))),g L0 false (.mov E0),g L0 false (.bin .geq L1 (v (.int .i64 8))),g L0 false (.mov L2),g L3 true (.mov E0),g L3 true (.bin .leq L4 (v (.int .i64 11))),g L0 false (.pick L3 L5 Vf),i (.pick L0 Vt L6)] [(2,L7)])
 (.cond E2 (.seq (.reg [] [(1,v (.int .i64 (-1)))])
 .ret) .skip))
 (.seq (.reg [i (.call 392 [E0] false)] [(1,L0)])
 .ret)))
def f_qm:AFunc:=⟨3,1,.pure,[.env 1],b_qm⟩
def b_qq:ACode:=
 (.seq (.reg [i (.box 8 E0)] [(1,L0),(2,Vf)])
 (.seq (.seq (.reg [i (.fld 0 E1),i (ld L0)] [(3,L1)])
 (.blk 0 (.seq (.reg [i (.bin .eql E3 V1)] [(4,L0)])
 (.cond E4 (.seq (.reg [i (.fld 4 E1),i (.load true 4 L0),i (.call 221 [L1] false),g L2 true (.fld 3 E1),g L2 true (ld L3),g L2 true (.bin .eql L4 V0),i (.pick L2 L5 Vf)] [(2,L6)])
 .ret) (.seq (.reg [i (.bin .eql E3 (v (.int .i64 2)))] [(5,L0)])
 (.cond E5 (.seq (.reg [i (.fld 4 E1),i (.load true 4 L0),i (.build [n0,n0,.int .u64 0,.str []] []),i (.eqa false [0,0,0,2] L1 L2),g L3 true (.fld 3 E1),g L3 true (ld L4),g L3 true (.bin .geq L5 V0),i (.pick L3 L6 Vf),g L7 true (.fld 3 E1),g L7 true (ld L8),g L7 true (.bin .lss L9 (v (.int .i64 16))),i (.pick L7 L10 Vf)] [(2,L11)])
 .ret) .skip))))))
 (.seq (.reg [i (.fld 4 E1),i (.load true 4 L0),i (.build [n0,n0,.int .u64 0,.str []] []),i (.eqa false [0,0,0,2] L1 L2),g L3 true (.fld 3 E1),g L3 true (ld L4),g L3 true (.bin .eql L5 V0),i (.pick L3 L6 Vf)] [(2,L7)])
 .ret)))
def f_qq:AFunc:=⟨6,1,.pure,[.env 2],b_qq⟩
def b_qbc:ACode:=
 (.seq (.reg [] [(1,Vf)])
 (.seq (.reg [i (.bin .neq E0 E0)] [(1,L0)])
 .ret))
def f_qbc:AFunc:=⟨2,1,.pure,[.env 1],b_qbc⟩
def b_qbd:ACode:=
 (.seq (.reg [] [(1,Vf)])
 (.seq (.reg [i (.bin .neq E0 E0)] [(1,L0)])
 .ret))
def f_qbd:AFunc:=⟨2,1,.pure,[.env 1],b_qbd⟩
def b_qbf:ACode:=
 (.seq (.reg [] [(1,Vf)])
 (.seq (.reg [i (.bin .neq E0 E0)] [(1,L0)])
 .ret))
def f_qbf:AFunc:=⟨2,1,.pure,[.env 1],b_qbf⟩
def b_qbe:ACode:=
 (.seq (.reg [] [(1,Vf)])
 (.seq (.reg [i (.bin .neq E0 E0)] [(1,L0)])
 .ret))
def f_qbe:AFunc:=⟨2,1,.pure,[.env 1],b_qbe⟩
def b_qj:ACode:=
 (.seq (.reg [] [(1,V0)])
 (.seq (.blk 0 (.seq (.reg [i (.bin .lss E0 V1),g L0 false (.mov E0),g L0 false (.bin .gtr L1 (v (.int .i64 23))),i (.pick L0 Vt L2)] [(2,L3)])
 (.cond E2 (.seq (.reg [] [(1,v (.int .i64 (-1)))])
 .ret) (.seq (.reg [i (.bin .leq E0 (v (.int .i64 3)))] [(3,L0)])
 (.cond E3 (.seq (.reg [] [(1,V0)])
 .ret) (.seq (.reg [i (.bin .leq E0 (v (.int .i64 11)))] [(4,L0)])
 (.cond E4 (.seq (.reg [] [(1,V1)])
 .ret) .skip)))))))
 (.seq (.reg [] [(1,v (.int .i64 2))])
 .ret)))
def f_qj:AFunc:=⟨5,1,.pure,[.env 1],b_qj⟩
def b_qh:ACode:=
 (.seq (.reg [i (.box 4 E0)] [(1,L0),(2,Vf)])
 (.seq (.reg [i (.load true 4 E1),i (.call 122 [L0] false),g L1 true (.fld 0 E1),g L1 true (ld L2),g L1 true (.bin .neq L3 (v (.int .i64 4))),i (.pick L1 L4 Vf)] [(2,L5)])
 .ret))
def f_qh:AFunc:=⟨3,1,.pure,[.env 2],b_qh⟩
def b_qi:ACode:=
 (.seq (.reg [i (.box 4 E0)] [(1,L0),(2,Vf)])
 (.seq (.seq (.reg [i (.fld 0 E1),i (ld L0)] [(3,L1)])
 (.blk 0 (.seq (.reg [i (.bin .eql E3 V0)] [(4,L0)])
 (.cond E4 (.seq (.reg [i (.load true 4 E1),i (.build [n0,n0,.int .u64 0,.str []] []),i (.eqa false [0,0,0,2] L0 L1)] [(2,L2)])
 .ret) (.seq (.reg [i (.bin .eql E3 V1)] [(5,L0)])
 (.cond E5 (.seq (.reg [i (.fld 2 E1),i (ld L0),i (.bin .eql L1 (v (.int .u64 0))),g L2 true (.fld 3 E1),g L2 true (ld L3),g L2 true (.bin .eql L4 (v (.str []))),i (.pick L2 L5 Vf),g L6 true (.fld 1 E1),g L6 true (ld L7),g L6 true (.bin .eql L8 V0),g L6 true (.mov L9),g L10 false (.fld 1 E1),g L10 false (ld L11),g L10 false (.bin .eql L12 V1),g L6 true (.pick L10 Vt L13),i (.pick L6 L14 Vf)] [(2,L15)])
 .ret) (.seq (.reg [i (.bin .eql E3 (v (.int .i64 2)))] [(6,L0)])
 (.cond E6 (.seq (.reg [i (.fld 2 E1),i (ld L0),i (.bin .eql L1 (v (.int .u64 0))),g L2 true (.fld 3 E1),g L2 true (ld L3),g L2 true (.bin .eql L4 (v (.str []))),i (.pick L2 L5 Vf)] [(2,L6)])
 .ret) (.seq (.reg [i (.bin .eql E3 (v (.int .i64 3)))] [(7,L0)])
 (.cond E7 (.seq (.reg [i (.fld 1 E1),i (ld L0),i (.bin .eql L1 V0),g L2 true (.fld 2 E1),g L2 true (ld L3),g L2 true (.bin .eql L4 (v (.int .u64 0))),i (.pick L2 L5 Vf),g L6 true (.fld 3 E1),g L6 true (ld L7),g L6 true (.lent L8),g L6 true (.bin .leq L9 (v (.int .i64 40))),i (.pick L6 L10 Vf)] [(2,L11)])
 .ret) .skip))))))))))
 (.seq (.reg [i (.fld 0 E1),i (ld L0),i (.bin .eql L1 (v (.int .i64 4))),g L2 true (.fld 3 E1),g L2 true (ld L3),g L2 true (.bin .eql L4 (v (.str []))),i (.pick L2 L5 Vf)] [(2,L6)])
 .ret)))
def f_qi:AFunc:=⟨8,1,.pure,[.env 2],b_qi⟩
def tbl:List AEntry:=[
.none,
.none,
.fn f_qbh,
.none,
.none,
.fn f_ql,
.none,
.none,
.none,
.none,
.none,
.none,
.none,
.none,
.none,
.none,
.none,
.none,
.none,
.none,
.none,
.none,
.none,
.fn f_qy,
.none,
.none,
.none,
.none,
.none,
.fn f_qee,
.fn f_qed,
.fn f_qbg,
.none,
.none,
.none,
.fn f_qbi,
.fn f_qbn,
.fn f_qdf,
.none,
.none,
.none,
.none,
.fn f_qey,
.none,
.none,
.none,
.none,
.none,
.none,
.none,
.none,
.none,
.none,
.fn f_qae,
.none,
.none,
.none,
.none,
.none,
.none,
.none,
.none,
.nilfn f_qep,
.none,
.none,
.none,
.none,
.prim 1,
.fn f_qef,
.none,
.none,
.fn f_qbp,
.none,
.none,
.none,
.fn f_qbj,
.none,
.fn f_qfa,
.none,
.fn f_qeg,
.fn f_qek,
.none,
.none,
.none,
.none,
.none,
.none,
.none,
.none,
.none,
.none,
.none,
.none,
.none,
.none,
.nilfn f_qer,
.fn f_qdy,
.fn f_qdh,
.fn f_qbm,
.none,
.none,
.none,
.none,
.none,
.none,
.none,
.none,
.none,
.none,
.none,
.fn f_qew,
.none,
.fn f_qfi,
.none,
.nilfn f_qeq,
.none,
.none,
.none,
.none,
.none,
.none,
.none,
.fn f_qi,
.fn f_qam,
.fn f_qai,
.fn f_qal,
.fn f_qaj,
.fn f_qah,
.fn f_qak,
.none,
.none,
.none,
.none,
.none,
.none,
.none,
.none,
.none,
.none,
.none,
.fn f_qeh,
.fn f_qbb,
.fn f_qet,
.fn f_qel,
.none,
.none,
.fn f_qbv,
.none,
.none,
.none,
.none,
.none,
.none,
.none,
.none,
.none,
.none,
.none,
.none,
.none,
.fn f_qfk,
.fn f_qbk,
.none,
.fn f_qei,
.none,
.none,
.none,
.none,
.none,
.none,
.none,
.none,
.none,
.none,
.none,
.none,
.none,
.fn f_qdu,
.fn f_qdo,
.fn f_qdq,
.fn f_qdl,
.fn f_qdn,
.fn f_qds,
.fn f_qdm,
.fn f_qdt,
.fn f_qdr,
.fn f_qdz,
.fn f_qdw,
.fn f_qfb,
.fn f_qdi,
.fn f_qea,
.fn f_qbo,
.none,
.none,
.none,
.none,
.fn f_qfg,
.fn f_qec,
.none,
.none,
.none,
.none,
.none,
.none,
.none,
.none,
.fn f_qgm,
.fn f_qbq,
.none,
.none,
.none,
.none,
.none,
.none,
.none,
.none,
.fn f_qaf,
.fn f_qv,
.fn f_qu,
.fn f_qan,
.none,
.fn f_qh,
.fn f_qn,
.none,
.none,
.none,
.none,
.none,
.none,
.none,
.none,
.none,
.none,
.none,
.none,
.none,
.none,
.none,
.none,
.none,
.none,
.none,
.fn f_qax,
.fn f_qay,
.fn f_qba,
.fn f_qaz,
.fn f_qbu,
.fn f_qby,
.none,
.none,
.none,
.none,
.none,
.fn f_qfd,
.fn f_qbl,
.fn f_qgl,
.fn f_qgn,
.none,
.none,
.fn f_qez,
.fn f_qej,
.none,
.none,
.none,
.none,
.none,
.none,
.none,
.none,
.none,
.none,
.none,
.fn f_qdv,
.fn f_qdp,
.fn f_qeb,
.fn f_qeu,
.fn f_qbr,
.fn f_qdx,
.fn f_qfl,
.none,
.none,
.fn f_qes,
.prim 2,
.none,
.none,
.none,
.none,
.none,
.none,
.none,
.none,
.none,
.none,
.none,
.none,
.none,
.none,
.none,
.none,
.fn f_qw,
.fn f_qac,
.fn f_qaa,
.fn f_qt,
.none,
.none,
.none,
.none,
.none,
.none,
.none,
.none,
.none,
.none,
.none,
.none,
.none,
.fn f_qbc,
.fn f_qbd,
.fn f_qbf,
.fn f_qbe,
.fn f_qfj,
.none,
.none,
.none,
.none,
.none,
.none,
.none,
.none,
.none,
.none,
.none,
.none,
.none,
.none,
.none,
.none,
.none,
.none,
.fn f_qfe,
.fn f_qbs,
.fn f_qbw,
.none,
.none,
.none,
.none,
.none,
.none,
.none,
.none,
.none,
.none,
.none,
.none,
.none,
.none,
.none,
.none,
.none,
.fn f_qad,
.fn f_qab,
.fn f_qk,
.fn f_qq,
.fn f_qm,
.none,
.none,
.none,
.none,
.none,
.none,
.none,
.none,
.none,
.none,
.fn f_qbx,
.fn f_qbt,
.none,
.none,
.none,
.none,
.none,
.none,
.none,
.none,
.none,
.none,
.none,
.none,
.none,
.none,
.none,
.fn f_qs,
.fn f_qj,
.none,
.none,
.none,
.none,
.none,
.none,
.fn f_qr,
.none,
.none,
.none,
.none,
.none,
.none,
.none,
.none,
.none,
.none,
.none,
.fn f_qaw,
.none,
.none,
.fn f_qg,
.none,
.fn f_qfp,
.fn f_qb,
.fn f_qfn,
.fn f_qf,
.fn f_qfm,
.none,
.none,
.fn f_qd,
.none,
.none,
.none,
.none,
.none,
.fn f_qag,
.fn f_qau,
.fn f_qar,
.fn f_qat,
.none,
.fn f_qcf,
.fn f_qcv,
.fn f_qce,
.fn f_qct,
.fn f_qcx,
.fn f_qfo,
.fn f_qgk,
.fn f_qfq,
.fn f_qc,
.none,
.fn f_qfc,
.none,
.none,
.none,
.fn f_qci,
.none,
.none,
.none,
.fn f_qas,
.none,
.fn f_qx,
.none,
.fn f_qdc,
.fn f_qda,
.fn f_qcu,
.fn f_qdd,
.fn f_qcs,
.fn f_qcw,
.fn f_qfs,
.fn f_qgd,
.fn f_qfx,
.fn f_qgf,
.fn f_qgc,
.fn f_qfu,
.none,
.fn f_qfv,
.fn f_qft,
.fn f_qfy,
.fn f_qgg,
.fn f_qfr,
.round r_task_collected_api_Msg_0,
.fn f_qgh,
.none,
.none,
.none,
.none,
.none,
.none,
.none,
.none,
.fn f_qz,
.none,
.fn f_qde,
.round r_plan_some_0,
.fn f_qcy,
.fn f_qgi,
.fn f_qgb,
.fn f_qga,
.fn f_qge,
.nilfn f_qen,
.nilfn f_qeo,
.none,
.fn f_qev,
.fn f_qcc,
.fn f_qcg,
.fn f_qfw,
.fn f_qex,
.fn f_qbz,
.none,
.none,
.fn f_qcr,
.fn f_qcn,
.fn f_qca,
.fn f_qo,
.fn f_qp,
.fn f_qcz,
.none,
.fn f_qcb,
.fn f_qgj,
.fn f_qff,
.fn f_qch,
.fn f_qcd,
.fn f_qfh,
.nilfn f_qem,
.none,
.none,
.none,
.none,
.fn f_qcj,
.fn f_qcl,
.fn f_qck,
.fn f_qdb,
.fn f_qdg,
.fn f_qcm,
.fn f_qfz,
.fn f_qco,
.fn f_qcp,
.fn f_qcq,
.round r_prop_Reader_0,
.fn f_qdj,
.fn f_qdk,
.fn f_qav,
.fn f_qe,
.fn f_qa,
.fn f_qaq,
.fn f_qao,
.fn f_qap]
end Go.AM.P
namespace Go.AM
def code:Code:=⟨fun n=>P.tbl.getD n .none,prims⟩
end Go.AM
namespace Go.AM.I
abbrev ql:Nat:=5
abbrev qy:Nat:=23
abbrev qdf:Nat:=37
abbrev qae:Nat:=53
abbrev qbp:Nat:=71
abbrev qfa:Nat:=77
abbrev qer:Nat:=95
abbrev qdy:Nat:=96
abbrev qdh:Nat:=97
abbrev qew:Nat:=110
abbrev qeq:Nat:=114
abbrev qi:Nat:=122
abbrev qam:Nat:=123
abbrev qai:Nat:=124
abbrev qal:Nat:=125
abbrev qaj:Nat:=126
abbrev qah:Nat:=127
abbrev qak:Nat:=128
abbrev qbv:Nat:=146
abbrev qfk:Nat:=160
abbrev qei:Nat:=163
abbrev qdu:Nat:=177
abbrev qdo:Nat:=178
abbrev qdq:Nat:=179
abbrev qdl:Nat:=180
abbrev qdn:Nat:=181
abbrev qds:Nat:=182
abbrev qdm:Nat:=183
abbrev qdt:Nat:=184
abbrev qdr:Nat:=185
abbrev qdz:Nat:=186
abbrev qdw:Nat:=187
abbrev qfb:Nat:=188
abbrev qdi:Nat:=189
abbrev qea:Nat:=190
abbrev qfg:Nat:=196
abbrev qgm:Nat:=206
abbrev qbq:Nat:=207
abbrev qaf:Nat:=216
abbrev qv:Nat:=217
abbrev qu:Nat:=218
abbrev qan:Nat:=219
abbrev qh:Nat:=221
abbrev qn:Nat:=222
abbrev qbu:Nat:=246
abbrev qby:Nat:=247
abbrev qgl:Nat:=255
abbrev qgn:Nat:=256
abbrev qdv:Nat:=272
abbrev qdp:Nat:=273
abbrev qeb:Nat:=274
abbrev qeu:Nat:=275
abbrev qbr:Nat:=276
abbrev qdx:Nat:=277
abbrev qfl:Nat:=278
abbrev qes:Nat:=281
abbrev slices_Sort_int_int:Nat:=282
abbrev qw:Nat:=299
abbrev qac:Nat:=300
abbrev qaa:Nat:=301
abbrev qt:Nat:=302
abbrev qfe:Nat:=339
abbrev qbs:Nat:=340
abbrev qbw:Nat:=341
abbrev qad:Nat:=359
abbrev qab:Nat:=360
abbrev qk:Nat:=361
abbrev qq:Nat:=362
abbrev qm:Nat:=363
abbrev qbx:Nat:=374
abbrev qbt:Nat:=375
abbrev qs:Nat:=391
abbrev qj:Nat:=392
abbrev qr:Nat:=399
abbrev qaw:Nat:=411
abbrev qg:Nat:=414
abbrev qfm:Nat:=420
abbrev qd:Nat:=423
abbrev qag:Nat:=429
abbrev qau:Nat:=430
abbrev qar:Nat:=431
abbrev qat:Nat:=432
abbrev qcf:Nat:=434
abbrev qcv:Nat:=435
abbrev qce:Nat:=436
abbrev qct:Nat:=437
abbrev qcx:Nat:=438
abbrev qc:Nat:=442
abbrev qas:Nat:=452
abbrev qx:Nat:=454
abbrev qdc:Nat:=456
abbrev qda:Nat:=457
abbrev qcu:Nat:=458
abbrev qdd:Nat:=459
abbrev qcs:Nat:=460
abbrev qcw:Nat:=461
abbrev qz:Nat:=484
abbrev qde:Nat:=486
abbrev qcy:Nat:=488
abbrev qo:Nat:=507
abbrev qp:Nat:=508
abbrev qdb:Nat:=525
abbrev qdg:Nat:=526
abbrev qdj:Nat:=533
abbrev qav:Nat:=535
abbrev qe:Nat:=536
abbrev qa:Nat:=537
abbrev qaq:Nat:=538
abbrev qao:Nat:=539
abbrev qap:Nat:=540
end Go.AM.I
