/- Part of the proof. -/
import Derived.Test.YtmpmbfpkpannjaaGreatDoorBm06
set_option linter.unusedVariables false
set_option linter.unusedSimpArgs false
set_option linter.unusedSectionVars false
namespace Go.AM.P
abbrev ws(x y:dc):cq:=i (.bin .add x y)
abbrev rf(n:Nat)(x y:dc):cq:=i (.app n x y)
abbrev dZ:=az.blk
abbrev oX(n:Nat)(x:dc):cq:=i (.box n x)
abbrev oY(x:List aq)(y:List (Nat×Nat×dc)):cq:=i (.build x y)
abbrev dD(f:Nat)(x:List dc):cq:=i (.call f x false)
abbrev dp:=az.cond
abbrev mj(x y:dc):cq:=i (.bin .eql x y)
abbrev EW(n:Nat)(x:dc):cq:=i (.ext n x)
abbrev eI(n:Nat)(x:dc):cq:=i (.fld n x)
abbrev PN(x y:dc):cq:=i (.bin .geq x y)
abbrev Gg(x y:dc):cq:=i (.bin .gtr x y)
abbrev iIa(m n:Nat)(x y:dc):cq:=i (.idxa m n x y)
abbrev iZ(n:Nat)(x y:dc):cq:=i (.idxs n x y)
abbrev vH(x:dc):cq:=i (.len x)
abbrev iLt(x:dc):cq:=i (.lent x)
abbrev iLq(x y:dc):cq:=i (.bin .leq x y)
abbrev lc(n:Nat)(x:dc):cq:=i (.load true n x)
abbrev rp(x y:dc):cq:=i (.bin .lss x y)
abbrev nU(n:Nat)(x:List dc):cq:=i (.mkl n x)
abbrev iMn(n:Nat):cq:=i (.mknil n)
abbrev SP(x:dc):cq:=i (.mov x)
abbrev iMu(x y:dc):cq:=i (.bin .mul x y)
abbrev sj(x y:dc):cq:=i (.bin .neq x y)
abbrev OD(x:dc):cq:=i (.nilck x)
abbrev gM(x y z:dc):cq:=i (.pick x y z)
abbrev aE:=az.reg
abbrev AJ:=az.regd
abbrev aA:=az.seq
abbrev fI(n:Nat)(x y:dc):cq:=i (.store n x y)
abbrev Dv(x y:dc):cq:=i (.bin .sub x y)
abbrev qM(x:dc):cq:=i (ld x)
abbrev xd(x:dc):cq:=i (lt x)
abbrev adH:az:=aE [rp PJ E20] [(22,L0)]
abbrev pK:az:=.exit 0
abbrev VJ:cq:=lc 9 L0
abbrev ajo:cq:=oX 9 (v (.agg [.ai,.ai,.ai,.ai,nf,nf,.ai,.ai,.ai]))
abbrev NR:cq:=fI 9 L2 L1
abbrev anO:List cq:=[iZ 9 PK PJ,VJ,ajo,NR]
abbrev cf:cq:=qM L0
abbrev JU:List (Nat×dc):=[(11,L2)]
abbrev UH:az:=aE [ws PJ V1] [(21,L0)]
abbrev ul:cq:=oX 1 E0
abbrev Cg:List cq:=[ul]
abbrev NI:List (Nat×dc):=[(2,L0),(3,Vf)]
abbrev YW:az:=aE Cg NI
abbrev yQ:cq:=i (.una .not L0)
abbrev JY:az:=aE [] [(3,Vf)]
abbrev xV:az:=aA JY .ret
abbrev rT:cq:=xd E2
abbrev gh:cq:=oX 1 (v (.agg [.ai]))
abbrev lL:cq:=fI 1 L2 L1
abbrev pz:List (Nat×dc):=[(4,L2)]
abbrev HG:cq:=EW 0 L3
abbrev Je:cq:=EW 1 L3
abbrev N3:cq:=oX 3 (v (.agg [.ai,.ai,n0]))
abbrev aaD:List cq:=[iLt E1,i (.mins L0 [v (.int .i64 600)]),i (.slicet E1 none (some L1)),dD 122 [L2],HG,Je,EW 2 L3,N3,fI 3 L7 L4]
abbrev xU:List cq:=[sj E6 V0]
abbrev xI:List (Nat×dc):=[(15,L0)]
abbrev EM:az:=aA (aE [] [(3,Vt)]) .ret
abbrev AF:cq:=xd E4
abbrev Vc:cq:=dD 134 [L0,L1]
abbrev li:cq:=EW 0 L2
abbrev ly:cq:=EW 1 L2
abbrev Oy:cq:=EW 2 L2
abbrev JW:cq:=oX 5 (v (.agg [.ai,.ai,.ai,.ai,n0]))
abbrev UJ:cq:=fI 5 L6 L3
abbrev Fj:List (Nat×dc):=[(16,L0)]
abbrev Vu:cq:=dD 171 [L0,L1]
abbrev yG:cq:=fI 1 L5 L3
abbrev Fe:List (Nat×dc):=[(17,L0)]
abbrev nA:cq:=EW 0 L1
abbrev nh:cq:=EW 1 L1
abbrev US:cq:=dD 85 [L0]
abbrev Z5:cq:=g L0 false (.bin .neq L1 V0)
abbrev AG:cq:=gM L0 Vt L2
abbrev agO:cq:=g L3 false (.mov E9)
abbrev B5:List cq:=[iMn 1]
abbrev xR:List (Nat×dc):=[(11,L0)]
abbrev zl:cq:=eI 0 E7
abbrev gq:cq:=vH L1
abbrev Zu:List cq:=[zl,cf,gq]
abbrev MX:cq:=eI 0 E8
abbrev dT:cq:=qM L2
abbrev sA:cq:=vH L3
abbrev ue:cq:=oX 12 (v (.agg [n0,n0,n0,n0,.ai,nf,.ai,.ai,.ai,.ai,.ai,n0]))
abbrev xB:cq:=g L3 true (ld L4)
abbrev BA:dc:=v (.int .i64 8)
abbrev DD:cq:=gM L3 L6 Vf
abbrev Ir:cq:=g L7 true (ld L8)
abbrev RK:cq:=g qO true (ld BQ)
abbrev GU:List (Nat×dc):=[(3,L0),(4,Vf)]
abbrev P1:az:=aA (aE [] [(4,Vf)]) .ret
abbrev vO:cq:=xd E3
abbrev pZ:List (Nat×dc):=[(5,L2)]
abbrev Bb:cq:=xd E5
abbrev W7:List cq:=[Bb,lc 5 E8,Vu,li,ly,gh,yG]
abbrev jN:dc:=v (.int .i64 (-1))
abbrev QH:dc:=v (.int .i64 2147483647)
abbrev RX:cq:=fI 1 L2 Vn
abbrev Rm:cq:=fI 1 L4 L1
abbrev Eb:cq:=g L3 false (ld L4)
abbrev SE:cq:=g L3 false (.len L5)
abbrev Lh:cq:=eI 0 E9
abbrev fa:dc:=v (.int .i64 2)
abbrev XC:cq:=g L0 true (.bin .eql L1 V0)
abbrev qY:cq:=gM L0 L2 Vf
abbrev P5:cq:=g L0 false (ld L2)
abbrev RY:cq:=g L0 false (.len L3)
abbrev dU:cq:=qM L1
abbrev A8:cq:=vH L2
abbrev Bg:cq:=EW 0 L6
abbrev A9:cq:=EW 1 L6
abbrev M9:cq:=gM L0 Vt L4
abbrev Ea:dc:=v (.int .i64 7)
abbrev pV:List (Nat×dc):=[(9,L0)]
abbrev yB:az:=aE [ws E9 V1] pV
abbrev D5:List (Nat×dc):=[(3,L4)]
abbrev D2:cq:=EW 2 L1
abbrev Rh:cq:=oX 2 (v (.agg [.ai,.ai]))
abbrev fR:dc:=v (.int .i64 3)
abbrev jy:dc:=v (.int .i64 5)
abbrev XU:cq:=g vG true (.fld 1 E1)
abbrev QR:cq:=g vG true (ld qO)
abbrev QT:cq:=g zL true (ld UX)
abbrev yA:az:=aE [rp E8 E7] pV
abbrev yV:az:=dp E9 .skip pK
abbrev LL:cq:=lc 3 L0
abbrev P4:cq:=fI 3 L2 L1
abbrev XY:List cq:=[iZ 3 E6 E8,LL,oX 3 (v (.agg [.str [],.ai,.ai])),P4]
abbrev pr:cq:=eI 0 E3
abbrev Dt:cq:=eI 1 E5
abbrev wP:cq:=qM L4
abbrev K8:cq:=eI 2 E5
abbrev wS:List (Nat×dc):=[(8,L0)]
abbrev xk:az:=aE [ws E8 V1] wS
abbrev It:List (Nat×dc):=[(1,L0),(2,L1)]
abbrev uc:cq:=eI 0 E1
abbrev Zk:cq:=oY [.ai] [(0,1,L2)]
abbrev Sz:cq:=fI 1 L4 L3
abbrev K5:List cq:=[pr,cf,gq]
abbrev Qy:List (Nat×dc):=[(6,L1),(7,L2),(8,V0)]
abbrev Jl:cq:=fI 1 E2 L0
abbrev Ix:List cq:=[N3]
abbrev D1:cq:=EW 0 L0
abbrev LF:cq:=EW 1 L0
abbrev vI:az:=.exit 2
abbrev La:cq:=oX 3 (v (.agg [.str [],n0,nf]))
abbrev HB:cq:=oY [.ai,.ai,.ai,.ai,n0] []
abbrev DJ:cq:=fI 5 E4 L0
abbrev Qf:List cq:=[HB,DJ]
abbrev QU:cq:=fI 1 L7 L6
abbrev Mj:cq:=oX 9 (v (.agg [nf,nf,.ai,.str [],.str [],.ai,.ai,.ai,.ai]))
abbrev aa5:List cq:=[iZ 9 E20 NF,VJ,Mj,NR]
abbrev ug:cq:=i .mkmap
abbrev Xc:List cq:=[rT,lc 9 qN,ug,ug,ug,oY [.ai,nf,nf,.ai,.str [],.str [],.ai,.ai,.ai,.ai,.ai,.ai,.ai,.ai,nf,nf,.ai,.ai,.ai,.nilm,.nilm,.nilm,.ai,.ai,n0] [(0,1,L0),(1,9,L1),(19,1,L2),(20,1,L3),(21,1,L4)],oX 25 L5]
abbrev BG:List (Nat×dc):=[(13,L0)]
abbrev aab:az:=.lift 12 10 1 (.lift 12 11 2 (.lift 12 16 1 (.lift 12 17 2 (.lift 12 18 1 (.lift 12 22 1 (.lift 12 23 1 (aE [dD 141 [sN]] BG)))))))
abbrev EB:dc:=v (.int .i64 10)
abbrev fT:cq:=qM L3
abbrev yt:List (Nat×dc):=[(14,L0)]
abbrev mv:cq:=fI 1 L1 L0
abbrev Hs:cq:=i (.una .not L2)
abbrev xo:dc:=v (.int .i64 6)
abbrev XQ:List cq:=[Lh,cf,OD sN,eI 10 L2,lc 9 L3,nU 9 [L4],rf 9 L1 L5,Lh,QU]
abbrev SM:List cq:=[rT,dD 86 [L0]]
abbrev xu:List (Nat×dc):=[(7,L1)]
abbrev vM:List (Nat×dc):=[(8,L1)]
abbrev Ht:List cq:=[sj E8 V0]
abbrev Ep:cq:=eI 1 E3
abbrev HR:az:=aE [rp PK RL] [(20,L0)]
abbrev A4:cq:=oY [.ai] []
abbrev Hn:List cq:=[A4,fI 1 E4 L0]
abbrev I6:az:=aE [ws PK V1] [(19,L0)]
abbrev abL:List cq:=[ul,oX 5 E1,gh]
abbrev Ip:List (Nat×dc):=[(2,L0),(3,L1),(4,L2),(5,V0)]
abbrev sq:List (Nat×dc):=[(6,L1)]
abbrev M8:az:=aE SM sq
abbrev SG:az:=aA (aE Hn [(5,v (.int .i64 240))]) .ret
abbrev Z3:az:=dp Gv SG .skip
abbrev QL:cq:=oX 1 (v .nilp)
abbrev yN:cq:=fI 1 L3 L2
abbrev Yk:List cq:=[rT,oY [.ai,.ai,.ai,.ai,.ai,nf,nf,.ai,.ai,.ai,.ai,nf] [(0,1,L0)],oX 12 L1,QL,yN]
abbrev D4:List (Nat×dc):=[(7,L3)]
abbrev I9:List (Nat×dc):=[(17,L1),(18,L2),(19,V0)]
abbrev abu:List cq:=[qM E7,eI 3 E3,dU,eI 4 E3,fT,oY [n0,n0,n0,n0,.ai,nf,.ai,.ai,.ai,.ai,.ai,n0] [(0,1,BA),(10,1,L2),(11,1,L4)],dD 118 [L0,L5,Vn]]
abbrev uK:cq:=OD L0
abbrev DW:cq:=eI 10 L1
abbrev uL:cq:=xd L2
abbrev uo:cq:=EW 0 L4
abbrev uN:cq:=EW 1 L4
abbrev YQ:List cq:=[qM E7,uK,DW,uL,dD 183 [L3],uo,uN]
abbrev Hv:cq:=gM L3 Vt L5
abbrev XP:az:=dp NF SG .skip
abbrev PS:cq:=fI 1 E4 L3
abbrev aa4:List cq:=[qM E7,uK,DW,uL,PS]
abbrev DT:List cq:=[ul,SP Vn]
abbrev Nd:List (Nat×dc):=[(1,L0),(2,L1),(3,V0)]
abbrev BH:cq:=xd E1
abbrev abn:List cq:=[BH,dD 77 [L0],nA,nh,D2]
abbrev GS:List cq:=[i (.una .not E6)]
abbrev nQ:List (Nat×dc):=[(7,L0)]
abbrev uj:List cq:=[SP Vn]
abbrev Rv:dc:=v (.int .i64 230)
abbrev jg:cq:=eI 1 L0
abbrev Sj:cq:=i (.call 12 [L4] true)
abbrev lj:List (Nat×dc):=[(6,L0)]
abbrev QW:az:=aE [rp E6 E5] nQ
abbrev RB:az:=dp E7 .skip pK
abbrev SJ:az:=aE [] [(3,E6)]
abbrev yJ:cq:=iZ 1 E0 E3
abbrev XI:List cq:=[yJ,cf,iZ 1 E1 E3,dT,sj L1 L3]
abbrev kP:az:=aE [] [(2,Vf)]
abbrev Dw:az:=aA kP .ret
abbrev MN:az:=dp E8 Dw .skip
abbrev Qq:az:=aE [ws E6 V1] lj
abbrev vQ:cq:=vH E0
abbrev R5:List cq:=[vQ,vH E1,sj L0 L1]
abbrev Nv:az:=aA (aE R5 pz) (dp E4 Dw .skip)
abbrev DR:List cq:=[vQ]
abbrev P6:az:=aE DR [(5,L0),(6,V0)]
abbrev BK:az:=aA (aE [] [(2,Vt)]) .ret
abbrev vJ:List (Nat×dc):=[(10,L0)]
abbrev DK:az:=aE [rp E9 E8] vJ
abbrev Bs:az:=dp oG .skip pK
abbrev Ev:cq:=lc 12 L0
abbrev Eo:cq:=fI 12 L2 L1
abbrev uC:cq:=eI 0 E5
abbrev G0:cq:=mj L1 V1
abbrev yM:cq:=nU 1 [L1]
abbrev QK:az:=aE DT It
abbrev sx:List (Nat×dc):=[(3,L3)]
abbrev iI:List (Nat×dc):=[(2,L0)]
abbrev vV:az:=aE uj iI
abbrev jc:List (Nat×dc):=[(4,L0)]
abbrev Qe:az:=aE B5 jc
abbrev Dp:List cq:=[uc,cf,gq]
abbrev Sx:az:=aE [ws E2 V1] iI
abbrev SI:az:=aE [ws E4 V1] jc
abbrev p5:az:=dp E6 .skip pK
abbrev YM:cq:=i (.slice 1 E0 (some E2) none)
abbrev kx:List (Nat×dc):=[(3,L0)]
abbrev md:List (Nat×dc):=[(1,L0)]
abbrev mu:az:=aE uj md
abbrev wT:List (Nat×dc):=[(5,L1)]
abbrev nH:cq:=lc 2 L0
abbrev gL:cq:=eI 0 E2
abbrev Ih:List (Nat×dc):=[(2,L0),(3,L1),(4,V0)]
abbrev K6:cq:=fI 1 E3 L0
abbrev Ed:List cq:=[A4,K6]
abbrev QI:cq:=g L0 false (.mov E1)
abbrev ZR:cq:=g L0 false (.fld 0 E2)
abbrev ZU:cq:=g L0 false (.bin .geq L1 L4)
abbrev LZ:cq:=gM L0 Vt L5
abbrev BB:List cq:=[gh]
abbrev pq:cq:=oX 1 E1
abbrev HI:List (Nat×dc):=[(2,L0),(3,L1),(4,Vf)]
abbrev XO:List (Nat×dc):=[(2,L0),(3,L1),(4,V0),(5,V0)]
abbrev zj:List (Nat×dc):=[(12,L0)]
abbrev Nu:List cq:=[oY [.ai,.ai] [],fI 2 E3 L0]
abbrev X4:cq:=oY [.str [],n0] [(0,1,v (.str [97])),(1,1,fa)]
abbrev MY:az:=dp E5 .skip pK
abbrev SL:az:=aE [] [(3,V0)]
abbrev Qp:az:=aE [rp E7 E6] wS
abbrev Ld:az:=dp E8 .skip pK
abbrev D7:cq:=eI 0 E4
abbrev Rw:az:=aE [ws E7 V1] nQ
abbrev Qd:az:=aE B5 kx
abbrev Mi:az:=aA (aE [] [(2,E3)]) .ret
abbrev Q7:cq:=i (.mins L1 [E1])
abbrev DI:List (Nat×dc):=[(2,L0),(3,V0),(4,V0)]
abbrev ou:List (Nat×dc):=[(5,L0)]
abbrev Qm:cq:=fI 3 E2 L0
abbrev yr:cq:=iLt E0
abbrev yU:List (Nat×dc):=[(9,L2)]
abbrev Hq:List (Nat×dc):=[(10,L1)]
abbrev lW:cq:=eI 0 L0
abbrev P0:dc:=v (.int .i64 190)
abbrev Im:cq:=eI 3 L0
abbrev sB:cq:=qM L5
abbrev QJ:cq:=dD 4 [E0,V1,L0]
abbrev wV:List (Nat×dc):=[(3,L1)]
abbrev MO:cq:=dD 108 [E0]
abbrev Hi:az:=aA (aE [MO,dD 192 [E0,v (.int .i64 191),L0]] []) pK
abbrev Ee:cq:=dD 63 [E0]
abbrev A7:az:=aE [Ee] []
abbrev sy:cq:=dD 73 [E0,V1,L0]
abbrev XL:List cq:=[dD 128 [E0],i (.mksl 9 [L0]),oY [.ai,.ai,n0] [(0,1,L1),(2,1,jN)],N3,fI 3 L3 L2]
abbrev vL:List (Nat×dc):=[(2,L3)]
abbrev gu:cq:=eI 1 E2
abbrev oV:cq:=eI 2 E2
abbrev Rx:az:=aA (aE [lc 3 E2,fI 3 E1 L0] []) .ret
abbrev Ro:az:=aE Cg [(1,L0),(2,V0)]
abbrev lq:dc:=v (.int .i64 4)
abbrev mi:az:=aE [] [(2,V0)]
abbrev Dx:az:=aA mi .ret
abbrev W9:cq:=g E3 true (.fld 0 E4)
abbrev LJ:cq:=g E3 true (ld L0)
abbrev ku:dc:=v (.str [])
abbrev DE:List cq:=[oX 3 E0]
abbrev R6:cq:=g L3 true (.len L5)
abbrev QD:cq:=gM L3 L7 Vf
abbrev YO:cq:=g L8 true (.len mw)
abbrev zh:cq:=eI 1 E1
abbrev YS:List cq:=[zh,cf,gq]
abbrev EF:cq:=i (.una .not E3)
abbrev aai:cq:=g L0 false (.fld 0 E1)
abbrev Sw:cq:=gM L0 Vt L3
abbrev MR:cq:=ws E5 V1
abbrev sr:az:=aE [MR] ou
abbrev p6:az:=aE [] [(1,V0)]
abbrev DG:az:=aA (aE [] [(1,E2)]) .ret
abbrev LU:cq:=iZ 1 E7 E9
abbrev om:cq:=xd L0
abbrev ct:cq:=OD E0
abbrev rh:List (Nat×dc):=[(2,L2)]
abbrev pn:cq:=eI 10 L0
abbrev G8:cq:=eI 8 L1
abbrev XJ:az:=dp E20 .skip (.exit 4)
abbrev SF:cq:=iZ 2 Kb PK
abbrev GW:cq:=oX 2 (v (.agg [.ai,.str []]))
abbrev pT:cq:=fI 2 L2 L1
abbrev MC:cq:=oX 9 (v (.agg [n0,n0,n0,n0,n0,.int .u64 0,.str [],.str [],.str []]))
abbrev oU:List (Nat×dc):=[(2,L1)]
abbrev Iw:az:=aE [rp EU yo] Fj
abbrev Sq:az:=dp Gv .skip vI
abbrev Ij:cq:=oX 2 (v (.agg [.str [],n0]))
abbrev I0:az:=aE [ws EU V1] xI
abbrev G4:az:=aE [rp qN oG] zj
abbrev Jh:az:=dp sN .skip pK
abbrev xA:cq:=eI 0 L1
abbrev II:cq:=eI 1 L4
abbrev HJ:az:=aE [ws qN V1] xR
abbrev Es:cq:=eI 1 L1
abbrev Rz:List cq:=[ct,jg,Es,dT]
abbrev Ra:List cq:=[ct,jg,eI 2 L1,dT,sA]
abbrev LM:cq:=mj L1 V0
abbrev Sy:cq:=g L0 true (.mov E4)
abbrev yI:cq:=g L0 true (.mov E0)
abbrev RD:cq:=gM L0 L6 Vf
abbrev Bo:List cq:=[vH E1]
abbrev uM:List (Nat×dc):=[(6,L2)]
abbrev Iy:cq:=g L2 false (ld L3)
abbrev ZC:cq:=g L2 false (.len L5)
abbrev Lj:az:=aA (aE [] [(3,V0),(4,v (.int .i64 222))]) .ret
abbrev yu:List (Nat×dc):=[(4,L1)]
abbrev MF:cq:=lc 12 E3
abbrev Hu:cq:=eI 11 L0
abbrev xG:cq:=qM E5
abbrev Sf:cq:=g L0 false (.mov E6)
abbrev LX:cq:=eI 2 L3
abbrev HK:az:=aA (aE [i (.nils false E0)] iI) (dp E2 (aA mu .ret) .skip)
abbrev uE:List (Nat×dc):=[(1,L1)]
abbrev HY:az:=aE [rp sN qN] BG
abbrev Du:cq:=eI 9 E2
abbrev IB:az:=aE [ws sN V1] zj
abbrev Bm:cq:=eI 8 E2
abbrev zr:cq:=oX 12 E0
abbrev LI:List (Nat×dc):=[(2,L0),(3,L1)]
abbrev Be:cq:=PN L1 V0
abbrev oO:List (Nat×dc):=[(7,L2)]
abbrev LP:cq:=eI 4 E2
abbrev EE:cq:=eI 7 E2
abbrev Bh:cq:=eI 6 E2
abbrev Zt:List cq:=[Bm,cf,gq]
abbrev Yn:List cq:=[Du,cf,gq]
abbrev Mf:az:=aE [rp oG E9] xR
abbrev Nh:az:=dp qN .skip pK
abbrev Su:List (Nat×dc):=[(5,L2),(4,oG)]
abbrev PY:cq:=i (.callv E2 [L0,L1])
abbrev Q9:az:=dp sN xV .skip
abbrev Lv:az:=aE [ws oG V1] vJ
abbrev Qk:az:=aA (aE R5 oO) (dp E7 xV .skip)
abbrev QN:az:=aE DR [(8,E0),(9,L0),(10,V0)]
abbrev Iz:cq:=g L4 true (ld L5)
abbrev PW:cq:=g L4 true (ld L7)
abbrev Na:cq:=gM L4 L9 Vf
abbrev Rj:cq:=g L4 true (.fld 1 E2)
abbrev aas:cq:=g L4 true (.fld 1 E3)
abbrev El:cq:=oX 4 (v (.agg [n0,n0,.str [],.int .u64 0]))
abbrev Er:List (Nat×dc):=[(1,L2)]
abbrev Lq:cq:=iZ 4 L2 V0
abbrev aaM:List cq:=[dD 18 [E0,V1,v (.str [68,73,83,84,73,78,67,84])],oY [nf,nf,.ai,.str [],.str [],.ai,.ai,.ai,.ai] [(0,1,L0)],Mj,NR]
abbrev M7:dc:=v (.str [42])
abbrev wU:cq:=i (.una .not L1)
abbrev wG:List (Nat×dc):=[(3,L2)]
abbrev zw:cq:=fI 2 L1 L0
abbrev ZF:List cq:=[dD 131 [E0],eI 3 E2,zw]
abbrev X7:List cq:=[dD 132 [E0],eI 5 E2,mv]
abbrev DL:cq:=dD 107 [E0]
abbrev Sd:cq:=g L3 false (.mov E0)
abbrev YK:cq:=g mw false (.mov E0)
abbrev Yb:cq:=g L1 false (.mov E2)
abbrev ZS:cq:=g L1 false (.mov E0)
abbrev Y7:cq:=oY [n0,n0,.str [],.int .u64 0] []
abbrev SH:az:=aA (aE [nU 1 [v (.str [44])],dD 4 [E0,jy,L0]] wT) MY
abbrev DN:cq:=i (.callv E2 [])
abbrev Mn:az:=aE uj kx
abbrev HO:az:=aA (aE [] [(3,E4)]) .ret
abbrev Hc:cq:=dD 73 [E0,fa,Vn]
abbrev BJ:cq:=i (.fldv false 1 2 L0)
abbrev Z2:az:=dp E3 (aE [dD 193 [E0],gu,mv] []) (aE [Hc,BJ,gL,lL] [])
abbrev Xy:cq:=i (.fldv false 1 3 L0)
abbrev BF:List (Nat×dc):=[(1,L0),(2,Vf)]
abbrev LR:cq:=sj L1 V0
abbrev Mw:az:=aE [rp s9 sN] yt
abbrev QB:az:=dp yo .skip vI
abbrev Nk:cq:=g L2 true (.fld 1 E1)
abbrev Yg:cq:=g nG false (ld vG)
abbrev Mo:az:=aE [ws s9 V1] BG
abbrev PQ:cq:=gM E3 L3 Vf
abbrev zu:cq:=g L2 true (ld L3)
abbrev Me:cq:=eI 2 E1
abbrev ZW:List cq:=[Me,cf,gq]
abbrev yX:cq:=PN L0 V0
abbrev aa9:cq:=g L0 false (.callv L1 [L2])
abbrev aaK:cq:=g L0 false (.call 11 [L3] false)
abbrev Ye:cq:=g L0 false (.una .not L4)
abbrev XA:az:=dp oG Dw .skip
abbrev Sl:az:=aE DR [(6,E0),(7,L0),(8,V0)]
abbrev SK:List cq:=[uc,cf]
abbrev Ql:az:=aA (aE SK oU) .ret
abbrev nR:az:=aE [] [(1,Vf)]
abbrev sw:List (Nat×dc):=[(1,L3)]
abbrev RM:cq:=gM L1 L4 Vf
abbrev Qi:az:=aA nR .ret
abbrev rF:cq:=g L0 false (.mov E0)
abbrev Cu:dc:=v (.int .i64 16)
abbrev GA:az:=aE [oX 9 E0] BF
abbrev xD:cq:=oX 2 (v (.agg [.str [],.str []]))
abbrev C2:cq:=lc 4 L0
abbrev Lx:cq:=oX 4 (v (.agg [nf,.str [],.str [],.ai]))
abbrev MU:cq:=fI 4 L2 L1
abbrev UB:cq:=g E3 true (.mkl 1 [L1])
abbrev TV:cq:=g E3 true (.call 114 [L2] false)
abbrev Nr:cq:=gM L4 L7 Vf
abbrev Tm:cq:=g L4 true (.call 68 [L6] false)
abbrev Mm:cq:=g L6 false (ld L7)
abbrev vC:cq:=eI 3 E1
abbrev Lo:List (Nat×dc):=[(13,L1),(14,L2),(15,V0)]
abbrev Cp:cq:=eI 6 E1
abbrev CO:cq:=eI 7 E1
abbrev zW:cq:=eI 24 L0
abbrev zK:az:=aA p6 .ret
abbrev Gc:cq:=eI 6 L1
abbrev B9:cq:=eI 0 L2
abbrev zB:cq:=vH L4
abbrev zU:List (Nat×dc):=[(2,L6)]
abbrev GG:cq:=eI 10 L7
abbrev zO:cq:=lc 2 E2
abbrev KZ:az:=aA (aE [] [(1,E4)]) .ret
abbrev Um:List cq:=[ct,zW,fI 1 L1 lq]
abbrev T2:List cq:=[ct,jg,xA,dT,ct,II,lc 9 L5,dD 151 [L6],ct,eI 10 L8,eI 5 L9,fI 1 mw L3,ct,eI 10 vG,eI 4 qO,fI 1 BQ L7]
abbrev T9:az:=dp E8 (aA (aE [] [(1,v (.int .i64 227))]) .ret) .skip
abbrev GO:List cq:=[ct,eI 22 L0,dU,A8]
abbrev xq:cq:=eI 7 L1
abbrev F6:az:=dp s9 .skip pK
abbrev Tc:cq:=g L0 false (.mov E7)
abbrev Gw:cq:=dD 16 [L0]
abbrev pb:az:=aE [rp E5 E4] lj
abbrev sV:az:=aE [] [(3,E5)]
abbrev sW:az:=dp E7 Mi .skip
abbrev o8:az:=aE DR [(4,L0),(5,V0)]
abbrev o9:az:=aA (aE [] [(2,jN)]) .ret
abbrev TI:cq:=g L2 false (.mov E2)
abbrev TO:cq:=g L2 false (.bin .neq L3 V0)
abbrev Mc:cq:=gM L2 Vt L4
abbrev F1:cq:=fI 1 L7 L5
abbrev Ud:cq:=g L2 false (.mov E5)
abbrev GC:cq:=eI 1 L7
abbrev Cb:cq:=eI 4 E1
abbrev Cn:cq:=fI 1 L8 L6
abbrev Uc:cq:=g L4 true (.call 280 [L6,L8] false)
abbrev Co:cq:=oX 2 (v (.agg [n0,.ai]))
abbrev TZ:List cq:=[iZ 1 E8 oG,om,gh,lL]
abbrev Ng:az:=aA (aE [zO,fI 2 E1 L0] []) .ret
abbrev Uk:dc:=v (.str [76,69,70,84])
abbrev Tv:dc:=v (.str [74,79,73,78])
abbrev Ae:List cq:=[oX 2 E0]
abbrev wH:cq:=i (.callv E1 [L1])
abbrev zH:cq:=gM L2 L5 Vf
abbrev LB:List cq:=[iZ 2 qN s9,nH,Ij,pT]
abbrev T0:List cq:=[ct,eI 20 L0,dU,zl,fT,ct,eI 20 L5,qM L6,zl,qM L8,i (.lookk [] .ai false L7 L9),nU 1 [E8],rf 1 mw nG,i (.mputk [] L2 L4 vG)]
abbrev UI:List cq:=[ct,eI 21 L0,dU,zl,fT,oY [.str [],.str []] [(0,1,E6),(1,1,L4)],i (.mputk [2,2] L2 L5 E8)]
abbrev Uz:List cq:=[ct,eI 22 L0,dU,eI 1 E7,fT,nU 1 [L4],rf 1 L2 L5,ct,eI 22 L7,Cn]
abbrev C7:List cq:=[oX 2 E1]
abbrev Gf:cq:=EW 0 L5
abbrev GI:cq:=EW 1 L5
abbrev TD:List cq:=[ct,lW,xd L1,gL,fT,dD 144 [L2,L4],Gf,GI]
abbrev Vi:List cq:=[ct,eI 19 L0,dU,i (.mputk [] L2 E6 Vt)]
abbrev UO:List cq:=[ct,pn,xA,dT,nU 1 [E4],rf 1 L3 L4,ct,eI 10 L6,eI 0 L7,fI 1 L8 L5]
abbrev Lk:List cq:=[dD 81 [],oX 1 (v .nilm),mv]
abbrev Gx:List cq:=[oX 8 E0,gh]
abbrev GE:cq:=fI 1 E2 L2
abbrev Vw:List cq:=[ul,pq,gh]
abbrev Uo:List (Nat×dc):=[(3,L0),(4,L1),(5,L2),(6,V0),(7,V0)]
abbrev CZ:cq:=oX 1 (v .nilf)
abbrev TL:List cq:=[i (.mkfn 103 [] [E3]),CZ,mv]
abbrev TN:List cq:=[qM qN,D7,dU,A8,Dv L3 V1,i (.callv L0 [L4,E2]),Gf,GI,gh,Cn]
abbrev UV:az:=dp EU (aA (aE [A4,fI 1 E5 L0] [(6,V0),(7,s9)]) .ret) .skip
abbrev Ty:List cq:=[xd sN,qM oG,i (.callv L1 [E2]),dD 41 [L0,L2],HG,Je]
abbrev F8:cq:=lc 8 L0
abbrev MQ:cq:=oX 8 (v (.agg [n0,n0,n0,n0,n0,n0,.int .u64 0,.str []]))
abbrev MW:cq:=fI 8 L2 L1
abbrev Ua:List cq:=[iZ 8 E6 E8,F8,MQ,MW]
abbrev Gs:cq:=mj L1 fa
abbrev MJ:az:=aE [rp yo s9] xI
abbrev Nj:az:=dp EU .skip pK
abbrev MZ:az:=aE [ws yo V1] yt
abbrev Ut:List cq:=[gL,cf,gq]
abbrev FW:List cq:=[mj E6 V0]
abbrev Mv:cq:=gM L2 Vt L5
abbrev FZ:dc:=v (.int .i64 23)
abbrev T8:cq:=g L0 false (.mov L2)
abbrev Ar:dc:=v (.int .i64 12)
abbrev UL:az:=dp E20 .skip vI
abbrev fM:cq:=qM E1
abbrev va:az:=aE [oX 12 E1,SP Vn] HI
abbrev xn:cq:=iZ 1 L2 L4
abbrev T6:List cq:=[ct,jg,dU,gu,fT,xn,sB]
abbrev K4:az:=aE SK wV
abbrev Lu:az:=aE [mj E3 V1] jc
abbrev Cr:cq:=fI 1 L0 V0
abbrev No:az:=aE [mj E3 fa] ou
abbrev Lz:cq:=fI 1 L0 Vn
abbrev Mx:cq:=g L3 false (.bin .eql L4 V0)
abbrev SV:cq:=g L6 false (.mov E0)
abbrev Mb:dc:=v (.int .u8 39)
abbrev Av:cq:=fI 4 E2 L0
abbrev gl2:aq:=.agg [.str [60,62],.str [60,61],.str [62,61],.str [40],.str [41],.str [44],.str [46],.str [42],.str [43],.str [45],.str [47],.str [61],.str [60],.str [62]]
abbrev Ub:dc:=v (.cptr false gl2 0)
abbrev U1:cq:=iIa 14 1 Ub s9
abbrev Tj:cq:=dD 51 [E0,V1,L0,L2]
abbrev CV:cq:=i (.callv L0 [L1])
abbrev Li:dc:=v (.int .i64 11)
abbrev Nw:az:=aE Ae NI
abbrev TE:cq:=i (.look (.int .i64 0) false L0 L2)
abbrev Gi:cq:=fI 1 E8 L0
abbrev Ck:cq:=nU 1 [L0]
abbrev Tb:List cq:=[gL,cf,iZ 9 L1 E0,lc 9 L2,MC,fI 9 L4 L3]
abbrev wJ:cq:=eI 0 oG
abbrev Tp:az:=dp E23 (aA (aE [qM E3,eI 3 oG,lc 4 L1,oY [n0,n0,n0,n0,n0,n0,.int .u64 0,.str []] [(0,1,V1),(4,4,L2)],i (.callv L0 [L3]),uo,uN,fI 1 E8 L5] [(9,L6)]) .ret) .skip
abbrev B2:List cq:=[A4,Gi]
abbrev TP:az:=dp E24 (aA (aE [qM E4,eI 7 oG,dU,eI 8 oG,fT,oY [.str [],.str []] [(0,1,L2),(1,1,L4)],dD 94 [L0,L5],Bg,A9] [(11,L7),(12,L8)]) (aA (aA (aE [mj sN V0,g L0 true (.mov E1),gM L0 L1 Vf] [(25,L2)]) (dp E25 (aA (aE [qM E4,uK,DW,eI 6 L2,fT,dD 198 [L4,qN]] [(11,L5)]) (aA (aE [rp qN V0] [(26,L0)]) (dp E26 (aE [] [(12,v (.int .i64 225))]) .skip))) .skip)) (aA (aA (aE [sj sN V0] [(27,L0)]) (dp E27 (aA (aE B2 [(9,sN)]) .ret) .skip)) (aA (aE [qM E3,oY [n0,n0,n0,n0,n0,n0,.int .u64 0,.str []] [(0,1,fa),(3,1,qN)],CV,li,ly,fI 1 E8 L3] [(9,L4)]) .ret)))) .skip
abbrev Tt:List cq:=[xG,wJ,dU,TE]
abbrev Mk:cq:=g L0 true (.una .not L1)
abbrev GB:cq:=iZ 1 yo V0
abbrev Tl:List cq:=[wJ,cf,GB,uL,dD 148 [L1,L3],uo,uN,gh,F1]
abbrev T5:az:=dp E37 (aE [wJ,cf,GB,uL,iZ 1 yo V1,xd L4,dD 167 [L1,L3,L5],Bg,A9,fI 1 PJ L7] [(22,L8)]) .skip
abbrev Va:az:=dp E38 (AJ [xd PJ,qM E7,i (.callv L1 [E1]),dD 41 [L0,L2],HG,Je] [(22,L5)] [(0,3)]) .skip
abbrev UR:cq:=g L2 false (.fld 0 E2)
abbrev SN:az:=dp E9 (aA (aE [gu,om,ct,eI 22 L2,fT,dD 41 [L1,L4],Gf,GI] [(6,L6),(7,L7)]) (aA (aA (aE [sj E7 V0,ZR,g L0 false (ld L1),g L0 false (.bin .eql L2 fR),g L0 false (.mov L3),g L4 true (.mov E6),g L4 true (.bin .neq L5 fa),g L0 false (.pick L4 L6 Vf),g L0 false (.mov L7),g L8 true (.mov E6),g L8 true (.bin .neq L9 V0),g L0 false (.pick L8 mw Vf),gM L0 Vt nG] [(10,vG)]) (dp oG (aA (aE [] [(3,V0),(4,v (.int .i64 201))]) .ret) .skip)) (aA (aE [gL,cf,mj L1 lq,UR,Iy,g L2 false (.bin .eql L4 jy),Mv] [(11,L6)]) (dp qN (aE [] [(5,E6)]) .skip)))) .skip
abbrev SY:List cq:=[ct,pn,xq,dT,i (.mkfn 275 [] [E2]),dD 276 [L3,L4]]
abbrev Vm:az:=dp sN (aA (aE [ct,pn,xq,dT,sA] [(8,L4)]) (AJ [ct,pn,xq,dT,zO,nU 2 [L4],rf 2 L3 L5,ct,eI 23 L7,qM L8,nU 1 [E5],rf 1 L9 mw,ct,eI 10 vG,eI 7 qO,fI 1 BQ L6,ct,eI 23 AB,fI 1 zL nG] [] [(7,0),(8,0),(9,0)])) .skip
abbrev T3:az:=dp s9 (aA (aE [] [(3,V0),(4,v (.int .i64 228))]) .ret) .skip
abbrev SZ:List cq:=[ct,pn,Gc,dT,sA,ws L4 E8]
abbrev Vb:cq:=oY [n0,n0,n0,n0,n0,n0,.int .u64 0,.str []] [(0,1,E0)]
abbrev Tz:az:=dp NF .skip vI
abbrev Ue:cq:=g L0 false (.mov E8)
abbrev UK:cq:=g L0 false (.mov E5)
abbrev MD:cq:=g L0 false (.len L2)
abbrev Tn:cq:=g L0 false (.bin .gtr L1 L3)
abbrev Ve:cq:=g L5 false (.una .not L7)
abbrev Lg:az:=aA (aE uj NI) .ret
abbrev Uu:az:=dp RL Lg .skip
abbrev Uw:List cq:=[oY [n0,n0] [(0,1,jN),(1,1,jN)],oX 2 (v (.agg [n0,n0])),zw]
abbrev UW:cq:=g L0 false (.bin .eql L1 fa)
abbrev ME:az:=aA (aE [] [(1,V1)]) .ret
abbrev Ux:az:=dp E4 (aA (aE [] [(1,fa)]) .ret) .skip
abbrev U8:cq:=g L0 true (.pick L3 Vt L5)
abbrev Ur:List cq:=[iZ 9 s9 EU,VJ,MC,NR]
abbrev Gz:az:=aA p5 (aA (dZ 1 (aA sV (aA (aE [iZ 2 E0 E3,nH,wH] oO) sW))) sr)
abbrev GD:cq:=oY [n0,n0,.int .u64 0,.str []] []
abbrev UE:cq:=i (.eqa false [0,0,0,2] L1 L2)
abbrev U9:cq:=g L3 true (.fld 3 E1)
abbrev TM:dc:=v (.str [78,85,76,76])
abbrev Uq:cq:=dD 51 [E0,jy,L0,L3]
abbrev ML:dc:=v (.str [67,79,85,78,84])
abbrev Vk:cq:=dD 73 [E0,jy,L0]
abbrev LY:az:=aE [nU 1 [v (.str [41])],Vk] []
abbrev gl0:aq:=.agg [.str [98,111,111,108],.int .i64 1,.str [105,110,116],.int .i64 2,.str [116,101,120,116],.int .i64 3]
abbrev gl1:aq:=.agg [.str [83,69,76,69,67,84],.str [68,73,83,84,73,78,67,84],.str [70,82,79,77],.str [76,69,70,84],.str [74,79,73,78],.str [79,78],.str [87,72,69,82,69],.str [71,82,79,85,80],.str [66,89],.str [72,65,86,73,78,71],.str [85,78,73,79,78],.str [65,76,76],.str [79,82,68,69,82],.str [76,73,77,73,84],.str [65,83,67],.str [68,69,83,67],.str [65,83],.str [65,78,68],.str [79,82],.str [78,79,84],.str [73,83],.str [78,85,76,76],.str [84,82,85,69],.str [70,65,76,83,69],.str [67,79,85,78,84],.str [83,85,77],.str [77,73,78],.str [77,65,88]]
def adO:az:=aA adH (aA (dp NF .skip pK) (aA (dZ 1 (aA (aE anO [(12,L2)]) (aE [eI 0 sN,cf,rf 1 qN L1] JU))) UH))
def amy:az:=aA YW (aA (aA (aE [dD 162 [],yQ] [(14,L1)]) (dp yo xV .skip)) (aA (aE [rT,dD 222 [L0],gh,lL] pz) (aA (aE aaD [(5,L7),(6,L6)]) (aA (aA (aE xU xI) (dp EU EM .skip)) (aA (aE [AF,lc 3 E5,Vc,li,ly,Oy,JW,UJ] [(7,L6),(6,L5)]) (aA (aA (aE xU Fj) (dp Gv EM .skip)) (aA (aE [AF,lc 5 E7,Vu,li,ly,gh,yG] [(8,L5),(6,L4)]) (aA (aA (aE xU Fe) (dp Kb xV .skip)) (aA (aE [xd E8,dD 183 [L0],nA,nh] [(9,L2),(6,L3)]) (aA (aA (aE [xd E8,US,nA,nh] [(10,L3)]) (aA (aE [sj E6 V0,g L0 false (.mov oG),Z5,AG,agO,g L3 false (.fld 2 E7),g L3 false (ld L5),g L3 false (.call 184 [L4,L6] false),g L3 false (.una .not L7),gM L3 Vt L8] [(18,L9)]) (dp RL xV .skip))) (aA (aE B5 xR) (aA (aA (aE Zu [(19,L1),(20,L2),(21,V0)]) (dZ 0 (.loop [12,22] adO))) (aA (aE [dD 43 [qN]] []) (aA (aE [MX,cf,MX,dT,sA,Dv L4 V1,iZ 12 L1 L5,lc 12 L6,ue,fI 12 L8 L7] [(13,L8)]) (aA (aE [xd E8,dD 398 [L0],dD 48 [qN],dD 184 [L1,L2],g L3 true (.fld 0 s9),xB,g L3 true (.bin .eql L5 BA),DD,g L7 true (.fld 11 s9),Ir,g L7 true (.fld 4 E7),g L7 true (ld mw),g L7 true (.bin .eql L9 nG),gM L7 vG Vf,g qO true (.fld 10 s9),RK,g qO true (.fld 3 E7),g qO true (ld AB),g qO true (.call 399 [FP,zL] false),gM qO UX Vf] [(3,PO)]) .ret)))))))))))))))
def au0:br:=⟨23,2,.pure,[.env 3],amy⟩
def To:az:=aA (aE Cg GU) (aA (aA (aE [dD 162 [],yQ] [(15,L1)]) (dp EU P1 .skip)) (aA (aE [vO,dD 222 [L0],gh,lL] pZ) (aA (aE aaD [(6,L7),(7,L6)]) (aA (aA (aE [sj E7 V0] Fj) (dp Gv (aA (aE [] [(4,Vt)]) .ret) .skip)) (aA (aE [Bb,lc 3 E6,Vc,li,ly,Oy,JW,UJ] [(8,L6),(7,L5)]) (aA (aA (aE [sj E7 V0] Fe) (dp Kb (aA (aE [] [(4,Vt)]) .ret) .skip)) (aA (aE W7 [(9,L5),(7,L4)]) (aA (aE [i (.maxs E2 [jN]),i (.bin .rem L0 QH),eI 3 E8,RX,eI 4 E8,Rm] []) (aA (aE W7 [(10,L5),(11,L4)]) (aA (aA (aE [sj E7 V0,g L0 false (.mov qN),Z5,AG,g L3 false (.fld 0 E9),Eb,SE,g L3 false (.fld 0 oG),g L3 false (ld L7),g L3 false (.len L8),g L3 false (.bin .neq L6 L9),gM L3 Vt mw] [(18,nG)]) (dp RL P1 .skip)) (aA (aE [Lh,cf,gq] [(12,L2)]) (aA (aA (aE [rp sN fa] [(19,L0)]) (dp PK P1 .skip)) (aA (aE [xd E9,Dv sN fa,dD 290 [L0,L1],li,ly,gh,yG] [(13,L5),(7,L4)]) (aA (aE [xd oG,Dv sN fa,dD 290 [L0,L1],li,ly,gh,yG] [(14,L5),(11,L4)]) (aA (aE [mj E7 V0,g L0 true (.mov qN),XC,qY,g L3 true (lt s9),g L3 true (lt yo),g L3 true (.call 401 [L4,L5] false),DD,g L7 true (.fld 0 oG),Ir,g L7 true (.mov sN),g L7 true (.bin .sub mw V1),g L7 true (.idxs 12 L9 nG),g L7 true (.fld 11 vG),g L7 true (ld qO),g L7 true (.fld 4 E8),g L7 true (ld FP),g L7 true (.bin .eql BQ AB),gM L7 zL Vf] [(4,UX)]) .ret)))))))))))))))
def ar6:br:=⟨20,3,.pure,[.env 4],To⟩
def ab9:az:=aA adH (aA (dp NF .skip pK) (aA (dZ 1 (aA (aE anO [(11,L2),(10,PJ)]) (aA (aE [AF,lc 9 qN,dD 219 [L0,L1],li,ly,gh,yG] [(12,L5),(13,L4)]) (aA (aA (aE [sj s9 V0,g L0 false (.mov E9),g L0 false (.fld 0 sN),P5,RY,g L0 false (.bin .add L1 L4),g L0 false (.fld 0 E8),g L0 false (ld L6),g L0 false (.len L7),g L0 false (.bin .gtr L5 L8),gM L0 Vt L9] [(23,mw)]) (dp E23 xV .skip)) (aA (aE [xd E8,eI 0 sN,dU,A8,ws E9 L3,Dv L4 V1,dD 290 [L0,L5],Bg,A9,gh,fI 1 L9 L7] [(14,L9),(13,L8)]) (aA (aA (aE [sj s9 V0,g L0 false (lt yo),g L0 false (lt sN),g L0 false (.call 401 [L1,L2] false),g L0 false (.una .not L3),M9] [(24,L5)]) (dp E24 xV .skip)) (aA (aE [eI 0 sN,cf,gq,ws E9 L2] [(9,L3)]) (aA (aE [Gg oG V0] [(25,L0)]) (dp E25 (aA (aA (aE [MX,cf,gq,PN E9 L2,g L3 false (.fld 0 E8),Eb,agO,g L3 false (.idxs 12 L5 L6),g L3 false (.fld 0 L7),g L3 false (ld L8),g L3 false (.bin .neq L9 Ea),gM L3 Vt mw] [(26,nG)]) (dp E26 xV .skip)) yB) .skip))))))))) UH))
def anV:az:=aA YW (aA (aA (aE [dD 162 [],yQ] [(15,L1)]) (dp EU xV .skip)) (aA (aE [rT,dD 222 [L0],gh,lL] pz) (aA (aE aaD [(5,L7),(6,L6)]) (aA (aA (aE xU Fj) (dp Gv EM .skip)) (aA (aE [AF,lc 3 E5,Vc,li,ly,Oy,JW,UJ] [(7,L6),(6,L5)]) (aA (aA (aE xU Fe) (dp Kb EM .skip)) (aA (aE [AF,lc 5 E7,Vu,li,ly,gh,yG] [(8,L5),(6,L4)]) (aA (aA (aE xU [(18,L0)]) (dp RL xV .skip)) (aA (aE [] [(9,V0)]) (aA (aA (aE Zu [(19,L1),(20,L2),(21,V0)]) (dZ 0 (.loop [3,10,11,12,13,14,22,23,24,25,26] ab9))) (aA (aE [MX,cf,gq,Dv L2 V1,mj E9 L3] D5) .ret)))))))))))
def auZ:br:=⟨27,2,.pure,[.env 3],anV⟩
def akD:az:=aA (aE [] [(0,Vf)]) (aA (aE [dD 120 [],dD 121 [L0,v (.str [83,69,76,69,67,84,32,98,32,70,82,79,77,32,116,32,87,72,69,82,69,32,97,32,61,32,49])],nA,nh,D2,Rh,fI 2 L5 L2] [(1,L5),(2,L3),(3,L4)]) (aA (aE [dD 120 [],dD 121 [L0,v (.str [83,69,76,69,67,84,32,122,32,70,82,79,77,32,116])],nA,nh,D2,Rh,fI 2 L5 L2] [(4,L4)]) (aA (aE [mj E3 V0,g L0 true (.mov E2),XC,qY,g L3 true (.mov E4),g L3 true (.bin .eql L4 (v (.int .i64 222))),gM L3 L5 Vf,g L6 true (.fld 0 E1),g L6 true (lt L7),g L6 true (.call 185 [L8] false),g L6 true (.mkl 1 [V1,fR,jy,BA]),g L6 true (.call 186 [L9,mw] false),gM L6 nG Vf,XU,QR,g vG true (.len BQ),g vG true (.bin .eql FP V1),gM vG AB Vf,g zL true (.fld 1 E1),QT,g zL true (.idxs 1 PO V0),g zL true (ld Y1),g zL true (.bin .eql L21 (v (.str [98]))),gM zL PH Vf] [(0,L23)]) .ret)))
def au1:br:=⟨5,0,.pure,[.env 0],akD⟩
def CN:az:=aA yA (aA yV (aA (dZ 1 (aA (aE XY [(5,L2),(4,E8)]) (AJ [pr,cf,pr,dT,Dt,wP,dD 224 [L5,jy],K8,qM L7,dD 225 [L8,jy],iZ 3 L1 E4,eI 1 mw,fI 1 nG L6,iZ 3 L3 E4,eI 2 qO,fI 1 BQ L9] [] [(2,13),(3,13)]))) xk))
def ag2:az:=aA (aE [ul,gh] It) (aA (aE [uc,cf,dD 226 [L1,jy],Zk,gh,Sz] D5) (aA (aA (aE K5 Qy) (dZ 0 (.loop [4,5,9] CN))) (aA (aE [vO,Jl] []) .ret)))
def auR:br:=⟨10,1,.pure,[.cell true 1 2],ag2⟩
def aaG:az:=aA (aE Ix [(1,L0),(2,V0),(3,V0)]) (aA (aE [dD 123 [E0,v (.fn 127 [] [])],D1,LF,EW 2 L0,fI 3 E1 L1] [(2,L2),(3,L3)]) .ret)
def as6:br:=⟨4,1,.pure,[.cell true 3 1,.env 2,.env 3],aaG⟩
def Dy:az:=aA (aE [rp E29 E28] [(30,L0)]) (aA (dp E30 .skip vI) (aA (dZ 3 (aA (aE [iZ 3 E27 E29,LL,La,P4] [(15,L2)]) (aA (aE [lc 3 EU,eI 1 E9,dU,dD 189 [L0,L2],HG,Je] [(16,L4),(17,L5)]) (aA (aA (aE [sj Kb V0] [(31,L0)]) (dp E31 (aA (aE Qf [(5,v (.int .i64 90)),(6,Kb)]) .ret) .skip)) (aE [eI 3 E9,cf,eI 2 EU,dT,oY [n0,nf] [(0,1,Gv),(1,1,L3)],nU 2 [L4],rf 2 L1 L5,eI 3 E9,QU] []))))) (aE [ws E29 V1] [(29,L0)])))
def yF:az:=aA (aE [rp NF PJ] [(23,L0)]) (aA (dp E23 .skip pK) (aA (dZ 1 (aA (aE aa5 [(11,L2),(10,NF)]) (aA (aE Xc [(12,L6)]) (aA (aA aab (aA (aE [sj s9 V0] [(24,L0)]) (dp E24 (aA (AJ [HB,iMu EB oG,OD sN,eI 24 L2,fT,ws L1 L4,DJ] [(5,L5),(6,s9)] [(2,7),(3,7),(4,7)]) .ret) .skip))) (aA (aA (aE [dD 169 [sN]] yt) (aA (aE [mj oG V0] [(25,L0)]) (dp E25 (aE [dD 170 [sN],eI 1 E9,mv,eI 2 E9,fI 1 L3 yo] []) (aA (aE [eI 2 E9,cf,dD 190 [L1,yo],Hs] [(26,L3)]) (dp E26 (aA (aE [HB,iMu EB oG,ws L1 xo,DJ] [(5,L2),(6,v (.int .i64 229))]) .ret) .skip))))) (aE XQ [])))))) (aE [ws NF V1] [(22,L0)])))
def WK:az:=aA (aE [ul,oX 3 E1,JW] [(2,L0),(3,L1),(4,L2),(5,V0),(6,V0)]) (aA (aA (aE SM xu) (aA (aE [sj E7 V0] [(18,L0)]) (dp RL (aA (aE Qf [(5,V0),(6,E7)]) .ret) .skip))) (aA (aA (aE [lc 3 E3,dD 135 [L0]] vM) (aA (aE Ht [(19,L0)]) (dp PK (aA (aE Qf [(5,V0),(6,E8)]) .ret) .skip))) (aA (aE [eI 2 E3,cf,oY [.ai,.ai,.ai,.ai,n0] [(4,1,L1)],JW,fI 5 L3 L2] [(9,L3)]) (aA (aA (.lift 9 0 9 (aE K5 [(20,L1),(21,L2),(22,V0)])) (dZ 0 (.loop [9999,5,6,10,11,12,13,14,23,24,25,26] yF))) (aA (aA (.lift 9 3 2 (aE [Ep,cf,gq] [(27,L1),(28,L2),(29,V0)])) (dZ 2 (.loop [9999,5,6,15,16,17,30,31] Dy))) (aA (aE [lc 5 E9,DJ] [(5,V0),(6,V0)]) .ret))))))
def arL:br:=⟨32,2,.pure,[.cell true 5 4,.env 5,.env 6],WK⟩
def mY:az:=aA HR (aA (dp E20 .skip pK) (aA (dZ 1 (aA (aE [iZ 9 Kb PK,VJ,ajo,NR] [(10,L2),(9,PK)]) (aA (aE [rT,lc 9 oG,dD 172 [L0,L1],li,ly,gh,yG] [(11,L5),(12,L4)]) (aA (aA (aE [sj sN V0] [(21,L0)]) (dp PJ (aA (aE Hn [(5,sN)]) .ret) .skip)) (aE [xd qN,i (.callv E8 [E9,L0])] []))))) I6))
def afW:az:=aA (aE abL Ip) (aA (aA M8 (aA (aE xU xI) (dp EU (aA (aE Hn [(5,E6)]) .ret) .skip))) (aA (aA (aE [pr,cf,gq,rp L2 V1,g L3 false (.fld 0 E3),Eb,SE,g L3 false (.bin .gtr L6 fR),gM L3 Vt L7] [(16,L8)]) Z3) (aA (aE Yk D4) (aA (aE [i (.mkfn 182 [] [E7])] wS) (aA (aA (aE K5 I9) (dZ 0 (.loop [5,9,10,11,12,20,21] mY))) (aA (aE abu []) (aA (aE YQ [(13,L5),(14,L6)]) (aA (aA (aE [qM E7,uK,eI 11 L1,dT,g L3 false (.mov yo),g L3 false (.bin .neq L4 V0),Hv,g L6 false (.mov s9),g L6 false (.len L7),g L6 false (.fld 1 E3),g L6 false (ld L9),g L6 false (.len mw),g L6 false (.bin .neq L8 nG),gM L6 Vt vG,g qO false (.mov s9),g qO false (.fld 2 E3),g qO false (ld FP),g qO false (.call 184 [BQ,AB] false),g qO false (.una .not zL),gM qO Vt UX] [(22,PO)]) XP) (aA (aE aa4 [(5,V0)]) .ret)))))))))
def arO:br:=⟨23,2,.pure,[.cell true 1 4,.env 5],afW⟩
def XX:az:=aA (aE DT Nd) (aA (aE abn [(4,L2),(5,L3),(6,L4)]) (aA (aA (aE GS nQ) (dp E7 (aA (aE uj [(2,L0),(3,Rv)]) .ret) .skip)) (aA (aE [OD E4,jg,dU,iZ 1 L2 E5,fT,Sj] [(2,L5),(3,V0)]) .ret)))
def asS:br:=⟨8,1,.pure,[.env 2,.env 3],XX⟩
def Xt:az:=aA (aE Cg [(1,L0),(2,V0),(3,V0)]) (aA (aE abn [(4,L3),(5,L4)]) (aA (aA (aE [i (.una .not E5)] lj) (dp E6 (aA (aE [] [(2,E4),(3,Rv)]) .ret) .skip)) (aA (aE [] [(2,V0),(3,V0)]) .ret)))
def asO:br:=⟨7,1,.pure,[.env 2,.env 3],Xt⟩
def CT:az:=aA QW (aA RB (aA (dZ 1 (aA SJ (aA (aE XI [(8,L4)]) MN))) Qq))
def TC:az:=aA kP (aA Nv (aA (aA P6 (dZ 0 (.loop [2,3,7,8] CT))) BK))
def asg:br:=⟨9,2,.pure,[.env 2],TC⟩
def adS:az:=aA DK (aA Bs (aA (dZ 1 (aA (aE [iZ 12 E7 E9,Ev,ue,Eo] pZ) (aA (aE [uC,cf,G0] JU) (dp qN (aE [eI 3 E5,cf,yM,rf 1 E4 L2] [(4,L3)]) .skip)))) yB))
def amE:az:=aA QK (aA (aA (aE [BH,US,nA,nh] sx) (aA (aE [sj E3 V0] lj) (dp E6 (aA vV .ret) .skip))) (aA Qe (aA (aA (aE Dp [(7,L1),(8,L2),(9,V0)]) (dZ 0 (.loop [5,10,11] adS))) (aA (aE [dD 43 [E4]] []) (aA (aE [dD 48 [E4]] iI) .ret)))))
def au2:br:=⟨12,1,.pure,[.env 2],amE⟩
def Cf:az:=aA (aA (aE [vH E3,rp E4 L0] vM) (dp E8 .skip vI)) (aA (dZ 3 (aA (aE [iZ 1 E3 E4,cf,Dv E4 V1,iZ 1 E3 L2,fT,sj L1 L4] [(9,L5)]) (dp E9 (aA (aE [iZ 1 E3 E4,cf,iZ 1 E0 E2,lL] []) Sx) .skip))) SI)
def tq:az:=aA (aA (aE [vQ,rp E2 L0] sq) p5) (aA (dZ 1 (aA (aE [iZ 1 E0 E2,cf,Dv E2 V1,iZ 1 E0 L2,fT,mj L1 L4] [(7,L5)]) (dp E7 (aA (aE [YM] kx) (aA (aA (aE [] [(4,V1)]) (dZ 2 (.loop [8,9] Cf))) (aA (aE [YM,i (.clr (.int .i64 0) L0)] []) (aA (aE [i (.slice 1 E0 none (some E2))] md) .ret)))) .skip))) Sx)
def UF:az:=aA mu (aA (aA (aE [vQ,rp L0 fa] wT) (dp E5 (aA (aE [] [(1,E0)]) .ret) .skip)) (aA (aA (aE [] [(2,V1)]) (dZ 0 (.loop [1,3,4,6,7,8,9] tq))) (aA (aE [] [(1,E0)]) .ret)))
def ar5:br:=⟨10,1,.keep,[.env 1],UF⟩
def FY:az:=aA QW (aA RB (aA (dZ 1 (aA SJ (aA (aE [iZ 2 E0 E3,nH,iZ 2 E1 E3,lc 2 L2,i (.eqa true [0,1] L1 L3)] [(8,L4)]) MN))) Qq))
def af8:az:=aA kP (aA Nv (aA (aA P6 (dZ 0 (.loop [2,3,7,8] FY))) BK))
def aum:br:=⟨9,2,.pure,[.env 2],af8⟩
def F2:az:=aA (aA (aE [iLq E8 E1] xR) (dp qN .skip (.exit 1))) (aA (dZ 2 (aE [zl,cf,gL,dT,iZ 12 L3 E8,lc 12 L4,OD E5,eI 2 L6,qM L7,iZ 1 L8 E1,qM L9,i (.una .neg mw),dD 69 [L5,nG],nU 12 [vG],rf 12 L1 qO,zl,fI 1 FP BQ] [])) xk)
def afk:az:=aA (aE [ul,gh] Ih) (aA (aE [rT,dD 77 [L0],nA,nh,D2] [(5,L2),(6,L4)]) (aA (dZ 0 (aA (aE GS pV) (dp E9 (aA (aE Ed [(4,Rv)]) .ret) (aA (aE [rp E1 V0,QI,ZR,P5,RY,ZU,LZ] [(10,L6)]) (dp oG (aA (aE Ed [(4,fa)]) .ret) .skip))))) (aA (aE BB nQ) (aA (aA (.lift 7 0 12 (aE [OD E5,eI 2 L0,dU,iZ 1 L2 E1,fT] [(8,L4)])) (dZ 1 (.loop [11] F2))) (aA (aE [xd E7,K6] [(4,V0)]) .ret)))))
def auL:br:=⟨12,2,.pure,[.cell true 1 3,.env 4],afk⟩
def aeu:az:=aA (aE [ul,pq] HI) (aA (aE [gL,cf,pr,dT,dD 404 [L1,L3,v (.fn 405 [] [])]] [(4,L4)]) .ret)
def aur:br:=⟨5,2,.pure,[.env 4],aeu⟩
def aoq:az:=aA (aE [ul,oX 9 E1,gh] Ip) (aA (aA M8 (aA (aE xU nQ) (dp E7 (aA (aE Hn [(5,E6)]) .ret) .skip))) (aA (aE [rT,lc 9 E3,dD 172 [L0,L1],li,ly,PS] [(5,L4)]) .ret))
def au8:br:=⟨8,2,.pure,[.cell true 1 4,.env 5],aoq⟩
def anQ:az:=aA (aE [ul,Rh] XO) (aA (aA M8 (aA (aE xU zj) (dp sN (aA (aE Nu [(4,V0),(5,E6)]) .ret) .skip))) (aA (aE [dD 122 [E1],D1,LF,EW 2 L0,N3,fI 3 L4 L1] [(7,L4),(8,L2),(9,L3)]) (aA (aA (aE [sj E9 V0] BG) (dp s9 (aA (aE Nu [(4,E8),(5,E9)]) .ret) .skip)) (aA (aE [rT,lc 3 E7,Vc,li,ly,Oy,JW,UJ] [(10,L6),(8,L4),(9,L5)]) (aA (aA (aE [sj E9 V0] yt) (dp yo (aA (aE Nu [(4,E8),(5,E9)]) .ret) .skip)) (aA (aE [rT,lc 5 oG,Vu,li,ly,gh,yG] [(11,L5),(9,L4)]) (aA (aA (aE [sj E9 V0] xI) (dp EU (aA (aE Nu [(4,V0),(5,E9)]) .ret) .skip)) (aA (aE [xd qN,eI 1 oG,dU,oY [.ai,.ai] [(0,1,L0),(1,1,L2)],fI 2 E3 L3] [(4,V0),(5,V0)]) .ret))))))))
def au4:br:=⟨16,2,.pure,[.cell true 2 3,.env 4,.env 5],anQ⟩
def anj:az:=aA (aE BB [(0,L0)]) (aA (aE [X4,oY [.str [],n0] [(0,1,v (.str [98])),(1,1,fR)],nU 2 [L0,L1],oY [.str [],.ai,.ai] [(0,1,v (.str [116])),(1,1,L2)],X4,nU 2 [L4],oY [.str [],.ai,.ai] [(0,1,v (.str [117])),(1,1,L5)],nU 3 [L3,L6],oY [.ai] [(0,1,L7)],fI 1 E0 L8] []) .ret)
def au3:br:=⟨1,0,.pure,[.cell true 1 0],anj⟩
def acE:az:=aA (aA (aE [vQ,rp E3 L0] wT) MY) (aA (dZ 1 (aA (aE XI [(6,L4)]) (dp E6 Dw .skip))) (aE [ws E3 V1] kx))
def amT:az:=aA kP (aA Nv (aA (aA SL (dZ 0 (.loop [2,5,6] acE))) BK))
def au5:br:=⟨7,2,.pure,[.env 2],amT⟩
def adg:az:=aA Qp (aA Ld (aA (dZ 1 (aA (aE [iZ 12 E5 E7,Ev,ue,Eo] pz) (aE [D7,cf,yM,rf 1 E3 L2] sx))) Rw))
def amj:az:=aA QK (aA Qd (aA (aA (aE Dp [(5,L1),(6,L2),(7,V0)]) (dZ 0 (.loop [4,8] adg))) Mi))
def au7:br:=⟨9,1,.pure,[.env 2],amj⟩
def U3:az:=aA vV (aA (aE [iMn 3,vQ,Q7,i (.slice 3 E0 none (some L2)),rf 3 L0 L3] [(2,L4)]) .ret)
def asa:br:=⟨3,2,.keep,[.env 2],U3⟩
def S8:az:=aA vV (aA (aE [iMn 2,vQ,Q7,i (.slice 2 E0 none (some L2)),rf 2 L0 L3] [(2,L4)]) .ret)
def asi:br:=⟨3,2,.pure,[.env 2],S8⟩
def SX:az:=aA vV (aA (aE [iMn 1,vQ,Q7,i (.slice 1 E0 none (some L2)),rf 1 L0 L3] [(2,L4)]) .ret)
def asc:br:=⟨3,2,.pure,[.env 2],SX⟩
def N0:az:=aA (aE Ix DI) (aA (aE Ix ou) (aA (aE [dD 124 [E0],D1,LF,EW 2 L0] [(6,L1),(7,L2),(8,L3)]) (aA (aA (aE Ht xR) (dp qN (aA (aE [lc 3 E5,Qm] [(3,E7),(4,E8)]) .ret) .skip)) (aA (aE [yr,oY [.ai,n0,n0,n0] [(0,1,E6),(1,1,L0)],oX 4 L1] yU) (aA (aE [i (.callv E1 [E9]),N3,fI 3 L1 L0] Hq) (aA (aA (aE [OD E9,lW,dU,A8,Gg L3 V0] [(12,L4)]) (dp sN (aE [dD 108 [E9],dD 192 [E9,P0,L0]] []) .skip)) (aA (aA (aE [OD E9,Im,dU,sj L2 V0] [(13,L3)]) (dp s9 (aA (AJ [lc 3 E5,OD E9,eI 2 L1,dT,OD E9,eI 3 L4,sB,Qm] [(3,L3),(4,L6)] [(1,8),(2,8),(3,8),(4,8),(5,8),(6,8)]) .ret) .skip)) (aA (aE [lc 3 oG,Qm] [(3,V0),(4,V0)]) .ret))))))))
def arZ:br:=⟨14,2,.pure,[.cell true 3 2,.env 3,.env 4],N0⟩
def vf:az:=aA (aA (aE [nU 1 [v (.str [85,78,73,79,78])],QJ] wV) (dp E3 .skip pK)) (dZ 1 (aA (aA (aE [gL,cf,gq,mj L2 fR] [(4,L3)]) (dp E4 Hi .skip)) (aA A7 (aA (aE [nU 1 [v (.str [65,76,76])],sy] []) (AJ [gL,cf,dD 128 [E0],i (.mksl 9 [L2]),rf 9 L1 L3,gL,fI 1 L5 L4] [] [(0,3),(0,4),(1,3),(1,4)])))))
def Za:az:=aA (aE Ix md) (aA (aE XL vL) (aA (dZ 0 (.loop [3,4] vf)) (aA (aA (aE [dD 18 [E0,V1,v (.str [79,82,68,69,82])]] ou) (dp E5 (aA (aE [nU 1 [v (.str [66,89])],sy] []) (aE [i (.mkfn 194 [E0] []),dD 195 [E0,fR,L0],gu,lL] [])) .skip)) (aA (aA (aE [dD 18 [E0,V1,v (.str [76,73,77,73,84])]] lj) (dp E6 (aE [dD 193 [E0],oV,mv] []) .skip)) Rx))))
def arN:br:=⟨7,1,.trunc,[.cell true 3 1],Za⟩
def Xm:az:=aA Ro (aA (aE [SP (v (.fn 52 [] []))] kx) (aA (aA (aE [uc,cf,gq,Gg L2 lq,g L3 false (.fld 0 E1),Eb,g L3 false (.mov E3),g L3 false (.call 87 [L5,L6] false),gM L3 Vt L7,g L8 false (.fld 0 E1),g L8 false (ld L9),g L8 false (.call 88 [mw,v (.fn 13 [] [])] false),g L8 false (.una .not nG),gM L8 Vt vG] [(4,qO)]) (dp E4 (aA (aE [] [(2,v (.int .i64 210))]) .ret) .skip)) Dx))
def asG:br:=⟨5,1,.pure,[.env 2],Xm⟩
def DP:az:=aA Qp (aA Ld (aA (dZ 1 (aA (aE [iZ 3 E5 E7,LL,La,P4] pz) (aE [W9,LJ,g E3 true (.bin .eql L1 ku),g E3 true (.mov L2),g L3 true (.fld 1 E4),xB,g L3 true (.call 196 [L5] false),g E3 true (.pick L3 L6 Vf),g E3 true (.mov L7),g L8 false (.fld 0 E4),g L8 false (ld L9),g L8 false (.call 11 [mw] false),g L8 false (.mov nG),g vG true (.fld 1 E4),QR,g vG true (.bin .eql BQ V0),g L8 false (.pick vG FP Vf),g E3 true (.pick L8 Vt AB),gM E3 zL Vf] [(3,UX)]))) Rw))
def ahB:az:=aA (aE DE [(1,L0),(2,V0)]) (aA (aE [uc,cf,gq,Gg L2 V0,g L3 true (.fld 0 E1),xB,R6,g L3 true (.bin .leq L6 fR),QD,g L8 true (.fld 1 E1),g L8 true (ld L9),YO,g L8 true (.bin .leq nG fR),gM L8 vG Vf,g qO true (.fld 2 E1),RK,g qO true (.bin .eql FP jN),g qO true (.mov AB),g zL false (.fld 2 E1),g zL false (ld UX),g zL false (.call 196 [PO] false),g qO true (.pick zL Vt Y1),gM qO L21 Vf] [(3,PH)]) (aA (aA (aE YS [(5,L1),(6,L2),(7,V0)]) (dZ 0 (.loop [4,8] DP))) (aA (aA (aE [EF,aai,g L0 false (ld L1),g L0 false (.call 136 [L2,v (.fn 138 [] [])] false),Sw] [(9,L4)]) (dp E9 (aA (aE [] [(2,v (.int .i64 180))]) .ret) .skip)) Dx)))
def aro:br:=⟨10,1,.pure,[.env 2],ahB⟩
def Jk:az:=aA (aE [rp E5 xo] lj) (aA p5 (aA (dZ 1 (aA (aE [i (.idxv false 6 1 E4 E5)] kx) (aA (aE [i (.callv E3 [])] iI) (aA (aE [sj E2 V0] nQ) (dp E7 pK .skip))))) sr))
def anP:az:=aA p6 (.scope (aA mi (aA (aA (aE [i (.mkfn 142 [E0] []),i (.mkfn 146 [E0] []),i (.mkfn 147 [E0] []),i (.mkfn 149 [E0] []),i (.mkfn 150 [E0] []),i (.mkfn 168 [E0] []),oY [.nilf,.nilf,.nilf,.nilf,.nilf,.nilf] [(0,1,L0),(1,1,L1),(2,1,L2),(3,1,L3),(4,1,L4),(5,1,L5)]] [(4,L6),(5,V0)]) (dZ 0 (.loop [9999,3,6,7] Jk))) DG)))
def ato:br:=⟨8,1,.keep,[.env 1],anP⟩
def FV:az:=aA DK (aA Bs (aA (dZ 1 (aA (aE [LU,om,gh,lL] pz) (aA (aE [AF,dD 41 [L0,E2],nA,nh] pZ) (aE [nU 1 [E5],rf 1 E3 L0] wV)))) yB))
def YV:az:=aA mu (aA (aE [ct,eI 22 L0,dU] rh) (aA (aA (aE [ct,pn,eI 4 L1,dT] [(6,L3)]) (dp E6 (aE [ct,eI 23 L0,dU] rh) .skip)) (aA Qd (aA (aA (aE [ct,pn,G8,dT,sA] [(7,L3),(8,L4),(9,V0)]) (dZ 0 (.loop [9999,4,5,10] FV))) (aA (aE [] [(1,E3)]) .ret)))))
def asC:br:=⟨11,1,.keep,[.env 1],YV⟩
def xj:az:=aA HR (aA XJ (aA (dZ 5 (aA (aE [SF,nH,GW,pT] pZ) (aA (aE [Dt,cf] sq) (aA (aA (aE [uC,lW,dU,uC,eI 0 L3,wP,vH L5,Dv L6 V1,iZ 9 L2 L7,lc 9 L8,MC,fI 9 mw L9] [(7,mw)]) (aA (aE [mj E6 ku] [(21,L0)]) (dp PJ (aE [eI 8 E7,cf] sq) .skip))) (aE [nU 1 [E6],rf 1 E2 L0] oU))))) I6))
def GM:az:=aA Iw (aA Sq (aA (dZ 3 (aA (aE [iZ 2 s9 EU,nH,Ij,pT] pz) (aE [D7,cf,yM,rf 1 E2 L2] vL))) I0))
def F9:az:=aA G4 (aA Jh (aA (dZ 1 (aA (aE [iZ 1 E9 qN,cf] wV) (aA (aE [ct,lW,xA,dT,iZ 3 L3 E3,II,sB,vH L6] [(13,L6),(14,L7),(15,V0)]) (dZ 2 (.loop [9999,4,16] GM))))) HJ))
def Ym:az:=aA mu (aA (aE B5 iI) (aA (aA (aE Rz [(8,L3)]) (dp E8 (aA (aE [ct,pn,xA,dT,sA] [(9,L3),(10,L4),(11,V0)]) (dZ 0 (.loop [9999,3,4,12,13,14,15,16] F9))) .skip)) (aA (aA (aE Ra [(17,L3),(18,L4),(19,V0)]) (dZ 4 (.loop [9999,5,6,7,20,21] xj))) DG)))
def asB:br:=⟨22,1,.keep,[.env 1],Ym⟩
def oJ:az:=aA yA (aA yV (aA (dZ 1 (aA (aE [iZ 1 E6 E8,cf] [(3,E8),(4,L1)]) (dZ 2 (aA (aE [yJ,cf,LM] [(10,L2)]) (dp oG (aE [yJ,fI 1 L0 E4] []) (aA (aE [sj E4 V0,Sy,yI,g L0 true (.mov E3),g L0 true (.idxs 1 L2 L3),g L0 true (ld L4),g L0 true (.bin .neq L1 L5),RD] [(11,L7)]) (dp qN Dw .skip))))))) xk))
def Tg:az:=aA kP (aA (aA (aE R5 pZ) (dp E5 Dw .skip)) (aA (aA (aE Bo [(6,E1),(7,L0),(8,V0)]) (dZ 0 (.loop [2,3,4,9,10,11] oJ))) BK))
def asj:br:=⟨12,2,.keep,[.env 2],Tg⟩
def QV:az:=aA (aE DE DI) (aA (aA (aE [gL,cf,mj L1 ku] uM) (dp E6 (aA (aA (aE [gu,cf,rp L1 V1,g L2 false (.fld 1 E2),Iy,g L2 false (.mov E1),ZC,g L2 false (.bin .gtr L4 L6),gM L2 Vt L7] [(7,L8)]) (dp E7 Lj .skip)) (aA (aE [gu,cf,Dv L1 V1] [(3,L2),(4,V0)]) .ret)) .skip)) (aA (aE [gL,cf,dD 6 [E1,L1]] pZ) (aA (dZ 0 (aA (aE [rp E5 V0] wS) (dp E8 Lj (aA (aE [MR,i (.slice 1 E1 (some L0) none),gL,dT,dD 5 [L1,L3]] [(9,L4)]) (dp E9 (aA (aE [] [(3,V0),(4,v (.int .i64 223))]) .ret) .skip))))) (aA (aE [] [(3,E5),(4,V0)]) .ret))))
def arI:br:=⟨10,2,.pure,[.env 3,.env 4],QV⟩
def abi:az:=aA (aE [pq] kx) (aA (aA (aE [mj E0 V0] jc) (dp E4 (aA (aE [qM E2,vO,uK,eI 10 L2,fI 1 L3 L1] []) .ret) .skip)) (aE [qM E2,oY [n0,n0,n0,n0,.ai,nf,.ai,.ai,.ai,.ai,.ai,n0] [(0,1,Ea)],vO,nU 1 [L2],dD 118 [L0,L1,L3]] []))
def asM:br:=⟨5,3,.keep,[],abi⟩
def XH:az:=aA (aE [oX 12 E1] kx) (aA (aA (aE [vH E2,Gg L0 V0] yu) (dp E4 (aA (aE [MF,ct,DW,uL,iZ 1 E2 V0,xd L4,dD 191 [L0,L3,L5],Bg,A9,dD 105 [E0,L7,L8]] []) .ret) .skip)) (aE [MF,ct,DW,uL,dD 119 [L0,L3],uo,uN,dD 105 [E0,L5,L6]] []))
def asn:br:=⟨5,3,.keep,[],XH⟩
def tG:az:=aA (aE [rp E9 lq] vJ) (aA Bs (aA (dZ 1 (aA (aE [i (.idxv false 4 1 E8 E9)] nQ) (aA (aE [i (.callv E7 [])] []) (aA (aE [OD E6,Hu,dU] JU) (dp qN SG .skip))))) yB))
def ZI:az:=aA (aE [ul,oX 9 E1,gh] Ip) (aA (aE [rT,lc 9 E3,oY [.ai,.ai,.ai,.ai,.ai,nf,nf,.ai,.ai,.ai,.ai,nf] [(0,1,L0),(1,9,L1)],oX 12 L2] [(6,L3)]) (aA (aA (aE [i (.mkfn 173 [E6] []),i (.mkfn 179 [E6] []),i (.mkfn 180 [E6] []),i (.mkfn 181 [E6] []),oY [.nilf,.nilf,.nilf,.nilf] [(0,1,L0),(1,1,L1),(2,1,L2),(3,1,L3)]] [(8,L4),(9,V0)]) (dZ 0 (.loop [5,7,10,11] tG))) (aA (aE [OD E6,pn,xd L1,fI 1 E4 L2] [(5,V0)]) .ret)))
def ata:br:=⟨12,2,.pure,[.cell true 1 4,.env 5],ZI⟩
def tZ:az:=dZ 1 (aA (aE [i (.una .not E8)] BG) (dp s9 (aA (aE [xG,Jl,fI 1 E3 E7,fI 1 E4 Vf] []) .ret) .skip))
def sC:az:=aA (aE [] [(7,qN)]) (aE [] [(8,sN)])
def N2:az:=aA (aE [ul,QL,oX 1 V0,oX 1 Vf] [(1,L0),(2,L1),(3,L2),(4,L3)]) (aA (aE [BH,oY [.ai,.ai,.ai] [(0,1,L0)],oX 3 L1,QL,yN] [(5,L3)]) (aA (aE Dp uM) (aA (aA (aE [rp E6 V1,Sf,g L0 false (.bin .gtr L1 (v (.int .i64 60))),AG] [(9,L3)]) (dp E9 (aA (aE [xG,Jl,fI 1 E3 V0,fI 1 E4 Vf] []) .ret) .skip)) (aA (aA (aE [xG,dD 78 [L0]] Hq) (dZ 0 (.rng 14 oG 35))) (aA (AJ [xG,Dv E6 V1,xG,OD L2,LX,wP,Dv E6 V1,iZ 1 L5 L6,qM L7,mj L8 V0,Jl,fI 1 E3 L1,fI 1 E4 L9] [] [(2,11),(2,12),(3,11),(3,12),(4,11),(4,12),(5,11),(5,12),(7,11),(7,12),(8,11),(8,12)]) .ret)))))
def arX:br:=⟨14,1,.keep,[.cell false 1 2,.cell false 1 3,.cell false 1 4],N2⟩
def qF:yy:=⟨14,[11,12],sC,tZ⟩
def ae1:az:=aA mu (aA HK (aA (aE [SP (v .ai),rf 1 L0 E0] uE) .ret))
def atq:br:=⟨3,1,.fresh 1,[.env 1],ae1⟩
def GF:az:=aA HY (aA (dp s9 .skip vI) (aA (dZ 3 (aA (aE [] [(5,sN)]) (AJ [Du,cf,Du,dT,iZ 1 L3 E5,eI 0 L4,sB,i (.call 64 [L6] true),iZ 1 L1 E5,eI 0 L8,fI 1 L9 L7] [] [(0,8),(1,8)]))) IB))
def F0:az:=aA DK (aA Bs (aA (dZ 1 (aA (aE [] [(4,E9)]) (AJ [Bm,cf,Bm,dT,iZ 2 L3 E4,II,eI 0 L5,qM L6,i (.call 64 [L7] true),iZ 2 L1 E4,eI 1 L9,eI 0 mw,fI 1 nG L8] [] [(0,9),(1,9)]))) yB))
def Pq:az:=aA (aE [zr,ue] LI) (aA (aA (aE [gu,cf,Be] uM) (dp E6 (aE [gu,cf,ws L1 E1,gu,yN] []) .skip)) (aA (aA (aE [oV,cf,Be] oO) (dp E7 (aE [oV,cf,ws L1 E1,oV,yN] []) .skip)) (aA (AJ [LP,cf,i (.call 12 [L1] true),EE,fT,Sj,eI 10 E2,qM L6,i (.call 70 [L7] true),LP,fI 1 L9 L2,EE,fI 1 nG L5,eI 10 E2,fI 1 qO L8] [] [(3,0),(4,0),(6,0),(6,3),(7,0),(7,3),(9,3),(9,6)]) (aA (aE [Bh,lW,dU,i (.call 64 [L2] true),Bh,eI 0 L4,yG] []) (aA (AJ [Bm,cf,i (.call 71 [L1] true),Du,fT,i (.call 72 [L4] true),Bm,fI 1 L6 L2,Du,fI 1 L8 L5] [] [(3,0),(4,0),(6,3)]) (aA (aA (aE Zt [(8,L2),(9,V0)]) (dZ 0 (.loop [4,10] F0))) (aA (aA (aE Yn [(11,L2),(12,V0)]) (dZ 2 (.loop [5,13] GF))) (aA (aE [lc 12 E2,fI 12 E3 L0] []) .ret))))))))
def ar3:br:=⟨14,2,.pure,[.cell true 12 3],Pq⟩
def Gt:az:=aA Mf (aA Nh (aA (dZ 1 (aA (aE [iZ 12 E8 oG,Ev,ue,Eo] Su) (aA (aE [iZ 12 E1 E4,Ev,ue,Eo] uM) (aA (aE [lc 12 E5,lc 12 E6,PY,Hs] [(12,L3)]) Q9)))) Lv))
def agv:az:=aA JY (aA Qk (aA (aA QN (dZ 0 (.loop [3,4,5,6,11,12] Gt))) EM))
def atv:br:=⟨13,3,.pure,[.env 3],agv⟩
def afo:az:=aA (aE [zr,oX 12 E1] HI) (aA (aE [SP (v (.fn 408 [] []))] ou) (aA (aE [LP,cf,eI 4 E3,dT,dD 184 [L1,L3],g L4 true (.fld 7 E2),Iz,g L4 true (.fld 7 E3),PW,g L4 true (.call 184 [L6,L8] false),Na,g mw true (.fld 10 E2),g mw true (ld nG),g mw true (.fld 10 E3),g mw true (ld qO),g mw true (.call 399 [vG,BQ] false),gM mw FP Vf] [(6,AB)]) (aA (aE [Bh,om,eI 6 E3,uL,dD 280 [L1,L3],g L4 true (.fld 8 E2),Iz,g L4 true (.fld 8 E3),PW,g L4 true (.mov E5),g L4 true (.call 406 [L6,L8,L9] false),gM L4 mw Vf,g nG true (.fld 9 E2),g nG true (ld vG),g nG true (.fld 9 E3),g nG true (ld BQ),g nG true (.call 407 [qO,FP,v (.fn 280 [] [])] false),gM nG AB Vf] [(7,zL)]) (aA (aE [gL,cf,pr,dT,mj L1 L3,Rj,Iz,aas,PW,g L4 true (.bin .eql L6 L8),Na,g mw true (.fld 2 E2),g mw true (ld nG),g mw true (.fld 2 E3),g mw true (ld qO),g mw true (.bin .eql vG BQ),gM mw FP Vf,g AB true (.fld 3 E2),g AB true (ld zL),g AB true (.fld 3 E3),g AB true (ld PO),g AB true (.bin .eql UX Y1),gM AB L21 Vf,g PH true (.fld 5 E2),g PH true (ld L23),g PH true (.fld 5 E3),g PH true (ld L25),g PH true (.eqb false L24 L26),gM PH L27 Vf,g L28 true (.fld 11 E2),g L28 true (ld L29),g L28 true (.fld 11 E3),g L28 true (ld L31),g L28 true (.bin .eql L30 L32),gM L28 L33 Vf,g L34 true (.mov E6),gM L34 L35 Vf,g L36 true (.mov E7),gM L36 L37 Vf] [(4,L38)]) .ret))))
def auy:br:=⟨8,2,.pure,[.env 4],afo⟩
def uu:az:=dZ 1 (aA (aA (aE GS xR) (dp qN (aA (AJ [Dt,cf,fI 1 E1 Vn,fI 1 E2 L1,fI 1 E3 (v (.int .i64 170))] [] [(0,3),(1,3)]) .ret) .skip)) (aE [qM E4,lc 4 E5,nU 4 [L1],rf 4 L0 L2,PS] []))
def sk:az:=aA (aE [El,fI 4 L0 E9] ou) (aE [] [(6,oG)])
def ZE:az:=aA (aE [oX 1 Vn,oX 1 V0,oX 1 V0] [(1,L0),(2,L1),(3,L2)]) (aA (aA (aE [yr,Gg L0 (v (.int .i64 600))] xu) (dp E7 (aA (aE [fI 1 E1 Vn,fI 1 E2 V0,fI 1 E3 fR] []) .ret) .skip)) (aA (aE [oX 1 Vn] jc) (aA (aA (.lift 4 0 4 (aE [dD 125 [E0]] wS)) (dZ 0 (.rng 12 E8 59))) (aA (aE [qM E4,fI 1 E1 L0,fI 1 E2 V0,fI 1 E3 V0] []) .ret))))
def asP:br:=⟨12,1,.pure,[.cell false 1 1,.cell false 1 2,.cell false 1 3],ZE⟩
def pS:yy:=⟨12,[9,10],sk,uu⟩
def YF:az:=aA (aE [ct,Im,dU,mj L2 V0] sx) (dp E3 (aE [ct,Im,fI 1 L1 E1,ct,LX,fI 1 L4 E2] []) .skip)
def asq:br:=⟨4,3,.trunc,[],YF⟩
def aba:az:=aA p6 (aA (aA (aE [ct,lW,dU,A8,mj L3 V0] [(2,L4)]) (dp E2 (aA (aE [ct,jg,dU] Er) .ret) .skip)) (aA (aE [ct,lW,dU,Lq,eI 1 L3,wP] [(1,L5)]) .ret))
def asw:br:=⟨3,1,.pure,[.env 1],aba⟩
def UU:az:=aA (aE [Mj] md) (aA (aE [nU 1 [v (.str [83,69,76,69,67,84])],sy] []) (aA (aE aaM rh) (aA (aA (aE [dD 18 [E0,jy,M7],gu,mv] []) (aA (aE [gu,cf,wU] wG) (dp E3 (aE [i (.mkfn 130 [E0] []),dD 129 [E0,xo,L0],oV,lL] []) .skip))) (aA (aE [nU 1 [v (.str [70,82,79,77])],sy] []) (aA (aE ZF []) (aA (aE X7 []) (aA (aA (aE [dD 18 [E0,V1,v (.str [87,72,69,82,69])]] jc) (dp E4 (aE [DL,Bh,mv] []) .skip)) (aA (aA (aE [dD 18 [E0,V1,v (.str [71,82,79,85,80])]] ou) (dp E5 (aA (aE [nU 1 [v (.str [66,89])],sy] []) (aE [i (.mkfn 113 [E0] []),dD 197 [E0,fR,L0],Bm,lL] [])) .skip)) (aA (aA (aE [dD 18 [E0,V1,v (.str [72,65,86,73,78,71])]] lj) (dp E6 (aE [DL,EE,mv] []) .skip)) (aA (aE [lc 9 E2,fI 9 E1 L0] []) .ret))))))))))
def arP:br:=⟨7,1,.trunc,[.cell true 9 1],UU⟩
def KS:az:=aA JY (aA (aA (aE [ct,Im,dU,sj L2 V0,Sd,g L3 false (.nilck L4),g L3 false (.fld 0 L5),g L3 false (ld L6),g L3 false (.len L7),g L3 false (.bin .eql L8 V0),gM L3 Vt L9,YK,g mw false (.nilck nG),g mw false (.fld 0 vG),g mw false (ld qO),g mw false (.idxs 4 BQ V0),g mw false (.fld 0 FP),g mw false (ld AB),g mw false (.mov E1),g mw false (.bin .neq zL UX),gM mw Vt PO] [(4,Y1)]) (dp E4 xV .skip)) (aA (aE [vH E2,mj L0 V0,Yb,ZS,g L1 false (.nilck L3),g L1 false (.fld 0 L4),g L1 false (ld L5),g L1 false (.idxs 4 L6 V0),g L1 false (.fld 2 L7),g L1 false (ld L8),g L1 false (.call 5 [L2,L9] false),gM L1 Vt mw] [(3,nG)]) .ret))
def arM:br:=⟨5,3,.pure,[.env 3],KS⟩
def agu:az:=aA (aE [El] md) (aA (aE [ct,lW,dU,Lq,lc 4 L3,El,fI 4 L5 L4] [(2,L5)]) (aA (aE [ct,lW,dU,i (.slice 4 L2 (some V1) none),ct,eI 0 L4,yG] []) (aA (aE [lc 4 E2,fI 4 E1 L0] []) .ret)))
def auY:br:=⟨3,1,.trunc,[.cell true 4 1],agu⟩
def Xr:az:=aA (aE [El] kx) (aA (aA (aE [dD 4 [E0,E1,E2],yQ] yu) (dp E4 (aA (aE [MO,dD 192 [E0,P0,L0]] []) (aA (aE [Y7,fI 4 E3 L0] []) .ret)) .skip)) (aA (aE [Ee,fI 4 E3 L0] []) .ret))
def asI:br:=⟨5,3,.trunc,[.cell true 4 3],Xr⟩
def abN:az:=aA JY (aA (aA (aE [nU 1 [E2],dD 4 [E0,E1,L0],wU] pz) (dp E4 xV .skip)) (aA A7 EM))
def as9:br:=⟨5,3,.trunc,[.env 3],abN⟩
def As:az:=aA SH (dZ 1 (aA (aA (aE [vH E4,mj L0 E1] sq) (dp E6 Hi .skip)) (aA A7 (aE [DN,nU 3 [L0],rf 3 E4 L1] pz))))
def afu:az:=aA Mn (aA (aE [DN,i (.mksl 3 [L0])] yu) (aA (dZ 0 (.loop [5,6] As)) HO))
def atJ:br:=⟨7,3,.trunc,[.env 3],afu⟩
def Tw:az:=aA (aE [La] md) (aA (aE [La] iI) (aA (aA (aE [dD 4 [E0,fR,Vn]] kx) Z2) (aA (aA (aE [dD 18 [E0,V1,v (.str [68,69,83,67])],oV,mv] []) (aA (aE [oV,cf,wU] pz) (dp E4 (aE [dD 18 [E0,V1,v (.str [65,83,67])]] []) .skip))) Rx)))
def arK:br:=⟨5,1,.trunc,[.cell true 3 1],Tw⟩
def Zi:az:=aA p6 (aA (aE [MO] iI) (aA (aE [dD 73 [E0,fR,Vn],Xy] wV) (aA (aA (aE [Gg E3 (v (.int .u64 2147483647))] jc) (dp E4 (aE [dD 192 [E0,P0,E2]] []) .skip)) (aA (aE [i (.conv .i64 E3)] md) .ret))))
def as4:br:=⟨5,1,.trunc,[.env 1],Zi⟩
def afQ:az:=aA (aE DE BF) (aA (aE [lc 3 E1,dD 53 [L0],LR] rh) .ret)
def aui:br:=⟨3,1,.pure,[.env 2],afQ⟩
def s8:az:=aA Mw (aA QB (aA (dZ 3 (aA (aE [iZ 1 qN s9,cf] [(5,s9),(6,L1)]) (aE [g E3 true (.mov E6),g E3 true (.bin .geq L0 V0),gM E3 L1 Vf,g L2 true (.mov E6),Nk,g L2 true (ld L4),g L2 true (.len L5),g L2 true (.bin .lss L3 L6),gM L2 L7 Vf,g L8 true (.mov E5),g L8 true (.bin .eql L9 V0),g L8 true (.mov mw),g nG false (.fld 2 E1),Yg,g nG false (.mov E5),g nG false (.bin .sub BQ V1),g nG false (.idxs 1 qO FP),g nG false (ld AB),g nG false (.mov E6),g nG false (.bin .lss zL UX),g L8 true (.pick nG Vt PO),gM L8 Y1 Vf] [(3,L21)]))) Mo))
def Cd:az:=aA DK (aA Bs (aA (dZ 1 (aA (aE [iZ 2 E7 E9,nH,Ij,pT] pz) (aE [g E3 true (.fld 1 E4),LJ,g E3 true (.call 38 [L1] false),g E3 true (.bin .neq L2 ku),PQ] D5))) yB))
def Pw:az:=aA (aE DE [(1,L0),(2,V0)]) (aA (aE [uc,cf,dD 11 [L1],Nk,zu,g L2 true (.len L4),g L2 true (.bin .geq L5 V1),gM L2 L6 Vf,g L7 true (.fld 1 E1),Ir,g L7 true (.len L9),g L7 true (.bin .leq mw lq),gM L7 nG Vf,XU,QR,g vG true (.call 54 [BQ,v (.fn 10 [] [])] false),gM vG FP Vf] [(3,AB)]) (aA (aA (aE YS [(7,L1),(8,L2),(9,V0)]) (dZ 0 (.loop [4,10] Cd))) (aA (aA (aE ZW [(11,L1),(12,L2),(13,V0)]) (dZ 2 (.loop [5,6,14] s8))) (aA (aA (aE [EF] xI) (dp EU (aA (aE [] [(2,v (.int .i64 211))]) .ret) .skip)) Dx))))
def ar2:br:=⟨16,1,.pure,[.env 2],Pw⟩
def afs:az:=aA kP (aA (aE [dD 29 [E0,E1],yX] oU) .ret)
def auP:br:=⟨3,2,.pure,[.env 2],afs⟩
def Aw:az:=aA yA (aA yV (aA (dZ 1 (aA (aE XY [(4,L2),(3,E8)]) (aA (aE [lc 3 E4,i (.callv E1 [L0]),dD 50 [E0,E1,L1],li,ly] [(5,L3)]) (aA (aE [sj E5 E3,QI,g L0 false (.load true 3 E4),aa9,aaK,Ye,LZ] [(10,L6)]) XA)))) xk))
def aau:az:=aA kP (aA (aA Sl (dZ 0 (.loop [2,3,4,5,9,10] Aw))) BK)
def as1:br:=⟨11,2,.pure,[.env 2],aau⟩
def ag1:az:=aA (aE DE [(1,L0),(2,ku)]) Ql
def auX:br:=⟨3,1,.pure,[.env 2],ag1⟩
def an1:az:=aA nR (aA (aE [PN E0 V0,yI,g L0 true (.bin .leq L1 QH),qY] sw) .ret)
def ars:br:=⟨2,1,.pure,[.env 1],an1⟩
def vq:az:=aA (aE [i (.nexts E4),D1] [(5,L0),(6,L1)]) (aA p5 (dZ 1 (aA (aE [EW 2 E5] iI) (aA (aE [dD 3 [E2],yQ,g L1 true (.mov E2),g L1 true (.call 1 [L2] false),g L1 true (.una .not L3),RM,g L5 true (.mov E2),g L5 true (.bin .neq L6 (v (.int .i32 95))),gM L5 L7 Vf] [(7,L8)]) (dp E7 Qi .skip)))))
def Fq:az:=aA nR (aA (aA (aE [mj E0 ku,rF,g L0 false (.lent L1),g L0 false (.bin .gtr L2 Cu),Sw,g L4 false (.mov E0),g L4 false (.idxt L5 V0),g L4 false (.conv .i32 L6),g L4 false (.call 1 [L7] false),g L4 false (.una .not L8),gM L4 Vt L9,YK,g mw false (.call 8 [nG] false),g mw false (.call 9 [vG] false),gM mw Vt qO] [(3,BQ)]) (dp E3 Qi .skip)) (aA (aA (aE [i (.rngs E0)] jc) (dZ 0 (.loop [1,2,5,6,7] vq))) (aA (aE [] [(1,Vt)]) .ret)))
def arB:br:=⟨8,1,.pure,[.env 1],Fq⟩
def afH:az:=aA kP (aA (aE [dD 137 [E0,E1],yX] oU) .ret)
def auj:br:=⟨3,2,.pure,[.env 2],afH⟩
def aoc:az:=aA GA (aA (aE [lc 9 E1,dD 139 [L0],wU] rh) .ret)
def arn:br:=⟨3,1,.pure,[.env 2],aoc⟩
def uJ:az:=aA (aE [rp NF fa] [(23,L0)]) (aA (dp E23 .skip (.exit 6)) (aA (dZ 7 (aA (aE [i (.idxv true 2 1 PJ NF),gh,mv] xu) (aE [g E3 true (.fld 0 E7),LJ,g E3 true (.len L1),g E3 true (.bin .eql L2 V0),g E3 true (.mov L3),g L4 false (lt E7),g L4 false (.mkl 1 [L5]),g L4 false (.call 114 [L6] false),g E3 true (.pick L4 Vt L7),gM E3 L8 Vf] [(3,L9)]))) (aE [ws NF V1] [(22,L0)])))
def IG:az:=aA HR (aA XJ (aA (dZ 5 (aA (aE [SF,nH,xD,pT] uM) (aE [g E3 true (.fld 1 E6),LJ,g E3 true (.call 11 [L1] false),gM E3 L2 Vf,g L3 true (.fld 0 E6),xB,g L3 true (.call 68 [L5] false),DD] [(3,L7)]))) I6))
def Hk:az:=aA Iw (aA Sq (aA (dZ 3 (aA (aE [iZ 4 s9 EU,C2,Lx,MU] pZ) (aE [g E3 true (.fld 3 E5),g E3 true (lt L0),UB,TV,PQ,g L4 true (.fld 1 E5),g L4 true (.load true 2 L5),g L4 true (.call 140 [L6] false),Nr] [(3,L8)]))) I0))
def IV:az:=aA G4 (aA Jh (aA (dZ 1 (aA (aE [iZ 2 E9 qN,nH,GW,pT] pz) (aE [W9,g E3 true (lt L0),UB,TV,PQ,g L4 true (.fld 1 E4),Iz,Tm,Nr] [(3,L8)]))) HJ))
def ajw:az:=aA GA (aA (aA (aE [zh,cf,Me,dT,sA,mj L4 V0,i (.eqb true L1 L5),g L6 false (.fld 2 E1),Mm,g L6 false (.len L8),g L6 false (.bin .gtr L9 xo),gM L6 Vt mw,g nG false (.fld 5 E1),Yg,g nG false (.len qO),g nG false (.bin .gtr BQ fa),gM nG Vt FP,g AB false (.fld 8 E1),g AB false (ld zL),g AB false (.len UX),g AB false (.bin .gtr PO fR),gM AB Vt Y1] [(8,L21)]) MN) (aA (aE [vC,nH,dD 140 [L1]] wG) (aA (aA (aE ZW [(9,L1),(10,L2),(11,V0)]) (dZ 0 (.loop [4,12] IV))) (aA (aA (aE [eI 5 E1,cf,gq] Lo) (dZ 2 (.loop [5,16] Hk))) (aA (aA (aE [eI 8 E1,cf,gq] I9) (dZ 4 (.loop [6,20] IG))) (aA (aA (aE [Cp,om,CO,uL,oY [.ai,.ai] [(0,1,L1),(1,1,L3)]] [(21,L4),(22,V0)]) (dZ 6 (.loop [7,23] uJ))) Mi))))))
def ate:br:=⟨24,1,.pure,[.env 2],ajw⟩
def agE:az:=aA p6 (aA (aE [ct,zW,fI 1 L1 V0] []) (aA (aE [ct,jg,eI 3 L1,lc 2 L2,dD 143 [E0,L3]] [(1,L4)]) .ret))
def aua:br:=⟨2,1,.keep,[.env 1],agE⟩
def uX:az:=aA yA (aA yV (aA (dZ 1 (aA (aE [iZ 4 E6 E8,C2,Lx,MU] rh) (aA (aA (aE [gu,nH,dD 143 [E0,L1]] wG) (aA (aE [sj E3 V0] vJ) (dp oG (aA (aE [] [(1,E3)]) .ret) .skip))) (aA (aE [eI 3 E2,om,dD 166 [E0,L1,Vf],li,ly,gh,yG] [(4,L5),(5,L4)]) (aA (aA (aE [sj E5 V0] xR) (dp qN (aA (aE [] [(1,E5)]) .ret) .skip)) (aE [ct,pn,Es,dT,gL,wP,AF,oY [nf,.ai] [(0,1,L5),(1,1,L6)],nU 2 [L7],rf 2 L3 L8,ct,eI 10 mw,eI 1 nG,fI 1 vG L9] [])))))) xk))
def XV:az:=aA p6 (aA (aE [ct,zW,fI 1 L1 V1] []) (aA (aA (aE [ct,jg,eI 5 L1,dT,sA] [(6,L3),(7,L4),(8,V0)]) (dZ 0 (.loop [9999,1,2,3,4,5,9,10,11] uX))) zK))
def asx:br:=⟨12,1,.keep,[.env 1],XV⟩
def Zm:az:=aA p6 (aA (aE [ct,zW,fI 1 L1 fa] []) (aA (aA (aE [ct,jg,Gc,B9,fT,zB,Gg L5 V0] zU) (dp E2 (aE [ct,jg,Gc,uL,dD 166 [E0,L3,Vf],uo,uN,ct,GG,eI 2 L8,fI 1 L9 L5] [(1,L6)]) .skip)) (aA (aE [] [(1,E1)]) .ret)))
def atg:br:=⟨3,1,.keep,[.env 1],Zm⟩
def Ai:az:=aA Qp (aA Ld (aA (dZ 1 (aA (aE [iZ 2 E5 E7,nH,xD,pT] rh) (aA (aE [zO,dD 94 [E0,L0],nA,nh] [(3,L2),(4,L3)]) (aA (aA (aE [sj E4 V0] pV) (dp E9 KZ .skip)) (AJ [ct,pn,Gc,dT,nU 1 [E3],rf 1 L3 L4,ct,eI 23 L6,qM L7,ct,eI 22 L9,qM mw,iZ 1 nG E3,qM vG,nU 1 [qO],rf 1 L8 BQ,ct,eI 10 AB,eI 6 zL,fI 1 UX L5,ct,eI 23 Y1,fI 1 L21 FP] [] [(6,0),(7,0),(8,0),(9,0),(10,0),(11,0),(12,0),(13,0)]))))) Rw))
def Y4:az:=aA p6 (aA (aE [ct,zW,fI 1 L1 fR] []) (aA (aA (aE [ct,jg,G8,dT,sA] [(5,L3),(6,L4),(7,V0)]) (dZ 0 (.loop [9999,1,2,3,4,8,9] Ai))) zK))
def as3:br:=⟨10,1,.keep,[.env 1],Y4⟩
def xa:az:=aA (aE [rp Gv EU] Fe) (aA (dp Kb .skip vI) (aA (dZ 3 (aA (aE [iZ 2 yo Gv,nH,GW,pT] pZ) (aA (AJ [uC,om,ct,eI 10 L2,eI 4 L3,wP,dD 93 [E0,L1,L5],Bg,A9,EW 2 L6,gh,fI 1 mw L7] [(6,mw),(7,L9)] [(0,11),(1,11),(2,11),(3,11),(4,11),(5,11)]) (aA (aA (aE [sj E7 V0] [(18,L0)]) (dp RL (aA (aE [] [(1,E7)]) .ret) .skip)) (aE [ct,pn,G8,dT,xd E6,nU 1 [L4],rf 1 L3 L5,ct,GG,eI 8 L8,fI 1 L9 L6] []))))) (aE [ws Gv V1] Fj)))
def wW:az:=aA G4 (aA Jh (aA (dZ 1 (aA (aE [] [(2,qN)]) (aA (aE [oY [n0,n0,n0,n0,n0,n0,.int .u64 0,.str []] [(0,1,fa),(3,1,E2)],dD 101 [L0],nA,nh,gh,fI 1 L4 L2] [(3,L4),(4,L3)]) (aA (aA (aE [sj E4 V0] BG) (dp s9 KZ .skip)) (aE [ct,pn,G8,dT,vO,nU 1 [L4],rf 1 L3 L5,ct,GG,eI 8 L8,fI 1 L9 L6] []))))) HJ))
def akq:az:=aA p6 (aA (aE Um []) (aA (aE T2 []) (aA (aA (aE [ct,jg,Es,dT,g L3 true (.mov E0),g L3 true (.nilck L4),g L3 true (.fld 10 L5),g L3 true (.fld 4 L6),g L3 true (ld L7),gM L3 L8 Vf] [(8,L9)]) T9) (aA (aA (aE Rz [(9,L3)]) (dp E9 (aA (aE GO [(10,L3),(11,V0)]) (dZ 0 (.loop [9999,1,2,3,4,12,13] wW))) .skip)) (aA (aA (aE Ra [(14,L3),(15,L4),(16,V0)]) (dZ 2 (.loop [9999,1,5,6,7,17,18] xa))) zK)))))
def ary:br:=⟨19,1,.keep,[.env 1],akq⟩
def Z4:az:=aA p6 (aA (aE [ct,zW,fI 1 L1 jy] []) (aA (aA (aE [ct,jg,xq,B9,fT,zB,Gg L5 V0] zU) (dp E2 (aE [ct,jg,xq,uL,dD 166 [E0,L3,Vt],uo,uN,ct,GG,eI 3 L8,fI 1 L9 L5] [(1,L6)]) .skip)) (aA (aE [] [(1,E1)]) .ret)))
def asW:br:=⟨3,1,.keep,[.env 1],Z4⟩
def CD:az:=aA (aE [rp Kb Gv] [(18,L0)]) (aA (dp RL .skip vI) (aA (dZ 3 (aA (aE [iZ 1 EU Kb,cf] vM) (aA (aE [qM E3,vH L0,PN E8 L1] [(19,L2)]) (dp PK (aA (aE [] [(4,V0),(5,fa)]) .ret) .skip)))) (aE [ws Kb V1] Fe)))
def KT:az:=aA HY (aA F6 (aA (dZ 1 (aA (aE [iZ 1 oG sN,cf] xu) (aA (aE [rp E7 V0,Tc,g L0 false (.bin .gtr L1 fR),AG] [(14,L3)]) (dp yo (aA (aE [] [(4,V0),(5,fa)]) .ret) .skip)))) IB))
def OP:az:=aA (aE [ul,pq] XO) (aA (aA (aE [rT,Gw] sq) (aA (aE xU pV) (dp E9 (aA (aE [] [(4,V0),(5,E6)]) .ret) .skip))) (aA (aA (aE [qM E3,vH L0] [(10,L0),(11,L1),(12,V0)]) (dZ 0 (.loop [4,5,7,13,14] KT))) (aA (aA (aE [rT,dD 42 [L0],gq] [(15,L1),(16,L2),(17,V0)]) (dZ 2 (.loop [4,5,8,18,19] CD))) (aA (aE [rT,i (.mkfn 21 [] [E3]),dD 49 [L0,L1],li,ly] [(4,L3),(5,L4)]) .ret))))
def ar1:br:=⟨20,2,.pure,[.env 4,.env 5],OP⟩
def tE:az:=aA pb (aA p5 (aA (dZ 1 (aA sV (aA (aE [yJ,cf,mj E1 L1] oO) sW))) sr))
def Ob:az:=aA mi (aA (aA o8 (dZ 0 (.loop [2,3,6,7] tE))) o9)
def ar0:br:=⟨8,2,.pure,[.env 2],Ob⟩
def aeB:az:=aA kP (aA (aE [dD 6 [E0,E1],yX] oU) .ret)
def atp:br:=⟨3,2,.pure,[.env 2],aeB⟩
def aeL:az:=aA (aE [pq] kx) (aA (aE [ct,Hu,dU,TI,TO,Mc,ct,eI 11 L6,F1] []) (aE [vO,ct,DW,fI 1 L2 L0] []))
def aug:br:=⟨4,3,.keep,[],aeL⟩
def aeT:az:=aA (aE [zr,pq,oX 1 E2,gh] [(3,L0),(4,L1),(5,L2),(6,L3),(7,V0)]) (aA (aE [MF,AF,Bb,nU 1 [L1,L2],dD 104 [L0,L3],uo,uN,fI 1 E6 L5] [(7,L6)]) .ret)
def atG:br:=⟨8,3,.pure,[.cell true 1 6,.env 7],aeT⟩
def afb:az:=aA (aE [zr,pq,gh] Ip) (aA (aE [lc 12 E2,vO,yM,dD 104 [L0,L2],HG,Je,fI 1 E4 L4] [(5,L5)]) .ret)
def aut:br:=⟨6,2,.pure,[.cell true 1 4,.env 5],afb⟩
def vk:az:=aA DK (aA Bs (aA (dZ 1 (aA (aE [iZ 2 E7 E9,nH,oX 2 (v (.agg [nf,.ai])),pT] [(3,L2),(2,E9)]) (aA (aE [ws E2 V1,iZ 1 E1 L0,dU,dD 174 [E0,L2],HG,Je,gh,fI 1 L6 L4] [(4,L6),(5,L5)]) (aA (aE [ct,Hu,dU,Ud,TO,Mc,ct,eI 11 L6,F1] []) (aE [pr,cf,Ep,uL,oY [n0,n0,n0,n0,.ai,nf,.ai,.ai,.ai,.ai,.ai,n0] [(0,1,fa),(5,1,L1),(6,1,L3)],AF,nU 1 [L5],dD 118 [E0,L4,L6]] []))))) yB))
def NB:az:=aA (aE [ct,jg,xA,dT] sw) (aA (aA (aE [vH E1,rp L0 V1,g L1 false (.mov E1),g L1 false (.len L2),g L1 false (.bin .gtr L3 fR),gM L1 Vt L4,g L5 false (.mov E0),g L5 false (.nilck L6),g L5 false (.fld 1 L7),g L5 false (.fld 1 L8),g L5 false (ld L9),g L5 false (.len mw),g L5 false (.mov E1),g L5 false (.len vG),g L5 false (.bin .sub qO V1),g L5 false (.bin .neq nG BQ),gM L5 Vt FP,ct,eI 11 zL,fI 1 UX AB] []) (aA (aE [ct,Hu,dU] uM) (dp E6 .ret .skip))) (aA (aE [iZ 1 E1 V0,cf,dD 174 [E0,L1],li,ly,dD 105 [E0,L3,L4]] []) (aA (aE [ct,jg,Es,dT,sA] [(7,L3),(8,L4),(9,V0)]) (dZ 0 (.loop [2,3,4,5,10] vk)))))
def arY:br:=⟨11,1,.keep,[],NB⟩
def abo:az:=aE [ct,jg,eI 2 L1,B9,fT,zB,Gg L5 V0,ct,GC,eI 2 L8,xd L9,oY [n0,n0,n0,n0,.ai,nf,.ai,.ai,.ai,.ai,.ai,n0] [(0,1,fR),(6,1,mw)],dD 158 [E0,L6,nG]] []
def asN:br:=⟨1,1,.keep,[],abo⟩
def Fy:az:=aA (aE [ct,jg,lc 9 L1,ajo,fI 9 L3 L2] sw) (aA (aE [Cp,cf,gq,CO,fT,zB,ws L2 L5,Gg L6 V0] [(2,L7)]) (aA (aE [vC,lW,dU,A8,Gg L3 V0] D5) (aA (aA (aE [Cb,cf,wU] pZ) (dp E5 (aA (aE [ct,Hu,dU,TI,gM L2 Vt L3,g L4 false (.mov E3),gM L4 Vt L5,ct,eI 11 L7,Cn] []) .ret) .skip)) (aA (aE [Cp,cf,CO,dT,oY [n0,n0,n0,n0,.ai,nf,.ai,.ai,.ai,.ai,.ai,n0] [(0,1,lq),(7,1,L1),(8,1,L3)],ue,fI 12 L5 L4] [(4,L5)]) (aA (aA (aE [i (.una .not E2)] lj) (dp E6 (aE [oY [n0,.ai] [(0,1,V1)],nU 2 [L0],eI 8 E4,lL] []) .skip)) (aA (aE [lc 12 E4,dD 118 [E0,L0,Vn]] []) (aE [vC,om,oY [n0,n0,n0,n0,.ai,nf,.ai,.ai,.ai,.ai,.ai,n0] [(0,1,fR),(6,1,L1)],dD 158 [E0,E3,L2]] [])))))))
def arF:br:=⟨7,1,.keep,[],Fy⟩
def aao:az:=aA (aE [ct,jg,G8,dT,oY [n0,n0,n0,n0,.ai,nf,.ai,.ai,.ai,.ai,.ai,n0] [(0,1,jy),(9,1,L3)],dD 118 [E0,L4,Vn]] []) (aE [ct,jg,eI 5 L1,dT,oY [n0,n0,n0,n0,.ai,nf,.ai,.ai,.ai,.ai,.ai,n0] [(0,1,xo)],dD 158 [E0,L3,L4]] [])
def aso:br:=⟨1,1,.keep,[],aao⟩
def ae3:az:=aA (aE Cg [(1,L0),(2,v .nilf)]) (aA (.lift 0 1 1 (.lift 0 2 1 (aE [i (.mkfn 79 [] [E1])] iI))) .ret)
def auv:br:=⟨3,1,.keep,[.env 2],ae3⟩
def afz:az:=aA mu (aA HK (aA (aE [SP (v .ai),rf 2 L0 E0] uE) .ret))
def auW:br:=⟨3,1,.fresh 2,[.env 1],afz⟩
def ahd:az:=aA mu (aA HK (aA (aE [SP (v .ai),rf 8 L0 E0] uE) .ret))
def aun:br:=⟨3,1,.fresh 8,[.env 1],ahd⟩
def afC:az:=aA mu (aA HK (aA (aE [SP (v .ai),rf 2 L0 E0] uE) .ret))
def atQ:br:=⟨3,1,.fresh 2,[.env 1],afC⟩
def ae4:az:=aA mu (aA HK (aA (aE [SP (v .ai),rf 1 L0 E0] uE) .ret))
def aud:br:=⟨3,1,.fresh 1,[.env 1],ae4⟩
def af5:az:=aA (aE [oX 2 E0,oX 2 E1] HI) (aA (aE [gL,cf,pr,dT,mj L1 L3,Rj,g L4 true (lt L5),aas,g L4 true (lt L7),Uc,Na] [(4,mw)]) .ret)
def auN:br:=⟨5,2,.pure,[.env 4],af5⟩
def ag0:az:=aA (aE [ul,pq] HI) (aA (aE [gL,cf,pr,dT,dD 281 [L1,L3]] [(4,L4)]) .ret)
def atI:br:=⟨5,2,.pure,[.env 4],ag0⟩
def Gr:az:=aA Mf (aA Nh (aA (dZ 1 (aA (aE [iZ 2 E8 oG,nH,Co,pT] Su) (aA (aE [iZ 2 E1 E4,nH,Co,pT] uM) (aA (aE [lc 2 E5,lc 2 E6,PY,Hs] [(12,L3)]) Q9)))) Lv))
def af2:az:=aA JY (aA Qk (aA (aA QN (dZ 0 (.loop [3,4,5,6,11,12] Gr))) EM))
def atU:br:=⟨13,3,.pure,[.env 3],af2⟩
def Gj:az:=aA Mf (aA Nh (aA (dZ 1 (aA (aE TZ Su) (aA (aE [iZ 1 E1 E4,om,gh,lL] uM) (aA (aE [Bb,xd E6,PY,Hs] [(12,L3)]) Q9)))) Lv))
def afF:az:=aA JY (aA Qk (aA (aA QN (dZ 0 (.loop [3,4,5,6,11,12] Gj))) EM))
def atk:br:=⟨13,3,.pure,[.env 3],afF⟩
def age:az:=aA (aE Cg [(1,L0),(2,v .nilf)]) (aA (aE [i (.mkfn 126 [] [E1])] iI) .ret)
def auE:br:=⟨3,1,.pure,[.env 2],age⟩
def zx:az:=aA SH (dZ 1 (aA (aA (aE [vH E4,mj L0 E1] sq) (dp E6 Hi .skip)) (aA A7 (aE [DN,nU 2 [L0],rf 2 E4 L1] pz))))
def aeZ:az:=aA Mn (aA (aE [DN,i (.mksl 2 [L0])] yu) (aA (dZ 0 (.loop [5,6] zx)) HO))
def aup:br:=⟨7,3,.trunc,[.env 3],aeZ⟩
def YB:az:=aA (aE [GW] md) (aA (aE [DL,oY [.ai,.str []] [(0,1,L0)],GW,pT] rh) (aA (aA (aE [dD 18 [E0,V1,v (.str [65,83])]] kx) (dp E3 (aE [Hc,BJ,gu,lL] []) .skip)) Ng))
def ass:br:=⟨4,1,.trunc,[.cell true 2 1],YB⟩
def Zv:az:=aA (aE [xD] md) (aA (aE [Hc,BJ,oY [.str [],.str []] [(0,1,L1)],xD,fI 2 L3 L2] vL) (aA (aA (aE [dD 4 [E0,fa,Vn]] kx) (dp E3 (aE [Ee,BJ,gu,lL] []) .skip)) Ng))
def asF:br:=⟨4,1,.trunc,[.cell true 2 1],Zv⟩
def zZ:az:=aA (aA (aE [nU 1 [Uk,Tv],QJ] yu) (dp E4 .skip pK)) (dZ 1 (aA (aA (aE [vH E2,mj L0 fa] wT) (dp E5 Hi .skip)) (aA (aE [dD 18 [E0,V1,Uk],oY [nf,.str [],.str [],.ai] [(0,1,L0)],Lx,MU] wG) (aA (aE [nU 1 [Tv],sy] []) (aA (aE [dD 131 [E0],Ep,zw] []) (aA (aE [nU 1 [v (.str [79,78])],sy] []) (aA (aE [DL,eI 3 E3,mv] []) (aE [lc 4 E3,nU 4 [L0],rf 4 E2 L1] rh))))))))
def aft:az:=aA mu (aA (aE [iMn 4] iI) (aA (dZ 0 (.loop [3,4,5] zZ)) DG))
def atX:br:=⟨6,1,.trunc,[.env 1],aft⟩
def TT:az:=aA (aE BB md) (aA (aE [MO] iI) (aA (aE [dD 109 [E0],oY [.ai] [(0,1,L0)],gh,lL] wG) (aA (aA (aE [ct,Im,dU,mj L2 V0,g L3 true (lt E3),g L3 true (.call 89 [L4] false),g L3 true (.bin .neq L5 V0),DD] [(4,L7)]) (dp E4 (aE [dD 192 [E0,v (.int .i64 192),E2]] []) .skip)) (aA (aE [vO,fI 1 E1 L0] []) .ret))))
def ash:br:=⟨5,1,.trunc,[.cell true 1 1],TT⟩
def zR:az:=aA SH (dZ 1 (aA (aA (aE [vH E4,mj L0 E1] sq) (dp E6 Hi .skip)) (aA A7 (aE [DN,nU 2 [L0],rf 2 E4 L1] pz))))
def aeC:az:=aA Mn (aA (aE [DN,i (.mksl 2 [L0])] yu) (aA (dZ 0 (.loop [5,6] zR)) HO))
def atM:br:=⟨7,3,.trunc,[.env 3],aeC⟩
def Xv:az:=aA (aE [xD] md) (aA (aE [Hc,BJ,oY [.str [],.str []] [(1,1,L1)],xD,fI 2 L3 L2] vL) (aA (aA (aE [dD 18 [E0,jy,v (.str [46])]] kx) (dp E3 (AJ [gu,cf,Hc,i (.fldv false 1 2 L2),gL,Rm,gu,fI 1 L6 L3] [] [(0,3),(1,3),(4,0)]) .skip)) Ng))
def asr:br:=⟨4,1,.trunc,[.cell true 2 1],Xv⟩
def Aa:az:=aA yA (aA yV (aA (dZ 1 (aA (aE [iZ 2 E6 E8,nH,Ij,pT] [(4,L2),(3,E8)]) (aA (aE [lc 2 E4,i (.callv E1 [L0]),dD 36 [E0,E1,L1],li,ly] [(5,L3)]) (aA (aE [sj E5 E3,QI,g L0 false (.load true 2 E4),aa9,aaK,Ye,LZ] [(10,L6)]) XA)))) xk))
def Xp:az:=aA kP (aA (aA Sl (dZ 0 (.loop [2,3,4,5,9,10] Aa))) BK)
def asu:br:=⟨11,2,.pure,[.env 2],Xp⟩
def af4:az:=aA (aE Ae [(1,L0),(2,ku)]) Ql
def atK:br:=⟨3,1,.pure,[.env 2],af4⟩
def Au:az:=aA (aE [rp E4 fR] ou) (aA MY (aA (dZ 1 (aA (aE [i (.idxv true 3 2 E3 E4),Ij,zw] oU) (aA (aE [gu,cf,mj L1 E0] uM) (dp E6 (aA (aE [gL,cf] uE) .ret) .skip)))) SI))
def agr:az:=aA (aE [] [(1,ku)]) (aA (aA (aE [lc 6 (v (.cptr false gl0 0))] [(3,L0),(4,V0)]) (dZ 0 (.loop [1,2,5,6] Au))) (aA (aE [] [(1,ku)]) .ret))
def at5:br:=⟨7,1,.pure,[.env 1],agr⟩
def tj:az:=aA pb (aA p5 (aA (dZ 1 (aA sV (aA (aE [iZ 3 E0 E3,LL,wH] oO) sW))) sr))
def Yc:az:=aA mi (aA (aA o8 (dZ 0 (.loop [2,3,6,7] tj))) o9)
def ast:br:=⟨8,2,.pure,[.env 2],Yc⟩
def Zs:az:=aA (aE [pq,oX 1 E2] [(3,L0),(4,L1),(5,V0),(6,Vf)]) (aA (aE [i (.mkfn 30 [] [E3,E4]),dD 29 [E0,L0]] xu) (aA (aE [i (.maxs E7 [V0]),PN E7 V0] [(5,L0),(6,L1)]) .ret))
def atb:br:=⟨8,3,.pure,[.env 5,.env 6],Zs⟩
def afh:az:=aA nR (aA (aE [PN E0 (v (.int .i32 97)),yI,g L0 true (.bin .leq L1 (v (.int .i32 122))),qY] sw) .ret)
def atP:br:=⟨2,1,.pure,[.env 1],afh⟩
def afr:az:=aA nR (aA (aE [i (.aslice 28 (v (.cptr false gl1 0))),dD 5 [L0,E0]] uE) .ret)
def atu:br:=⟨2,1,.pure,[.env 1],afr⟩
def ahb:az:=aA nR (aA (aE [PN E0 (v (.int .i32 48)),yI,g L0 true (.bin .leq L1 (v (.int .i32 57))),qY] sw) .ret)
def atD:br:=⟨2,1,.pure,[.env 1],ahb⟩
def tJ:az:=aA pb (aA p5 (aA (dZ 1 (aA sV (aA (aE [iZ 9 E0 E3,VJ,wH] oO) sW))) sr))
def Zx:az:=aA mi (aA (aA o8 (dZ 0 (.loop [2,3,6,7] tJ))) o9)
def asY:br:=⟨8,2,.pure,[.env 2],Zx⟩
def am4:az:=aA (aE Ae BF) (aA (aE [uc,cf,dD 11 [L1],Nk,zu,g L2 true (.call 68 [L4] false),zH] zU) .ret)
def auM:br:=⟨3,1,.pure,[.env 2],am4⟩
def amO:az:=aA nR (aA (aE [dD 115 [E0,v (.fn 117 [] [])],yQ] uE) .ret)
def atC:br:=⟨2,1,.pure,[.env 1],amO⟩
def aeg:az:=aA nR (aA (aE [mj E0 ku,rF,g L0 false (.call 11 [L1] false),AG] sw) .ret)
def arl:br:=⟨2,1,.pure,[.env 1],aeg⟩
def w8:az:=aA Mw (aA (dp yo .skip (.exit 1)) (aA (dZ 2 (aA (aE LB oO) (aA (aE GO [(8,L3)]) (aA (AJ T0 [] [(0,13),(1,13),(2,13),(3,13),(4,13)]) (aA (aE UI []) (aE Uz [])))))) Mo))
def OJ:az:=aA (aE C7 [(2,L0),(3,V0)]) (aA (aE TD [(4,L6),(5,L7)]) (aA (aE [zO,dD 145 [L0]] sq) (aA (dZ 0 (aA (aE [i (.una .not E5)] pV) (dp E9 (aA (aE [] [(3,v (.int .i64 220))]) .ret) (aA (aE [ct,eI 19 L0,dU,i (.lookk [] (.bool false) false L2 E6)] [(10,L3)]) (dp oG (aA (aE [] [(3,v (.int .i64 221))]) .ret) .skip))))) (aA (aE Vi []) (aA (aE UO []) (aA (aA (aE [ct,lW,xA,dT,iZ 3 L3 E4,II,sB,vH L6] [(11,L6),(12,L7),(13,V0)]) (dZ 1 (.loop [9999,7,8,14] w8))) (aA SL .ret)))))))
def arC:br:=⟨15,2,.keep,[.env 3],OJ⟩
def Vl:az:=aA (aE [pq,gh] [(3,L0),(4,L1),(5,V0)]) (aA (aE [vO,dD 93 [E0,L0,E2],nA,nh,D2,gh,fI 1 L5 L2] [(6,L5),(7,L3),(8,L4)]) (aA (aA (aE [mj E8 V0,g L0 true (.mov E7),g L0 true (.bin .neq L1 V1),qY,g L3 true (.mov E7),g L3 true (.bin .neq L4 V0),gM L3 L5 Vf] [(9,L6)]) (dp E9 (aE [] [(8,v (.int .i64 226))]) .skip)) (aA (aE [xd E6,fI 1 E4 L0] [(5,E8)]) .ret)))
def ar4:br:=⟨10,3,.keep,[.cell true 1 4,.env 5],Vl⟩
def JP:az:=aA (aE C7 DI) (aA (aA (aE [gL,cf,sj L1 ku] [(8,L2)]) (dp E8 (aA (aE [ct,eI 21 L0,dU,zO,i (.lookk [2,2] (.int .i64 0) true L2 L3),uo,uN] [(5,L5),(6,L6)]) (aA (aA (aE GS pV) (dp E9 Lj .skip)) (aA (aE [] [(3,E5),(4,V0)]) .ret))) .skip)) (aA (aA (aE [ct,eI 20 L0,dU,gu,fT,i (.lookk [] .ai false L2 L4)] [(7,L5)]) (aA (aE [vH E7] vJ) (dZ 0 (aA (aE [mj oG V0] xR) (dp qN Lj (aA (aE [mj oG V1] zj) (dp sN (aA (aE [iZ 1 E7 V0,cf] [(3,L1),(4,V0)]) .ret) .skip))))))) (aA (aE [] [(3,V0),(4,v (.int .i64 223))]) .ret)))
def arR:br:=⟨13,2,.keep,[.env 3,.env 4],JP⟩
def adR:az:=aA GA (aA (aE Lk wV) (aA (aE [i (.mkfn 154 [] [E3])] jc) (aA (aE [eI 8 E1,cf,gq,Gg L2 V0,g L3 false (.fld 7 E1),g L3 false (.fld 0 L4),g L3 false (ld L5),g L3 false (.len L6),g L3 false (.bin .gtr L7 V0),gM L3 Vt L8,g L9 false (.fld 2 E1),g L9 false (ld mw),g L9 false (.mov E4),g L9 false (.call 152 [nG,vG] false),gM L9 Vt qO] [(2,BQ)]) .ret)))
def asd:br:=⟨5,1,.pure,[.env 2],adR⟩
def Y0:az:=aA (aE Gx Nd) (aA (aE [lc 8 E1,dD 83 [L0,Vn],nA,nh,GE] sx) .ret)
def asL:br:=⟨4,1,.pure,[.cell true 1 2,.env 3],Y0⟩
def UZ:az:=aA (aE Vw Uo) (aA (aE Lk vM) (aA (aE [CZ,fI 1 L0 (v (.fn 100 [] []))] pV) (aA (aE TL Hq) (aA (aE [CZ] xR) (aA (aE [i (.mkfn 82 [] [E4,E9,E3,E8,qN,oG]),fI 1 qN L0] []) (aA (aE TN [(12,L8),(13,L7)]) (aA (aA (aE [sj s9 V0] xI) UV) (aA (AJ Ty [(14,L4),(13,L5)] [(0,3)]) (aA (aE [xd sN,fI 1 E5 L0] [(6,yo),(7,s9)]) .ret)))))))))
def arJ:br:=⟨16,3,.keep,[.cell true 1 5,.env 6,.env 7],UZ⟩
def aeH:az:=aA Ro (aA (aA (aE [BH,dD 17 [L0],nA,nh] sx) (aA (aE [EF] jc) (dp E4 (aA (aE [] [(2,v (.int .i64 200))]) .ret) .skip))) Dx)
def auA:br:=⟨5,1,.pure,[.env 2],aeH⟩
def Df:az:=aA yA (aA yV (aA (dZ 1 (aA (aE Ua pz) (aA (aE [D7,cf,Gs] [(10,L2)]) (dp oG (aE [eI 3 E4,cf,yM,rf 1 E3 L2] sx) .skip)))) xk))
def aez:az:=aA QK (aA (aA (aE [BH,Gw,LR] pZ) (dp E5 (aA vV .ret) .skip)) (aA Qd (aA (aA (aE Dp Qy) (dZ 0 (.loop [4,9,10] Df))) (aA (aE [dD 43 [E3]] []) (aA (aE [dD 48 [E3]] iI) .ret)))))
def att:br:=⟨11,1,.pure,[.env 2],aez⟩
def Ca:az:=aA MJ (aA Nj (aA (dZ 1 (aA (aE [iZ 8 sN yo,F8,MQ,MW] yU) (aA (AJ [lc 8 E9,Lh,dU,dD 2 [L2],i (.callv E7 [L3]),i (.callv E1 [L0,L4]),Gf,GI] [(10,L6),(11,L7)] [(0,5)]) (aA (aA (aE [sj qN V0] Fj) (dp Gv (aA (aE [] [(8,qN)]) pK) .skip)) (aE [xG,nU 1 [oG],rf 1 L0 L1,fI 1 E5 L2] []))))) MZ))
def Y2:az:=aA (aE Cg DI) (.scope (aA (aE [oX 1 Vn] ou) (aA (aE [] [(6,V0)]) (aA (aE [i (.mkfn 20 [] [E5])] nQ) (aA (aE [] [(8,V0)]) (aA (aA (.lift 5 0 1 (aE Ut [(12,L1),(13,L2),(14,V0)])) (dZ 0 (.loop [9,10,11,15,16] Ca))) (aA (aA (aE Ht Fe) (dp Kb (aA (aE [] [(3,E6),(4,E8)]) .ret) .skip)) (aA (aE [xG,iZ 1 L0 V0,dU] [(3,L2),(4,V0)]) .ret))))))))
def asy:br:=⟨18,2,.pure,[.env 3,.env 4],Y2⟩
def Gn:az:=aA HY (aA F6 (aA (dZ 1 (aA (aE [iZ 1 oG sN,cf] xu) (dZ 2 (aA (aE [mj E7 V0,Tc,Sf,g L0 false (.bin .eql L1 L2),Sw] [(14,L4)]) (dp yo .skip (aA (aE FW xI) (dp EU (aE [] [(6,E7)]) (aE [] [(6,jN)])))))))) IB))
def agC:az:=aA (aE [oX 8 E0] [(3,L0),(4,V0),(5,V0)]) (aA (aE [] [(6,V0)]) (aA (aA (aE Bo [(10,E1),(11,L0),(12,V0)]) (dZ 0 (.loop [7,13,14,15] Gn))) (aA (aE [] [(8,E6)]) (aA (aE [] [(9,V1)]) (aA (dZ 3 (aA (aE [pr,cf,G0] [(16,L2)]) (dp Gv (aA (aE [eI 4 E3,lW,dU] [(4,L2),(5,V0)]) .ret) (aA (aE [pr,cf,Gs] [(17,L2)]) (dp Kb (aA (aE [qM E2,eI 3 E3,dU,iZ 1 L0 L2,fT] [(4,L4),(5,V0)]) .ret) (aA (aE [pr,cf,dD 76 [L1]] [(18,L2)]) (dp RL (aE [] [(8,fa),(9,fa)]) (aA (aE [pr,cf,mj L1 jy,g L2 false (.fld 0 E3),Iy,g L2 false (.bin .eql L4 (v (.int .i64 22))),Mv,g L6 false (.fld 0 E3),Mm,g L6 false (.bin .eql L8 FZ),gM L6 Vt L9] [(19,mw)]) (dp PK (aE [] [(8,V1)]) .skip))))))))) (aA (aA (aE [mj E6 jN,Sf,Z5,T8,g L3 true (.mov E6),g L3 true (.mov E8),g L3 true (.bin .neq L4 L5),g L0 false (.pick L3 L6 Vf),gM L0 Vt L7] [(20,L8)]) (dp E20 (aA (aE [] [(4,V0),(5,v (.int .i64 201))]) .ret) .skip)) (aA (aE [] [(4,E9),(5,V0)]) .ret)))))))
def auC:br:=⟨21,3,.pure,[.env 4,.env 5],agC⟩
def agw:az:=aA nR (aA (aE [mj E0 lq,rF,g L0 false (.bin .geq L1 Ar),T8,g L3 true (.mov E0),g L3 true (.bin .leq L4 (v (.int .i64 15))),g L0 false (.pick L3 L5 Vf),gM L0 Vt L6] [(1,L7)]) .ret)
def atW:br:=⟨2,1,.pure,[.env 1],agw⟩
def Cc:az:=aA HR (aA UL (aA (dZ 3 (aA (aE [iZ 12 Kb PK,Ev,ue,Eo] [(10,L2)]) (aE [uC,cf,lc 12 oG,dD 69 [L2,E9],nU 12 [L3],rf 12 L1 L4,uC,fI 1 L6 L5] []))) I6))
def pQ:az:=aA MJ (aA Nj (aA (dZ 1 (aA (aE [iZ 1 sN yo,om,gh,lL] [(7,L2),(6,yo)]) (aA (aA (aE [xd E7,US,nA,nh] [(8,L3)]) (aA (aE Ht Fj) (dp Gv (aA (aE Ed [(4,E8)]) .ret) .skip))) (aA (aE [uC,cf,gq] yU) (aA (aA (aE Zu I9) (dZ 2 (.loop [10,20] Cc))) (aA (aE FW [(21,L0)]) (dp PJ (aE [uC,cf,gq,Dv L2 V1,gu,Sz] []) (aE [uC,cf,gq,Dv L2 V1,oV,Sz] [])))))))) MZ))
def Vd:az:=aA (aE [zr,gh] Ih) (aA (aE [gu,fI 1 L0 jN,oV,fI 1 L2 jN] []) (aA (aE BB ou) (aA (aA (.lift 5 0 12 (aE Bo [(12,E1),(13,L0),(14,V0)])) (dZ 0 (.loop [4,6,7,8,9,10,15,16,17,18,19,20,21] pQ))) (aA (aE [uC,cf,lc 12 E2,dD 69 [L2,V0],nU 12 [L3],rf 12 L1 L4,uC,fI 1 L6 L5] []) (aA (aA (aE [Bb,US,nA,nh] [(11,L3)]) (aA (aE [sj qN V0] [(22,L0)]) (dp NF (aA (aE Ed [(4,qN)]) .ret) .skip))) (aA (aE [Bb,K6] [(4,V0)]) .ret))))))
def asb:br:=⟨23,2,.pure,[.cell true 1 3,.env 4],Vd⟩
def aax:az:=aA (aE BB [(2,L0),(3,V0)]) (aA (aE [ct,lW,xd L1,nU 1 [E1],dD 175 [L2,L3],uo,uN] [(4,L5),(5,L6)]) (aA (aA (aE [sj E5 V0] lj) (dp E6 (aA (aE [A4,Jl] [(3,E5)]) .ret) .skip)) (aA (aE [oY [n0,n0,n0,n0,.ai,nf,.ai,.ai,.ai,.ai,.ai,n0] [(0,1,V1),(3,1,E1),(4,1,E4)],dD 178 [L0],nA,nh,GE] sx) .ret)))
def asD:br:=⟨7,2,.pure,[.cell true 1 2,.env 3],aax⟩
def Xj:az:=aA (aE [oX 12 E2] kx) (aA (aE [] [(4,E1)]) (dp E4 (aE [MF,dD 118 [E0,L0,Vn]] []) .skip))
def asz:br:=⟨5,3,.keep,[],Xj⟩
def o7:az:=aA HY (aA F6 (aA (dZ 1 (aA (aE [iZ 12 oG sN,Ev,ue,Eo] [(4,L2),(3,sN)]) (aA (aE [D7,cf,i (.look .nilf true E2 L1),li,ly] [(5,L3),(6,L4)]) (aA (aE [g E6 true (.load true 12 E4),g E6 true (.call 31 [L0] false),g E6 true (.call 32 [L1] false),gM E6 L2 Vf] D4) (aA (aA (aE [] [(14,E7)]) (dp yo (aA (aE [] [(8,V0)]) (aA (aE [fM,dD 33 [L0,E3],nA,nh] [(8,L2),(7,L3)]) (AJ [fM,fM,OD L1,eI 2 L2,fT,nU 1 [E8],rf 1 L4 L5,uK,eI 2 L7,Cn] [] [(0,7)]))) .skip)) (aA (aE uj pV) (aA (aA (aE [] [(15,E7)]) (dp EU (aE [lc 12 E4,i (.callv E5 [L0]),nA,nh] [(9,L2),(7,L3)]) .skip)) (aA (aE [g E7 true (.mov E9),g E7 true (.len L0),g E7 true (.bin .leq L1 Cu),gM E7 L2 Vf] D4) (aA (AJ [fM,fM,OD L1,eI 1 L2,fT,nU 1 [E9],rf 1 L4 L5,uK,GC,Cn] [] [(0,7)]) (aA (aE [i (.callv E0 [E3,E7]),yQ,g L1 false (.mov E7),g L1 false (.una .not L2),gM L1 Vt L3] [(16,L4)]) (dp Gv .ret .skip))))))))))) IB))
def X8:az:=aA (aE [ug,fM,i (.mkfn 80 [L1] []),i (.mput L0 V1 L2),fM,i (.mkfn 199 [L4] []),i (.mput L0 fa L5),fM,i (.mkfn 91 [L7] []),i (.mput L0 fR L8),fM,i (.mkfn 200 [mw] []),i (.mput L0 lq nG),fM,i (.mkfn 106 [qO] []),i (.mput L0 jy BQ),fM,i (.mkfn 201 [AB] []),i (.mput L0 xo zL),fM,i (.mkfn 202 [PO] []),i (.mput L0 Ea Y1),fM,i (.mkfn 159 [PH] []),i (.mput L0 BA L23)] iI) (aA (aE [fM,uK,xA,B9,fT,zB] [(10,L4),(11,L5),(12,V0)]) (dZ 0 (.loop [3,4,5,6,7,8,9,13,14,15,16] o7)))
def asJ:br:=⟨17,2,.keep,[],X8⟩
def Kv:az:=aA va (aA (aE [SP (v (.fn 39 [] []))] ou) (aA (aE [eI 3 E2,cf,Be,g L2 true (.fld 3 E2),zu,g L2 true (.bin .lss L4 lq),zH,g L6 true (.fld 4 E2),g L6 true (ld L7),g L6 true (.len L8),g L6 true (.bin .geq L9 V1),gM L6 mw Vf,g nG true (.fld 4 E2),g nG true (ld vG),g nG true (.len qO),g nG true (.bin .leq BQ lq),gM nG FP Vf] [(6,AB)]) (aA (aE [LP,cf,g E6 true (.fld 4 E2),g E6 true (ld L2),g E6 true (.mov E5),g E6 true (.call 74 [L3,L4] false),g E6 true (.una .not L5),gM E6 L6 Vf] [(3,L1),(4,L7)]) .ret)))
def arV:br:=⟨7,2,.keep,[.env 3,.env 4],Kv⟩
def agS:az:=aA va (aA (aE [ct,jg,dU,gu,fT,xn,sB,ct,GC,qM L8,oV,qM mw,iZ 1 L9 nG,qM vG,nU 1 [L6,qO],dD 266 [BQ]] [(5,FP)]) (aA (aE [Bh,om,dD 92 [L1,E5]] [(3,E5),(4,L2)]) .ret))
def auK:br:=⟨6,2,.pure,[.env 3,.env 4],agS⟩
def afe:az:=aA va (aA (aE [ct,jg,dU,gu,fT,xn,sB,Bh,xd L7,ct,eI 1 L9,qM mw,gu,qM vG,iZ 1 nG qO,qM BQ,dD 92 [L8,FP]] [(3,L6),(4,AB)]) .ret)
def auI:br:=⟨5,2,.keep,[.env 3,.env 4],afe⟩
def GJ:az:=aA HR (aA UL (aA (dZ 3 (aA (aE [SF,nH,Co,pT] yU) (aA (aE [lc 2 E9,dD 267 [L0,E5],nA,nh] [(10,L2),(11,L3)]) (aE [nU 1 [oG],rf 1 E7 L0,g E6 true (.mov qN),gM E6 L2 Vf] [(7,L1),(6,L3)])))) I6))
def GN:az:=aA Iw (aA (dp Gv .skip pK) (aA (dZ 1 (aA (aE [iZ 1 s9 EU,cf] vM) (aE [iZ 1 E5 E8,cf,yM,rf 1 E7 L2] D4))) I0))
def Ka:az:=aA va (aA (aE T6 [(5,L6)]) (aA (aE [EE,cf,gq,iLq L2 fR,g L3 true (.fld 8 E2),xB,R6,g L3 true (.bin .leq L6 Ar),QD,g L8 true (.fld 7 E2),g L8 true (ld L9),YO,g L8 true (.fld 8 E2),g L8 true (ld vG),g L8 true (.len qO),g L8 true (.bin .add nG BQ),g L8 true (.bin .gtr FP V0),gM L8 AB Vf,g zL true (.fld 7 E2),QT,g zL true (.mov E5),g zL true (.call 268 [PO,Y1] false),gM zL L21 Vf] [(6,PH)]) (aA (aA (aE GS zj) (dp sN (aA (aE uj GU) .ret) .skip)) (aA (aE B5 nQ) (aA (aA (aE [EE,cf,gq] Lo) (dZ 0 (.loop [8,16] GN))) (aA (aA (aE Zt I9) (dZ 2 (.loop [9,10,11,20] GJ))) (aA (aE [] [(3,E7),(4,E6)]) .ret)))))))
def arT:br:=⟨21,2,.pure,[.env 3,.env 4],Ka⟩
def F5:az:=aA HY (aA F6 (aA (dZ 1 (aA (aE [iZ 1 oG sN,om,gh,lL] oO) (aA (aE [xd E7,ct,Es,dT,gu,wP,iZ 1 L3 L5,qM L6,dD 41 [L0,L7],EW 0 L8,EW 1 L8] [(8,L9),(9,mw)]) (aE [nU 1 [E8],rf 1 E6 L0,g E5 true (.mov E9),g E5 true (.bin .eql L2 V0),gM E5 L3 Vf] [(6,L1),(5,L4)])))) IB))
def Us:az:=aA va (aA (aE [Du,cf,gq,PN L2 V1,g L3 true (.fld 9 E2),xB,R6,g L3 true (.bin .leq L6 Cu),QD] [(5,L8)]) (aA (aE B5 lj) (aA (aA (aE Yn [(10,L1),(11,L2),(12,V0)]) (dZ 0 (.loop [7,8,9,13] F5))) (aA (aE [] [(3,E6),(4,E5)]) .ret))))
def asf:br:=⟨14,2,.pure,[.env 3,.env 4],Us⟩
def aeU:az:=aA va (aA (aE T6 [(3,L6),(4,Vt)]) .ret)
def auQ:br:=⟨5,2,.keep,[.env 3,.env 4],aeU⟩
def xl:az:=aA MJ (aA Nj (aA (dZ 1 (aA (aE [iZ 1 sN yo,cf] [(9,yo),(10,L1)]) (aA (aA (aE [LU,cf,LM] [(16,L2)]) (dp Gv (aE [LU,fI 1 L0 oG] []) .skip)) (aE [g E8 true (.mov E7),g E8 true (.mov E9),g E8 true (.idxs 1 L0 L1),g E8 true (ld L2),g E8 true (.mov oG),g E8 true (.bin .eql L3 L4),g E8 true (.mov L5),g L6 false (.mov oG),g L6 false (.bin .eql L7 V0),g E8 true (.pick L6 Vt L8),gM E8 L9 Vf] [(8,mw)])))) MZ))
def Yz:az:=aA va (aA (aE [ct,jg,dU,gu,fT,xn,sB,ct,GC,qM L8,oV,qM mw,iZ 1 L9 nG,qM vG] [(5,L6),(6,qO)]) (aA (aA (aE [vH E5,vH E6,sj L0 L1] JU) (dp qN (aA (aE uj GU) .ret) .skip)) (aA (aE [i (.call 12 [E5] true)] nQ) (aA (aE [] [(8,Vt)]) (aA (aA (aE [vH E6] [(12,E6),(13,L0),(14,V0)]) (dZ 0 (.loop [9,10,15,16] xl))) (aA (aE [] [(3,E7),(4,E8)]) .ret))))))
def asX:br:=⟨17,2,.pure,[.env 3,.env 4],Yz⟩
def Ki:az:=aA va (aA (AJ [ct,jg,dU,gu,fT,xn,sB,oX 1 Vn,QU] [(5,L7)] [(0,8),(1,8),(2,8),(3,8),(4,8),(5,8),(6,8)]) (aA (aE [i (.mkfn 203 [] [E5])] lj) (aA (aE [eI 10 E2,cf,gq,iLq L2 fR,g L3 true (.fld 10 E2),xB,g L3 true (.mov E6),g L3 true (.call 160 [L5,L6] false),g L3 true (.una .not L7),gM L3 L8 Vf,g L9 true (.fld 11 E2),g L9 true (ld mw),g L9 true (.bin .geq nG jN),gM L9 vG Vf,g qO true (.fld 11 E2),RK,g qO true (.bin .leq FP QH),gM qO AB Vf] [(7,zL)]) (aA (aE [xG,g E7 true (.mov E0),g E7 true (.nilck L1),g E7 true (.fld 1 L2),g E7 true (ld L3),g E7 true (.len L4),g E7 true (.mov E0),g E7 true (.nilck L6),g E7 true (.fld 0 L7),g E7 true (.fld 0 L8),g E7 true (ld L9),g E7 true (.len mw),g E7 true (.bin .sub nG V1),g E7 true (.bin .eql L5 vG),gM E7 qO Vf] [(3,L0),(4,BQ)]) .ret))))
def arS:br:=⟨8,2,.keep,[.env 3,.env 4],Ki⟩
def AN:az:=aA (aE [zr] BF) (aA (aE [vC,cf,LM,g L2 true (.fld 4 E1),zu,g L2 true (.len L4),g L2 true (.bin .eql L5 V0),gM L2 L6 Vf,g L7 true (.fld 5 E1),Ir,g L7 true (.una .not L9),gM L7 mw Vf,g nG true (.fld 6 E1),g nG true (.fld 0 vG),g nG true (ld qO),g nG true (.len BQ),g nG true (.bin .eql FP V0),gM nG AB Vf,g zL true (.fld 7 E1),QT,g zL true (.len PO),g zL true (.bin .eql Y1 V0),gM zL L21 Vf,g PH true (.fld 8 E1),g PH true (ld L23),g PH true (.len L24),g PH true (.bin .eql L25 V0),gM PH L26 Vf,g L27 true (.fld 9 E1),g L27 true (ld L28),g L27 true (.len L29),g L27 true (.bin .eql L30 V0),gM L27 L31 Vf,g L32 true (.fld 10 E1),g L32 true (ld L33),g L32 true (.len L34),g L32 true (.bin .eql L35 V0),gM L32 L36 Vf,g L37 true (.fld 11 E1),g L37 true (ld L38),g L37 true (.bin .eql L39 V0),gM L37 L40 Vf] [(2,L41)]) .ret)
def arz:br:=⟨3,1,.pure,[.env 2],AN⟩
def EV:az:=aA (aE [zr,ue] It) (aA (aA K4 (dZ 0 (aA Lu (dp E4 (aE [vC,Cr,Cb,RX] []) (aA No (dp E5 (aE [A4,eI 5 E1,fI 1 L1 Vf,Cp,fI 1 L3 L0] []) (aA (aE [mj E3 fR] lj) (dp E6 (aE [A4,Cp,mv] []) (aA (aE [mj E3 lq] nQ) (dp E7 (aE [CO,Lz,eI 8 E1,RX] []) (aA (aE [mj E3 jy] wS) (dp E8 (aE [eI 9 E1,Lz] []) (aA (aE [mj E3 BA] pV) (dp E9 (aE [eI 10 E1,Lz,eI 11 E1,fI 1 L2 V0] []) .skip)))))))))))))) (aA (aE [lc 12 E1,fI 12 E2 L0] []) .ret))
def arH:br:=⟨10,1,.keep,[.cell true 12 2],EV⟩
def xJ:az:=aA (aE [] [(2,V0),(3,Vf)]) (aA (aE [ct,lW,xA,dT,iZ 12 L3 E1,lc 12 L4,ue,fI 12 L6 L5] [(4,L6)]) (aA (aA (aE [D7,cf,dD 34 [L1]] pZ) (dZ 0 (aA (aE [mj E5 V0] lj) (dp E6 (aA (aE [eI 1 E4,cf,mj L1 jN,g L2 true (.fld 2 E4),zu,g L2 true (.bin .eql L4 jN),zH] [(2,E1),(3,L6)]) .ret) (aA (aE [mj E5 V1] nQ) (dp E7 (aA (aA (aE [eI 1 E4,cf,Dv E1 V1,sj L1 L2,g L3 false (.fld 2 E4),Eb,g L3 false (.bin .neq L5 jN),gM L3 Vt L6,g L7 false (.mov E1),g L7 false (.bin .eql L8 V0),gM L7 Vt L9] [(8,mw)]) (dp E8 (aA (aE [] [(2,V0),(3,Vf)]) .ret) .skip)) (aA (aE [ct,eI 2 L0,dU,eI 1 E4,fT,xn,sB] [(2,L6),(3,Vt)]) .ret)) .skip)))))) (aA (aA (aE [eI 2 E4,cf,Dv E1 V1,sj L1 L2,g L3 false (.mov E1),Mx,Hv,g L6 false (.fld 1 E4),Mm,SV,g L6 false (.nilck L9),g L6 false (.fld 2 mw),g L6 false (ld nG),g L6 false (.fld 2 E4),g L6 false (ld qO),g L6 false (.idxs 1 vG BQ),g L6 false (ld FP),g L6 false (.bin .sub AB V1),g L6 false (.bin .neq L8 zL),gM L6 Vt UX,g PO false (.fld 1 E4),g PO false (ld Y1),g PO false (.bin .lss L21 V0),gM PO Vt PH] [(9,L23)]) (dp E9 (aA (aE [] [(2,V0),(3,Vf)]) .ret) .skip)) (aA (aE [ct,eI 2 L0,dU,eI 1 E4,fT,xn,sB] [(2,L6),(3,Vt)]) .ret))))
def arv:br:=⟨10,2,.pure,[.env 2,.env 3],xJ⟩
def CM:az:=aA QW (aA RB (aA (dZ 1 (aA SJ (aA (aE [iZ 8 E0 E3,F8,iZ 8 E1 E3,lc 8 L2,i (.eqa true [0,0,0,0,0,0,0,2] L1 L3)] [(8,L4)]) MN))) Qq))
def Ti:az:=aA kP (aA Nv (aA (aA P6 (dZ 0 (.loop [2,3,7,8] CM))) BK))
def ase:br:=⟨9,2,.pure,[.env 2],Ti⟩
def pW:az:=aA (aA (aE [fM,iLt L0,rp E2 L1] uM) p5) (dZ 1 (aA (aA (aE [fM,i (.idxt L0 E2),dD 23 [v (.str [32,9,10,13]),L1],PN L2 V0] D4) (dp E7 (aA Sx (.exit 1)) .skip)) (aA (aE [fM,i (.slicet L0 (some E2) none),dD 55 [L1],li,ly,Oy,El,fI 4 L6 L3] [(3,L6),(4,L4),(5,L5)]) (aA (aE [Ep,fI 1 L0 E2] []) (aA (aA (aE [lc 4 E3,i (.callv E0 [L0,E5]),wU,Ud,g L2 false (.una .not L3),Mc] [(8,L5)]) (dp E8 pK .skip)) (aE [ws E2 E4] iI))))))
def abg:az:=.scope (aA mi (dZ 0 (.loop [3,4,5,6,7,8] pW)))
def atd:br:=⟨9,2,.keep,[],abg⟩
def afT:az:=aA mi (aA (aE [dD 24 [E0,E1]] iI) .ret)
def aue:br:=⟨3,2,.pure,[.env 2],afT⟩
def px:az:=aA (aE [ul,El] [(1,L0),(2,L1),(3,V0),(4,Vf)]) (aA (aA (aE [fM,i (.idxt L0 V0),mj L1 Mb] [(14,L2)]) (dp yo (aA (aE [fM,dD 204 [L0],nA,nh,D2] [(5,L2),(6,L3),(7,L4)]) (aA (aE [oY [n0,n0,.str [],.int .u64 0] [(0,1,lq),(2,1,E5)],Av] [(3,E6),(4,E7)]) .ret)) .skip)) (aA (aA (aE [fM,dD 56 [L0]] vM) (aA (aE [Gg E8 V0] xI) (dp EU (aA (aE [fM,i (.slicet L0 none (some E8))] [(9,L1)]) (aA (aA (aE [dD 65 [E9],D1,LF] [(10,L1),(11,L2)]) (aA (aE [] [(16,qN)]) (dp Gv (aA (aE [oY [n0,n0,.str [],.int .u64 0] [(0,1,fR),(3,1,oG)],Av] [(3,E8),(4,Vt)]) .ret) .skip))) (aA (aA (aE [dD 8 [E9]] zj) (aA (aE [dD 9 [sN]] Fe) (dp Kb (aA (aE [oY [n0,n0,.str [],.int .u64 0] [(0,1,V1),(2,1,sN)],Av] [(3,E8),(4,Vt)]) .ret) .skip))) (aA (aE [oY [n0,n0,.str [],.int .u64 0] [(0,1,fa),(2,1,E9)],dD 11 [E9],Av] [(3,E8),(4,L1)]) .ret)))) .skip))) (aA (aE [i (.aslice 14 Ub),i (.mkfn 60 [] [E1]),dD 163 [L0,L1]] [(13,L2)]) (aA (aA (aE [rp s9 V0] [(18,L0)]) (dp RL (aA (aE [Y7,Av] [(3,V0),(4,Vf)]) .ret) .skip)) (aA (AJ [U1,cf,oY [n0,n0,.str [],.int .u64 0] [(0,1,jy),(2,1,L1)],U1,fT,iLt L4,fI 4 E2 L2] [(3,L5),(4,Vt)] [(3,7),(4,7)]) .ret)))))
def aru:br:=⟨19,1,.pure,[.cell true 4 2,.env 3,.env 4],px⟩
def afg:az:=aA mu (aA (aE [ug,i (.mputk [] L0 (v (.str [79,82])) FZ),i (.mkfn 110 [E0] []),Tj] sw) .ret)
def auz:br:=⟨2,1,.trunc,[.env 1],afg⟩
def Yd:az:=aA Ro (aA (aA (aE [BH,dD 90 [L0],nA,nh] sx) (aA (aE [EF] jc) (dp E4 (aA (aE [] [(2,v (.int .i64 180))]) .ret) .skip))) Dx)
def arq:br:=⟨5,1,.pure,[.env 2],Yd⟩
def afl:az:=aA (aE [pq,oX 1 E2] [(3,L0),(4,L1),(5,V0),(6,Vf)]) (aA (aE [i (.mkfn 22 [] [E3,E4]),dD 37 [E0,L0]] xu) (aA (aE [i (.maxs E7 [V0]),PN E7 V0] [(5,L0),(6,L1)]) .ret))
def auF:br:=⟨8,3,.pure,[.env 5,.env 6],afl⟩
def agU:az:=aA (aE DE GU) (aA (AJ [fM,lc 3 E3,CV,qM E2,mj L2 L3] [(4,L4)] [(3,0)]) .ret)
def aux:br:=⟨5,3,.pure,[.env 4],agU⟩
def agK:az:=aA kP (aA (aE [dD 116 [E0,E1],yX] oU) .ret)
def atB:br:=⟨3,2,.pure,[.env 2],agK⟩
def amk:az:=aA (aE Cg BF) (aA (aE [BH,dD 89 [L0],LR] rh) .ret)
def atr:br:=⟨3,1,.pure,[.env 2],amk⟩
def agl:az:=aA (aE Cg [(2,L0),(3,V0),(4,Vf)]) (aA (aE [gL,cf,dD 50 [L1,v (.fn 13 [] []),E1],li,ly] [(3,L3),(4,L4)]) .ret)
def atn:br:=⟨5,2,.pure,[.env 3,.env 4],agl⟩
def ahR:az:=aA (aE Ae [(1,L0),(2,ku)]) (aA (aA (aE [zh,cf,mj L1 ku] wG) (dp E3 Ql .skip)) (aA (aE [zh,cf] oU) .ret))
def asZ:br:=⟨4,1,.pure,[.env 2],ahR⟩
def apQ:az:=aA (aE [] [(0,v .nilm)]) (aA (aE [ug,i (.mput L0 fR V1),i (.mput L0 BA fa),i (.mput L0 (v (.int .i64 9)) fR),i (.mput L0 EB lq),i (.mput L0 Li jy)] [(0,L0)]) .ret)
def au6:br:=⟨1,0,.pure,[.env 0],apQ⟩
def akd:az:=aA Nw (aA (aE [gL,lW,dU,i (.mkfn 157 [] [E1]),dD 155 [L2,L3]] D5) .ret)
def atl:br:=⟨4,2,.pure,[.env 3],akd⟩
def aew:az:=aA kP (aA (aE [dD 156 [E0,E1],yX] oU) .ret)
def auc:br:=⟨3,2,.pure,[.env 2],aew⟩
def ain:az:=aA (aE [oX 9 E0] NI) (aA (aE [fM,gL,dU,TE,Gg L3 V0] D5) .ret)
def asQ:br:=⟨4,2,.pure,[.env 3],ain⟩
def ae0:az:=aA kP (aA (aE [dD 153 [E0,E1],yX] oU) .ret)
def atA:br:=⟨3,2,.pure,[.env 2],ae0⟩
def w9:az:=aA G4 (aA Jh (aA (dZ 1 (aA (aE [iZ 1 E9 qN,om,gh,lL] pZ) (aA (aE [Bb,Gw] sq) (aA (aE xU BG) (dp s9 (aA (aE Ed [(4,E6)]) .ret) .skip))))) HJ))
def JK:az:=aA (aE Gx Ih) (aA (aA (aE Bo [(9,E1),(10,L0),(11,V0)]) (dZ 0 (.loop [4,5,6,12,13] w9))) (aA (aE [lc 8 E2,dD 84 [L0,E1],gh,lL] oO) (aA (aA (aE [xd E7,Gw] vM) (aA (aE Ht yt) (dp yo (aA (aE Ed [(4,E8)]) .ret) .skip))) (aA (aE [xd E7,K6] [(4,V0)]) .ret))))
def arU:br:=⟨15,2,.pure,[.cell true 1 3,.env 4],JK⟩
def agW:az:=aA (aE Gx Nd) (aA (aE [lc 8 E1,dD 101 [L0],nA,nh,GE] sx) .ret)
def aub:br:=⟨4,1,.pure,[.cell true 1 2,.env 3],agW⟩
def afJ:az:=aA vV (aA (aA (aE [] [(3,E0)]) (dp E3 (aA (aE [fM,uK,eI 23 L1,dT] vL) .ret) .skip)) (aA (aE [fM,uK,eI 22 L1,dT] vL) .ret))
def atT:br:=⟨4,2,.keep,[.env 2],afJ⟩
def pY:az:=aA (aE [rp E29 fa] [(30,L0)]) (aA (dp E30 .skip pK) (aA (dZ 1 (aA (aE [i (.idxv false 2 1 E28 E29)] xI) (aA (aA (aE [rp EU V0] [(31,L0)]) (dp E31 pK .skip)) (aA (aE [qM E6,g E1 true (.mov s9),g E1 true (.bin .eql L1 V0),gM E1 L2 Vf,i (.callv L0 [EU,L3]),uo,uN,gh,F1] [(16,L7),(17,L6)]) (aA (aA (aE [sj Kb V0] [(32,L0)]) (dp E32 (aA (aE [xd Gv,Gi] [(9,Kb)]) .ret) .skip)) (aE [xd Gv,Ck,rf 1 yo L1] [(14,L2)])))))) (aE [ws E29 V1] [(29,L0)])))
def Cs:az:=aA (aE BB [(8,L0),(9,V0)]) (aA (aE Tb [(10,L4)]) (aA (aA (aE [wJ,cf,G0] [(23,L2)]) Tp) (aA (aA (aE [wJ,cf,Gs] [(24,L2)]) TP) (aA (aE Tt [(13,L3)]) (aA (aE B5 yt) (aA (aA (aE [eI 1 oG,cf,eI 2 oG,dT,oY [n0,n0] [(0,1,L1),(1,1,L3)]] [(28,L4),(29,V0)]) (dZ 0 (.loop [9999,9,15,16,17,30,31,32] pY))) (aA (dZ 2 (aA (aE [Gg s9 V0,g L0 true (.mov E1),Mk,qY] [(33,L3)]) (dp E33 (aA (aE B2 [(9,v (.int .i64 224))]) .ret) (aA (aE [Gg s9 V0] [(34,L0)]) (dp E34 (aA (aE [oY [n0,.ai] [(0,1,s9)],Co,zw] [(18,L1)]) (aA (aA (aE [vH yo,Gg L0 V0] [(35,L1)]) (dp E35 (aE [GB,om,eI 1 RL,lL] []) .skip)) (aA (aE [qM E4,lc 2 RL,dD 205 [L0,L1],li,ly] [(19,L3),(20,L4)]) (aA (aA (aE [sj E20 V0] [(36,L0)]) (dp E36 (aA (aE B2 [(9,E20)]) .ret) .skip)) (aA (aE [qM E3,oY [n0,n0,n0,n0,n0,n0,.int .u64 0,.str []] [(0,1,fa),(3,1,PK)],CV,li,ly,fI 1 E8 L3] [(9,L4)]) .ret))))) .skip))))) (aA (AJ Tl [(21,L7),(22,L6)] [(0,8),(1,8),(2,8),(3,8),(4,8)]) (aA (aA (aE [vH yo,mj L0 fa] [(37,L1)]) T5) (aA (aA (aE [mj NF V0] [(38,L0)]) Va) (aA (aE [xd PJ,Gi] [(9,NF)]) .ret)))))))))))
def arw:br:=⟨39,8,.keep,[.cell true 1 8,.env 9],Cs⟩
def s7:az:=aA pb (aA p5 (aA (dZ 1 (aA sV (aA (aE [yJ,cf,mj E1 L1] oO) sW))) sr))
def aaX:az:=aA mi (aA (aA o8 (dZ 0 (.loop [2,3,6,7] s7))) o9)
def asm:br:=⟨8,2,.pure,[.env 2],aaX⟩
def apg:az:=aA (aE C7 DI) (aA (aE [] [(5,fa)]) (aA (aA (aE [gL,cf,sj L1 V1] yU) SN) (aA (aE SY [(8,L5)]) (aA (aA (aE [rp E8 V0] zj) Vm) (aA (aA (aE [ct,pn,xq,dT,sA,Gg L4 Ar] [(13,L5)]) T3) (aA (aE SZ [(3,L5),(4,V0)]) .ret))))))
def arD:br:=⟨14,2,.keep,[.env 3,.env 4],apg⟩
def afX:az:=aA (aE [pq,gh] Ih) (aA (aE [Vb,rT,yM,dD 83 [L0,L2],HG,Je,fI 1 E3 L4] [(4,L5)]) .ret)
def atV:br:=⟨5,2,.pure,[.cell true 1 3,.env 4],afX⟩
def agd:az:=aA (aE [pq,oX 1 E2,gh] [(3,L0),(4,L1),(5,L2),(6,V0)]) (aA (aE [Vb,vO,AF,nU 1 [L1,L2],dD 83 [L0,L3],uo,uN,fI 1 E5 L5] [(6,L6)]) .ret)
def auD:br:=⟨7,3,.pure,[.cell true 1 5,.env 6],agd⟩
def xz:az:=aA adH (aA Tz (aA (dZ 3 (aA (aE [iZ 1 PK PJ,cf] [(12,PJ),(13,L1)]) (AJ [iZ 1 E4 s9,cf,i (.mins qN [L1]),iIa 2 1 oG sN,fI 1 L3 s9] JU [(0,5),(1,5)]))) UH))
def ju:az:=aA (aE [rp Gv EU] Fe) (aA (dp Kb .skip pK) (aA (dZ 1 (aA (aE [iZ 8 yo Gv,F8,MQ,MW] [(7,L2),(6,Gv)]) (aA (aE [zl,cf,dD 2 [L1]] [(8,L2)]) (aA (aA (aE [rp E8 V0,Ue,UK,MD,Tn,M9,g L5 false (.load true 8 E7),g L5 false (.call 7 [L6] false),Ve,gM L5 Vt L8] [(18,L9)]) Uu) (aA (aE [vH E5,Dv L0 E8,i (.slice 1 E5 (some L1) none)] yU) (aA (aE Uw Hq) (aA (aE [] [(11,E6)]) (aA (aA (aE [vH E9] [(19,E9),(20,L0),(21,V0)]) (dZ 2 (.loop [12,13,22] xz))) (aA (aA (aE [lc 2 oG,eI 1 E7,dU,eI 2 E7,fT,oY [n0,n0] [(0,1,L2),(1,1,L4)],i (.eqa true [0,0] L0 L5)] [(23,L6)]) (dp E23 Lg .skip)) (aA (aE [nU 1 [qN],rf 1 E4 L0] yu) (aE [vH E5,Dv L0 E8,i (.slice 1 E5 none (some L1)),nU 1 [E6],rf 1 L2 L3] [(5,L4)]))))))))))) (aE [ws Gv V1] Fj)))
def U2:az:=aA (aE DT [(1,L0),(2,L1),(3,Vf)]) (aA (aE [iMn 1,iMn 1] [(4,L0),(5,L1)]) (aA (aA (aE Dp [(14,L1),(15,L2),(16,V0)]) (dZ 0 (.loop [2,3,6,7,8,9,10,11,12,13,17,18,19,20,21,22,23] ju))) (aA (aE [vH E5,mj L0 V1,g L1 true (.mov E4),g L1 true (.len L2),g L1 true (.bin .leq L3 (v (.int .i64 1000))),RM] [(2,E4),(3,L5)]) .ret)))
def ar9:br:=⟨24,1,.pure,[.env 2,.env 3],U2⟩
def agY:az:=aA vV (aA (aE [fM,fM,gq,Dv L2 E0,i (.slice 1 L0 (some L3) none),Sj] [(3,L5)]) (aA (aE [fM,fM,gq,Dv L2 E0,i (.slice 1 L0 none (some L3)),fI 1 E1 L4] []) Mi))
def atF:br:=⟨4,2,.keep,[.env 2],agY⟩
def Fo:az:=aA p6 (aA (dZ 0 (aA (aE [mj E0 V1,rF,UW,AG] vL) (dp E2 zK (aA (aE [PN E0 lq,yI,g L0 true (.bin .leq L1 Ea),qY] sx) (dp E3 ME (aA (aE [PN E0 Ar,yI,g L0 true (.bin .leq L1 FZ),qY] [(4,L3)]) Ux)))))) (aA (aE [] [(1,jN)]) .ret))
def arG:br:=⟨5,1,.pure,[.env 1],Fo⟩
def ail:az:=aA (aE DT Ih) (aA (aA (aE SM wT) (aA (aE [sj E5 V0] lj) (dp E6 (aA (aE uj [(3,L0),(4,E5)]) .ret) .skip))) (aA (aA (aE [i (.mkfn 176 [] [E2]),dD 74 [E1,L0]] xu) (dp E7 (aA (aE uj [(3,L0),(4,lq)]) .ret) .skip)) (aA (aE [rT,dD 177 [L0,E1]] [(3,L1),(4,V0)]) .ret)))
def asR:br:=⟨8,2,.pure,[.env 3,.env 4],ail⟩
def aff:az:=aA (aE [zr,gh] Nd) (aA (aE [lc 12 E1,dD 104 [L0,Vn],nA,nh,GE] sx) .ret)
def atH:br:=⟨4,1,.pure,[.cell true 1 2,.env 3],aff⟩
def afc:az:=aA nR (aA (aE [dD 40 [E0],yQ] uE) .ret)
def auf:br:=⟨2,1,.pure,[.env 1],afc⟩
def afn:az:=aA nR (aA (aE [mj E0 V1,rF,UW,AG,Sd,g L3 false (.bin .eql L4 fR),Hv] [(1,L6)]) .ret)
def atN:br:=⟨2,1,.pure,[.env 1],afn⟩
def agn:az:=aA kP (aA (aE [dD 75 [E0,E1],yX] oU) .ret)
def aul:br:=⟨3,2,.pure,[.env 2],agn⟩
def vj:az:=aA Mw (aA QB (aA (dZ 3 (aA (aE [iZ 1 qN s9,cf] wT) (aE [rf 1 E4 E5] jc))) Mo))
def Gm:az:=aA yA (aA yV (aA (dZ 1 (aA (aE [iZ 1 E6 E8,cf] wV) (aA (aE [vH E3,ws E2 L0] oU) (aA (aE [rp E2 V0] vJ) (dp oG (aE [i .bad,i .bad] []) .skip))))) xk))
def aaf:az:=aA mu (aA mi (aA (aA Sl (dZ 0 (.loop [3,9,10] Gm))) (aA (aE [dD 271 [Vn,E2]] jc) (aA (aA (aE DR [(11,E0),(12,L0),(13,V0)]) (dZ 2 (.loop [5,14] vj))) KZ))))
def as7:br:=⟨15,1,.pure,[.env 1],aaf⟩
def afZ:az:=aA YW (aA (aE [rT,dD 41 [L0,E1],nA,nh] [(4,L2),(5,L3)]) (aA (aE [mj E5 V0,Sy,g L0 true (.bin .eql L1 V1),g L0 true (.mov L2),g L3 false (.mov E4),Mx,U8,RD] [(3,L7)]) .ret))
def aus:br:=⟨6,2,.pure,[.env 3],afZ⟩
def afB:az:=aA (aE [pq] NI) (aA (aE [i (.mkfn 272 [] [E2]),dD 74 [E0,L0],wU] wG) .ret)
def atj:br:=⟨4,2,.pure,[.env 3],afB⟩
def JS:az:=aA (aE Ae [(2,L0),(3,V0),(4,Vf)]) (aA (aA (aE [gL,cf,G0] oO) (dp E7 (aA (aE [gu,lW,dU,A8,mj L3 V0] [(3,fa),(4,L4)]) .ret) .skip)) (aA (aE [gu,om,dD 41 [L1,E1],li,ly] [(5,L3),(6,L4)]) (aA (aA (aE [gL,cf] vM) (dZ 0 (aA (aE [mj E8 fa] pV) (dp E9 (aA (aE FW [(3,fa),(4,L0)]) .ret) (aA (aE [mj E8 fR] vJ) (dp oG (aA (aE [mj E6 V0,g L0 true (.mov E5),g L0 true (.bin .eql L1 fa),g L0 true (.mov L2),g L3 false (.mov E5),Mx,U8,RD] [(3,fa),(4,L7)]) .ret) (aA (aA (aE [mj E8 lq] xR) (dp qN .skip (aE [mj E8 jy] xR))) (dp qN (aA (aE FW [(3,E5),(4,L0)]) .ret) .skip)))))))) (aA (aE [] [(3,V0),(4,Vf)]) .ret))))
def arQ:br:=⟨12,2,.pure,[.env 3,.env 4],JS⟩
def agD:az:=aA Nw (aA (aE [gL,cf,rp L1 V0,UR,Iy,g L2 false (ld E1),ZC,g L2 false (.bin .geq L4 L6),gM L2 Vt L7] [(3,L8)]) .ret)
def atx:br:=⟨4,2,.pure,[.env 3],agD⟩
def agy:az:=aA kP (aA (aE [dD 161 [E0,E1],yX] oU) .ret)
def auH:br:=⟨3,2,.pure,[.env 2],agy⟩
def aeI:az:=aA p6 (aA (aA (aE [] [(2,E0)]) (dZ 0 (aA (aE [mj E2 V1] kx) (dp E3 zK (aA (aA (aE [mj E2 fa] jc) (dp E4 .skip (aE [mj E2 Ea] jc))) Ux))))) ME)
def auq:br:=⟨5,1,.pure,[.env 1],aeI⟩
def afM:az:=aA mi (aA (aE [dD 25 [E0,E1]] iI) .ret)
def auG:br:=⟨3,2,.pure,[.env 2],afM⟩
def lX:az:=aA (aA (aE [yr,rp E5 L0] sq) p5) (aA (dZ 1 (dZ 2 (aA (aE [i (.idxt E0 E5),sj L0 Mb] xu) (dp E7 (aE [i (.idxt E0 E5),Ck,rf 1 E4 L1] pz) (aA (aE [MR,yr,rp L0 L1,g L2 true (.mov E0),g L2 true (.mov E5),g L2 true (.bin .add L4 V1),g L2 true (.idxt L3 L5),g L2 true (.bin .eql L6 Mb),gM L2 L7 Vf] [(8,L8)]) (dp E8 (aA (aE [i (.idxt E0 E5),Ck,rf 1 E4 L1] pz) sr) (aA (aE [i (.b2s E4),MR,i (.b2s E4),dD 279 [L2]] [(1,L0),(2,L1),(3,L3)]) .ret))))))) sr)
def Zg:az:=aA (aE [] [(1,ku),(2,V0),(3,Vf)]) (aA Qe (aA (aA (aE [] [(5,V1)]) (dZ 0 (.loop [1,2,3,6,7,8] lX))) (aA (aE [] [(1,ku),(2,V0),(3,Vf)]) .ret)))
def asA:br:=⟨9,1,.pure,[.env 1,.env 2,.env 3],Zg⟩
def Xu:az:=aA p6 (aA (aA (aE [dD 57 [E0,v (.fn 14 [] [])]] iI) (aA (aE [PN E2 V0] kx) (dp E3 DG .skip))) (aA (aE [yr] md) .ret))
def ath:br:=⟨4,1,.pure,[.env 1],Xu⟩
def sT:az:=aA pb (aA p5 (aA (dZ 1 (aA sV (aA (aE [yJ,cf,wH] oO) sW))) sr))
def abD:az:=aA mi (aA (aA o8 (dZ 0 (.loop [2,3,6,7] sT))) o9)
def atf:br:=⟨8,2,.pure,[.env 2],abD⟩
def afv:az:=aA kP (aA (aE [fM,dD 61 [L0,E0]] oU) .ret)
def auU:br:=⟨3,2,.pure,[.env 2],afv⟩
def agB:az:=aA kP (aA (aE [dD 62 [E0,E1]] iI) .ret)
def auT:br:=⟨3,2,.pure,[.env 2],agB⟩
def zV:az:=dZ 1 (aA (aA (aE [dD 4 [E0,E1,Vn],yQ] vM) (dp E8 (aA (aE [] [(4,E5)]) .ret) .skip)) (aA (aE [ct,lW,dU,Lq,LX,wP,i (.lookk [] (.int .i64 0) true E2 L5),Bg,A9] [(6,L7),(7,L8)]) (aA (aA (aE [i (.una .not E7)] pV) (dp E9 (aA (aE [] [(4,E5)]) .ret) .skip)) (aA A7 (aE [i (.callv E3 []),nU 1 [E5,L0],dD 165 [E6,L1]] pZ)))))
def afP:az:=aA (aE uj jc) (aA (aE [i (.callv E3 [])] ou) (dZ 0 (.loop [4,6,7,8,9] zV)))
def atw:br:=⟨10,4,.trunc,[.env 4],afP⟩
def agm:az:=aA mu (aA (aE [ug,i (.mputk [] L0 (v (.str [65,78,68])) (v (.int .i64 22))),i (.mkfn 111 [E0] []),Tj] sw) .ret)
def aty:br:=⟨2,1,.trunc,[.env 1],agm⟩
def IC:az:=aA adH (aA Tz (aA (dZ 3 (aA (aE [iZ 1 PK PJ,cf] [(12,L1)]) (AJ [eI 0 qN,cf,iZ 2 E4 sN,B9,fT,i (.mins L1 [L4]),eI 1 qN,qM L6,iZ 2 E4 sN,eI 1 L8,qM L9,ws mw V1,i (.maxs L7 [nG]),eI 0 qN,fI 1 qO L5,eI 1 qN,fI 1 FP vG] [] [(8,15),(9,15),(10,15)]))) UH))
def fU:az:=aA Iw (aA (dp Gv .skip pK) (aA (dZ 1 (aA (aE Ur [(7,L2),(6,EU)]) (aA (aE [zl,cf,dD 66 [L1]] [(8,L2)]) (aA (aA (aE [rp E8 V0,Ue,UK,MD,Tn,M9,g L5 false (.load true 9 E7),g L5 false (.call 67 [L6] false),Ve,gM L5 Vt L8] [(17,L9)]) (dp Kb Lg .skip)) (aA (aE [vH E5,Dv L0 E8,i (.slice 1 E5 (some L1) none)] yU) (aA (aE [i (.mksl 1 [jN,jN])] vJ) (aA (aE [i (.copy 1 oG E9)] []) (aA (aA (aE [eI 1 E7,cf,iZ 1 oG V0,dT,sj L1 L3,g L4 false (.fld 2 E7),g L4 false (ld L5),g L4 false (.mov oG),g L4 false (.idxs 1 L7 V1),g L4 false (ld L8),g L4 false (.bin .neq L6 L9),gM L4 Vt mw] [(18,nG)]) Uu) (aA (aE [oY [n0,n0] [(0,1,E6),(1,1,V1)],oX 2 (v (.agg [n0,n0])),zw] [(11,L1)]) (aA (aA (aE [vH E9] [(19,E9),(20,L0),(21,V0)]) (dZ 2 (.loop [12,22] IC))) (aA (aE [lc 2 qN,nU 2 [L0],rf 2 E4 L1] pz) (aE [vH E5,Dv L0 E8,i (.slice 1 E5 none (some L1)),nU 1 [E6],rf 1 L2 L3] [(5,L4)])))))))))))) I0))
def YZ:az:=aA (aE DT [(1,L0),(2,L1),(3,Vf)]) (aA (aE [iMn 2] jc) (aA (aE B5 ou) (aA (aA (aE Dp Lo) (dZ 0 (.loop [2,3,6,7,8,9,10,11,12,16,17,18,19,20,21,22] fU))) (aA (aE [vH E5,mj L0 V1,g L1 true (.mov E4),g L1 true (.len L2),g L1 true (.bin .leq L3 (v (.int .i64 300))),RM,g L5 true (.mov E4),g L5 true (.mov E4),g L5 true (.len L7),g L5 true (.bin .sub L8 V1),g L5 true (.idxs 2 L6 L9),g L5 true (.fld 1 mw),g L5 true (ld nG),g L5 true (.bin .leq vG (v (.int .i64 20))),gM L5 qO Vf] [(2,E4),(3,BQ)]) .ret))))
def arp:br:=⟨23,1,.pure,[.env 2,.env 3],YZ⟩
def sZ:az:=aA pb Gz
def abh:az:=aA mi (aA (aA o8 (dZ 0 (.loop [2,3,6,7] sZ))) o9)
def ati:br:=⟨8,2,.pure,[.env 2],abh⟩
def af1:az:=aA (aE Ae GU) (aA (AJ [fM,lc 2 E3,CV,qM E2,mj L2 L3] [(4,L4)] [(3,0)]) .ret)
def auu:br:=⟨5,3,.pure,[.env 4],af1⟩
def td:az:=aA pb (aA p5 (aA (dZ 1 (aA sV (aA (aE [yJ,om,wH] oO) sW))) sr))
def abF:az:=aA mi (aA (aA o8 (dZ 0 (.loop [2,3,6,7] td))) o9)
def asp:br:=⟨8,2,.pure,[.env 2],abF⟩
def sR:az:=aA pb (aA p5 (aA (dZ 1 (aA sV (aA (aE [iZ 9 E0 E3,VJ,wH] oO) sW))) sr))
def Yv:az:=aA mi (aA (aA o8 (dZ 0 (.loop [2,3,6,7] sR))) o9)
def asH:br:=⟨8,2,.pure,[.env 2],Yv⟩
def ta:az:=aA pb Gz
def abv:az:=aA mi (aA (aA o8 (dZ 0 (.loop [2,3,6,7] ta))) o9)
def asV:br:=⟨8,2,.pure,[.env 2],abv⟩
def Cw:az:=aA Mf (aA Nh (aA (dZ 1 (aA (aE TZ [(7,L2),(6,oG)]) (aA (aE [xd E7,dD 102 [E4,L0]] yu) (aE [vH E4,Dv L0 V1,iIa 2 1 E5 E6,lL] [])))) Lv))
def agt:az:=aA (aE Gx LI) (aA (aE [iMn 8] jc) (aA (aE Uw wT) (aA (aA (aE Bo [(8,E1),(9,L0),(10,V0)]) (dZ 0 (.loop [6,7,11] Cw))) (aA (AJ [iIa 2 1 E5 V0,cf,iIa 2 1 E5 V1,dT,gu,Rm,oV,fI 1 L6 L3] [] [(2,6),(3,6)]) (aA (aE [lc 8 E2,nU 8 [L0],rf 8 E4 L1,Zk,fI 1 E3 L3] []) .ret)))))
def auw:br:=⟨12,2,.pure,[.cell true 1 3],agt⟩
def tp:az:=aA pb Gz
def aaz:az:=aA mi (aA (aA o8 (dZ 0 (.loop [2,3,6,7] tp))) o9)
def asE:br:=⟨8,2,.pure,[.env 2],aaz⟩
def ajr:az:=aA Nw (aA (aE [gL,cf,uc,dT,mj L1 L3,Rj,g L4 true (lt L5),g L4 true (.fld 1 E1),g L4 true (lt L7),Uc,Na] [(3,mw)]) .ret)
def atc:br:=⟨4,2,.pure,[.env 3],ajr⟩
def Vg:az:=aA (aE [oX 8 E0] BF) (aA (aA K4 (dZ 0 (aA Lu (dp E4 (aA (aE [Cb,C2,dD 26 [L1],g L2 true (.fld 3 E1),zu,g L2 true (.bin .eql L4 V0),zH] zU) .ret) (aA No (dp E5 (aA (aE [Cb,C2,GD,UE,U9,xB,g L3 true (.bin .geq L5 V0),DD,g L7 true (.fld 3 E1),Ir,g L7 true (.bin .lss L9 Cu),gM L7 mw Vf] [(2,nG)]) .ret) .skip)))))) (aA (aE [Cb,C2,GD,UE,U9,xB,g L3 true (.bin .eql L5 V0),DD] [(2,L7)]) .ret))
def ar8:br:=⟨6,1,.pure,[.env 2],Vg⟩
def al8:az:=aA kP (aA (aE [rp E0 V0,rF,aai,P5,RY,ZU,LZ] zU) .ret)
def auB:br:=⟨3,2,.pure,[.env 2],al8⟩
def HV:az:=aA Mw (aA QB (aA (dZ 3 (aA (aE LB uM) (aE [eI 1 E6,cf,yM,rf 1 E4 L2] [(4,L3)]))) Mo))
def K0:az:=aA DK (aA Bs (aA (dZ 1 (aA (aE [LU,cf] wT) (aA (aE [gL,cf,iZ 3 L1 E5,eI 1 L2,fT,zB] [(11,L4),(12,L5),(13,V0)]) (dZ 2 (.loop [6,14] HV))))) yB))
def aob:az:=aA (aE DT LI) (aA Qe (aA (aA (aE Bo [(7,E1),(8,L0),(9,V0)]) (dZ 0 (.loop [5,6,10,11,12,13,14] K0))) HO))
def auS:br:=⟨15,2,.pure,[.env 3],aob⟩
def tc:az:=aA pb (aA p5 (aA (dZ 1 (aA sV (aA (aE [yJ,cf,wH] oO) sW))) sr))
def aaI:az:=aA mi (aA (aA o8 (dZ 0 (.loop [2,3,6,7] tc))) o9)
def asK:br:=⟨8,2,.pure,[.env 2],aaI⟩
def aap:az:=aA vV (aA (aA (aE [rp E1 V0] kx) (dp E3 (aE [i .bad,i .bad] []) .skip)) (aA (aA (aE [i (.cap E0),vQ,Dv L0 L1,Dv E1 L2] sw) (aA (aE [Gg E1 V0] jc) (dp E4 (aE [i (.cap E0),i (.slice 1 E0 none (some L0)),i (.appz 1 (.int .i64 0) L1 E1),vQ,i (.slice 1 L2 none (some L3))] [(0,L4)]) .skip))) (aA (aE [] [(2,E0)]) .ret)))
def asU:br:=⟨5,2,.keep,[.env 2],aap⟩
def agL:az:=aA kP (aA (aE [rp E0 V0,rF,g L0 false (ld E1),MD,g L0 false (.bin .geq L1 L3),M9] [(2,L5)]) .ret)
def atz:br:=⟨3,2,.pure,[.env 2],agL⟩
def tD:az:=aA pb Gz
def W8:az:=aA mi (aA (aA o8 (dZ 0 (.loop [2,3,6,7] tD))) o9)
def asv:br:=⟨8,2,.pure,[.env 2],W8⟩
def ahj:az:=aA nR (aA (aE [SP (v (.fn 282 [] []))] iI) (aA (aE [yr,iLq L0 (v (.int .i64 40)),g L1 true (.mov E0),g L1 true (.mov E2),g L1 true (.call 57 [L2,L3] false),g L1 true (.bin .lss L4 V0),gM L1 L5 Vf] [(1,L6)]) .ret))
def auh:br:=⟨3,1,.pure,[.env 1],ahj⟩
def aeK:az:=aA mi (aA (aE [dD 58 [E0,E1,Vt]] iI) .ret)
def auV:br:=⟨3,2,.pure,[.env 2],aeK⟩
def afO:az:=aA nR (aA (aE [dD 15 [E0],yQ] uE) .ret)
def ats:br:=⟨2,1,.pure,[.env 1],afO⟩
def ae5:az:=aA nR (aA (aE [dD 3 [E0],rF,g L0 false (.call 1 [L1] false),AG,Sd,g L3 false (.call 19 [L4] false),Hv,SV,g L6 false (.bin .eql L7 (v (.int .i32 95))),gM L6 Vt L8] [(1,L9)]) .ret)
def atS:br:=⟨2,1,.pure,[.env 1],ae5⟩
def Yw:az:=aA kP (aA (aE [yr,iLt E1,PN L0 L1,g L2 true (.mov E0),g L2 true (.mov E1),g L2 true (.lent L4),g L2 true (.slicet L3 none (some L5)),g L2 true (.mov E1),g L2 true (.bin .eql L6 L7),gM L2 L8 Vf] [(2,L9)]) .ret)
def as0:br:=⟨3,2,.pure,[.env 2],Yw⟩
def CQ:az:=aA Iw (aA Sq (aA (dZ 3 (aA (aE Ur [(8,L2)]) (aA (aA (aE [eI 1 E8,cf,Be] [(17,L2)]) (dp Kb (aE [eI 1 E8,cf,ws L1 E7,eI 1 E8,yN] []) .skip)) (aA (aA (aE [eI 2 E8,cf,Be] [(18,L2)]) (dp RL (aE [eI 2 E8,cf,ws L1 E7,eI 2 E8,yN] []) .skip)) (aE [lc 9 E8,nU 9 [L0],rf 9 E4 L1] pz))))) I0))
def BY:az:=aA G4 (aA Jh (aA (dZ 1 (aA (aE [iZ 1 E9 qN,cf] [(5,qN),(6,L1)]) (aA (aE [vH E4] nQ) (aA (aA (aE [vH E6] [(13,E6),(14,L0),(15,V0)]) (dZ 2 (.loop [8,16,17,18] CQ))) (aA (aE [mj E5 V0] [(19,L0)]) (dp PK (aE [vH E4,Dv L0 V1,Ep,lL] []) (aE [vH E4,Dv L0 V1,eI 2 E3,lL] []))))))) HJ))
def afa:az:=aA vV (aA (aE [oY [n0,n0,n0,n0,n0,.int .u64 0,.str [],.str [],.str []] [(0,1,E0),(1,1,jN),(2,1,jN)],MC,fI 9 L1 L0] wV) (aA (aE [iMn 9] jc) (aA (aA (aE Bo [(9,E1),(10,L0),(11,V0)]) (dZ 0 (.loop [5,6,7,8,12,13,14,15,16,17,18,19] BY))) (aA (aE [lc 9 E3,nU 9 [L0],rf 9 E4 L1] rh) .ret))))
def atm:br:=⟨20,2,.pure,[.env 2],afa⟩
def Yo:az:=aA mu (aA (aA (aE [dD 18 [E0,V1,v (.str [78,79,84])]] iI) (dp E2 (aA (aE [dD 111 [E0],Ck,dD 165 [jy,L1]] Er) .ret) .skip)) (aA (aE [dD 112 [E0]] md) .ret))
def as2:br:=⟨3,1,.trunc,[.env 1],Yo⟩
def alO:az:=aA p6 (aA (dZ 0 (aA (aE [rp E0 V1,rF,g L0 false (.bin .gtr L1 FZ),AG] vL) (dp E2 (aA (aE [] [(1,jN)]) .ret) (aA (aE [iLq E0 fR] kx) (dp E3 zK (aA (aE [iLq E0 Li] jc) (dp E4 ME .skip))))))) (aA (aE [] [(1,fa)]) .ret))
def art:br:=⟨5,1,.pure,[.env 1],alO⟩
def adJ:az:=aA GA (aA (aE [CO,cf,sj L1 ku,g L2 false (.fld 8 E1),Iy,g L2 false (.bin .neq L4 ku),Mv,vC,lc 4 L7,GD,i (.eqa true [0,0,0,2] L8 L9)] [(3,L6),(4,mw)]) (aA (aA (aE SK wT) (dZ 0 (aA (aE [mj E5 V1] lj) (dp E6 (aA (aE [EF,g L0 true (.fld 3 E1),g L0 true (.load true 4 L1),g L0 true (.call 26 [L2] false),gM L0 L3 Vf,g L4 true (.fld 3 E1),g L4 true (.fld 1 L5),g L4 true (ld L6),g L4 true (.bin .geq L7 V0),gM L4 L8 Vf,g L9 true (.fld 3 E1),g L9 true (.fld 3 mw),g L9 true (ld nG),g L9 true (.call 133 [vG] false),gM L9 qO Vf] [(2,BQ)]) .ret) (aA (aE [mj E5 fa] nQ) (dp E7 (aA (aE [i (.una .not E4),g L0 true (.fld 8 E1),g L0 true (ld L1),g L0 true (.call 11 [L2] false),gM L0 L3 Vf,g L4 true (.fld 7 E1),Iz,Tm,Nr] [(2,L8)]) .ret) .skip)))))) (aA (aE [EF,Sy,Mk,qY] vL) .ret)))
def arm:br:=⟨8,1,.pure,[.env 2],adJ⟩
def Ga:az:=aA yA (aA yV (aA (dZ 1 (aA (aE Ua pZ) (aA (aA (aE [Dt,cf,Be] [(10,L2)]) (dp oG (aE [Dt,cf,ws L1 E4,Dt,yN] []) .skip)) (aA (aA (aE [K8,cf,Be] JU) (dp qN (aE [K8,cf,ws L1 E4,K8,yN] []) .skip)) (aE [lc 8 E5,nU 8 [L0],rf 8 E0 L1] [(0,L2)]))))) xk))
def ae6:az:=aA (aE [pq,SP Vn] LI) (aA (aE DR jc) (aA (aA (aE Ut Qy) (dZ 0 (.loop [5,9,10,11] Ga))) (aA (aE [] [(3,E0)]) .ret)))
def auk:br:=⟨12,2,.keep,[.env 3],ae6⟩
def agh:az:=aA (aE [oX 4 E0] BF) (aA (aE [lc 4 E1,dD 27 [L0],LM,g L2 true (.fld 0 E1),zu,g L2 true (.bin .neq L4 lq),zH] zU) .ret)
def atE:br:=⟨3,1,.pure,[.env 2],agh⟩
def ahg:az:=aA nR (aA (aE [rp E0 (v (.int .i32 32)),rF,g L0 false (.bin .gtr L1 (v (.int .i32 126))),AG] sw) .ret)
def auo:br:=⟨2,1,.pure,[.env 1],ahg⟩
def rA:az:=aA (aE [i (.nexts E6),D1] [(7,L0),(8,L1)]) (aA Ld (dZ 1 (aA (aE [EW 1 E7,EW 2 E7] [(4,L0),(5,L1)]) (aA (aE [i (.callv E1 [E5]),i (.eqb false L0 E2)] [(9,L1)]) (dp E9 HO .skip)))))
def aa7:az:=aA SL (aA (aA (aE [i (.rngs E0)] lj) (dZ 0 (.loop [3,4,5,7,8,9] rA))) (aA (aE [] [(3,jN)]) .ret))
def as8:br:=⟨10,3,.pure,[.env 3],aa7⟩
def ahi:az:=aA nR (aA (aE [PN E0 (v (.int .i32 65)),yI,g L0 true (.bin .leq L1 (v (.int .i32 90))),qY] sw) .ret)
def atZ:br:=⟨2,1,.pure,[.env 1],ahi⟩
def Fs:az:=aA mu (aA (aE [dD 95 [E0]] iI) (aA (aE [ug,i (.mputk [] L0 (v (.str [61])) Cu),i (.mputk [] L0 (v (.str [60,62])) (v (.int .i64 17))),i (.mputk [] L0 (v (.str [60])) (v (.int .i64 18))),i (.mputk [] L0 (v (.str [60,61])) (v (.int .i64 19))),i (.mputk [] L0 (v (.str [62])) (v (.int .i64 20))),i (.mputk [] L0 (v (.str [62,61])) (v (.int .i64 21)))] kx) (aA (aA (aE [dD 4 [E0,jy,Vn]] nQ) (dp E7 (aA (aE [ct,lW,dU,Lq,LX,wP,i (.lookk [] (.int .i64 0) true E3 L5),Bg,A9] [(4,L7),(5,L8)]) (aA (aE [] [(8,E5)]) (dp E8 (aA A7 (aA (aE [dD 95 [E0],nU 1 [E2,L0],dD 165 [E4,L1]] Er) .ret)) .skip))) .skip)) (aA (aA (aE [dD 18 [E0,V1,v (.str [73,83])],yQ] [(9,L1)]) (dp E9 DG .skip)) (aA (aE [] [(6,xo)]) (aA (aA (aE [dD 18 [E0,V1,v (.str [78,79,84])]] vJ) (dp oG (aE [] [(6,Ea)]) .skip)) (aA (aE [nU 1 [TM],sy] []) (aA (aE [nU 1 [E2],dD 165 [E6,L0]] uE) .ret))))))))
def arE:br:=⟨11,1,.trunc,[.env 1],Fs⟩
def vR:az:=aA (aE [rp E4 E3] ou) (aA MY (aA (dZ 1 (aA (aE [] [(2,E4)]) (aA (aE [i (.idxt E0 E2),rp L0 (v (.int .u8 32)),ZS,Yb,g L1 false (.idxt L2 L3),g L1 false (.bin .gtr L4 (v (.int .u8 126))),gM L1 Vt L5] [(6,L6)]) (dp E6 Qi .skip)))) SI))
def ah3:az:=aA nR (aA (aA (aE [yr] [(3,L0),(4,V0)]) (dZ 0 (.loop [1,2,5,6] vR))) (aA (aE [] [(1,Vt)]) .ret))
def as5:br:=⟨7,1,.pure,[.env 1],ah3⟩
def Ke:az:=aA (aE [oX 4 E0] [(1,L0),(2,V0)]) (aA (aA (aE [lc 4 E1,dD 28 [L0],GD,i (.eqa true [0,0,0,2] L1 L2)] sx) (dp E3 (aA (aE [] [(2,v (.int .i64 120))]) .ret) .skip)) Dx)
def arW:br:=⟨4,1,.pure,[.env 2],Ke⟩
def afV:az:=aA mu (aA (aE [ug,i (.mputk [] L0 (v (.str [43])) Ar),i (.mputk [] L0 (v (.str [45])) (v (.int .i64 13))),i (.mkfn 96 [E0] []),Uq] [(1,L4)]) .ret)
def atL:br:=⟨2,1,.trunc,[.env 1],afV⟩
def AR:az:=aA (aE [oX 4 E0,oX 4 (v (.agg [n0,n0,.int .u64 0,.str []]))] It) (aA (aA K4 (dZ 0 (aA (dZ 5 (aA (dZ 4 (aA (dZ 3 (aA (dZ 2 (aA (dZ 1 (aA (aA (aA Lu (dp E4 (.exit 1) .skip)) (aA (aA No (dp E5 vI .skip)) (aA (aA (aE [mj E3 V0] lj) (dp E6 (.exit 3) .skip)) (aA (aA (aE [mj E3 fR] nQ) (dp E7 (.exit 4) .skip)) (aA (aE [mj E3 lq] wS) (dp E8 (.exit 5) .skip)))))) pK)) (aA (aE [zh,cf,LR,Nk,zu,g L2 true (.bin .neq L4 V1),zH] [(9,L6)]) (dp E9 pK .skip)))) (aE [zh,Cr] []))) (aA (aE [uc,Cr] []) pK))) (aA (aA (aE [vC,cf,iLt L1,iLq L2 (v (.int .i64 40))] [(10,L3)]) (dp oG (aE [uc,Cr,vC,fI 1 L2 ku] []) .skip)) pK))) (aA (aE [uc,Cr,zh,fI 1 L2 V0,Me,fI 1 L4 (v (.int .u64 0))] []) pK)))) (aA (aE [lc 4 E1,Av] []) .ret))
def arx:br:=⟨11,1,.pure,[.cell true 4 2],AR⟩
def agx:az:=aA mu (aA (aE [ug,i (.mputk [] L0 M7 (v (.int .i64 14))),i (.mputk [] L0 (v (.str [47])) (v (.int .i64 15))),i (.mkfn 97 [E0] []),Uq] [(1,L4)]) .ret)
def atY:br:=⟨2,1,.trunc,[.env 1],agx⟩
def Yu:az:=aA mu (aA (aA (aE [dD 18 [E0,jy,v (.str [45])]] iI) (dp E2 (aA (aE [dD 97 [E0],Ck,dD 165 [lq,L1]] Er) .ret) .skip)) (aA (aE [dD 98 [E0]] md) .ret))
def asT:br:=⟨3,1,.trunc,[.env 1],Yu⟩
def CY:az:=aA mu (aA (dZ 0 (aA (aE [dD 4 [E0,fR,Vn]] jc) (dp E4 (aA (aE [Ee,Xy,i (.conv .i64 L1),dD 164 [fa,L2,ku]] sw) .ret) (aA (aE [dD 4 [E0,lq,Vn]] ou) (dp E5 (aA (aE [Ee,BJ,dD 164 [fR,V0,L1]] Er) .ret) (aA (aE [dD 18 [E0,V1,v (.str [84,82,85,69])]] lj) (dp E6 (aA (aE [dD 164 [V1,V1,ku]] md) .ret) (aA (aE [dD 18 [E0,V1,v (.str [70,65,76,83,69])]] nQ) (dp E7 (aA (aE [dD 164 [V1,V0,ku]] md) .ret) (aA (aE [dD 18 [E0,V1,TM]] wS) (dp E8 (aA (aE [dD 164 [V0,V0,ku]] md) .ret) (aA (aE [nU 1 [ML,v (.str [83,85,77]),v (.str [77,73,78]),v (.str [77,65,88])],QJ] [(9,L1)]) (dp E9 (aA (aE [Ee,BJ,dD 215 [E0,L1]] Er) .ret) (aA (aE [dD 18 [E0,jy,v (.str [40])]] vJ) (dp oG (aA (aE [dD 109 [E0]] iI) (aA LY DG)) .skip))))))))))))))) (aA (aE [dD 113 [E0],xD,zw] wV) (aA (aE [pr,cf,Ep,dT,oY [n0,n0,n0,n0,n0,.int .u64 0,.str [],.str [],.str []] [(0,1,fa),(7,1,L1),(8,1,L3)],dD 99 [L4]] [(1,L5)]) .ret)))
def arA:br:=⟨11,1,.trunc,[.env 1],CY⟩
def ag8:az:=aA Mn (aA (aE [oY [n0,n0,.int .u64 0,.str []] [(0,1,E0),(1,1,E1),(3,1,E2)],oY [n0,n0,n0,n0,n0,.int .u64 0,.str [],.str [],.str []] [(0,1,V1),(3,4,L0)],dD 99 [L1]] wG) .ret)
def auO:br:=⟨4,3,.pure,[.env 3],ag8⟩
def UG:az:=aA vV (aA (aE [ug,i (.mputk [] L0 ML BA),i (.mputk [] L0 (v (.str [83,85,77])) (v (.int .i64 9))),i (.mputk [] L0 (v (.str [77,73,78])) EB),i (.mputk [] L0 (v (.str [77,65,88])) Li)] kx) (aA (aE [nU 1 [v (.str [40])],Vk] []) (aA (aA (aE [mj E1 ML,yI,g L0 true (.call 18 [L1,jy,M7] false),qY] [(5,L3)]) (dp E5 (aA LY (aA (aE [oY [n0,n0,n0,n0,n0,.int .u64 0,.str [],.str [],.str []] [(0,1,fR)],dD 99 [L0]] oU) .ret)) .skip)) (aA (aE [dD 109 [E0]] jc) (aA LY (aA (aE [i (.lookk [] (.int .i64 0) false E3 E1),nU 1 [E4],dD 165 [L0,L1]] rh) .ret))))))
def ar7:br:=⟨6,2,.trunc,[.env 2],UG⟩
def ag9:az:=aA (aE [oX 9 E0,SP Vn] It) (aA (aE [zh,fI 1 L0 jN,Me,fI 1 L2 jN] []) (aA (aE [lc 9 E1,nU 9 [L0]] oU) .ret))
def auJ:br:=⟨3,1,.pure,[.env 2],ag9⟩
def mR:az:=aE Vw Uo
def mU:az:=aE Lk vM
def mK:az:=aE [CZ,fI 1 L0 (v (.fn 100 [] []))] pV
def mN:az:=aE TL Hq
def mP:az:=aE [CZ] xR
def mL:az:=aE [i (.mkfn 82 [] [E4,E9,E3,E8,qN,oG]),fI 1 qN L0] []
def jY:az:=aE TN [(12,L8),(13,L7)]
def fQ:az:=aA (aE [sj s9 V0] xI) UV
def gn:az:=AJ Ty [(14,L4),(13,L5)] [(0,3)]
def mM:az:=aE [xd sN,fI 1 E5 L0] [(6,yo),(7,s9)]
def me:az:=.ret
def gm:az:=aA mM me
def yc:az:=aA gn gm
def ye:az:=aA fQ yc
def jZ:az:=aA jY ye
def ya:az:=aA mL jZ
def yk:az:=aA mP ya
def yf:az:=aA mN yk
def yn:az:=aA mK yf
def qW:az:=aA mU yn
def IX:az:=aE LB oO
def Hl:az:=aE GO [(8,L3)]
def CK:az:=AJ T0 [] [(0,13),(1,13),(2,13),(3,13),(4,13)]
def IA:az:=aE UI []
def HW:az:=aE Uz []
def lu:az:=aE C7 [(2,L0),(3,V0)]
def lw:az:=aE TD [(4,L6),(5,L7)]
def lM:az:=aE [zO,dD 145 [L0]] sq
def lJ:az:=dZ 0 (aA (aE [i (.una .not E5)] pV) (dp E9 (aA (aE [] [(3,v (.int .i64 220))]) .ret) (aA (aE [ct,eI 19 L0,dU,i (.lookk [] (.bool false) false L2 E6)] [(10,L3)]) (dp oG (aA (aE [] [(3,v (.int .i64 221))]) .ret) .skip))))
def lH:az:=aE Vi []
def lB:az:=aE UO []
def lC:az:=aA (aE [ct,lW,xA,dT,iZ 3 L3 E4,II,sB,vH L6] [(11,L6),(12,L7),(13,V0)]) (dZ 1 (.loop [9999,7,8,14] w8))
def pv:az:=aE [] [(3,V0)]
def pD:az:=.ret
def pB:az:=aA pv pD
def mb:az:=aE [] [(1,V0)]
def lV:az:=aE Um []
def mc:az:=aE T2 []
def fN:az:=aA (aE [ct,jg,Es,dT,g L3 true (.mov E0),g L3 true (.nilck L4),g L3 true (.fld 10 L5),g L3 true (.fld 4 L6),g L3 true (ld L7),gM L3 L8 Vf] [(8,L9)]) T9
def fL:az:=aA (aE Rz [(9,L3)]) (dp E9 (aA (aE GO [(10,L3),(11,V0)]) (dZ 0 (.loop [9999,1,2,3,4,12,13] wW))) .skip)
def gO:az:=aA (aE Ra [(14,L3),(15,L4),(16,V0)]) (dZ 2 (.loop [9999,1,5,6,7,17,18] xa))
def qC:az:=aE [] [(1,V0)]
def qH:az:=.ret
def jq:az:=aA qC qH
def xp:az:=aA gO jq
def wI:az:=aA fL xp
def jp:az:=aA fN wI
def mf:az:=aA mc jp
def oc:az:=aE C7 DI
def nV:az:=aE [] [(5,fa)]
def ee:az:=aA (aE [gL,cf,sj L1 V1] yU) SN
def kE:az:=aE SY [(8,L5)]
def gz:az:=aA (aE [rp E8 V0] zj) Vm
def gF:az:=aA (aE [ct,pn,xq,dT,sA,Gg L4 Ar] [(13,L5)]) T3
def nM:az:=aE SZ [(3,L5),(4,V0)]
def og:az:=.ret
def gG:az:=aA nM og
def yK:az:=aA gF gG
def yq:az:=aA gz yK
def sd:az:=aA kE yq
def Aj:az:=aE aa5 [(11,L2),(10,NF)]
def zS:az:=aE Xc [(12,L6)]
def u7:az:=aA aab (aA (aE [sj s9 V0] [(24,L0)]) (dp E24 (aA (AJ [HB,iMu EB oG,OD sN,eI 24 L2,fT,ws L1 L4,DJ] [(5,L5),(6,s9)] [(2,7),(3,7),(4,7)]) .ret) .skip))
def ni:az:=aA (aE [dD 169 [sN]] yt) (aA (aE [mj oG V0] [(25,L0)]) (dp E25 (aE [dD 170 [sN],eI 1 E9,mv,eI 2 E9,fI 1 L3 yo] []) (aA (aE [eI 2 E9,cf,dD 190 [L1,yo],Hs] [(26,L3)]) (dp E26 (aA (aE [HB,iMu EB oG,ws L1 xo,DJ] [(5,L2),(6,v (.int .i64 229))]) .ret) .skip))))
def vv:az:=aE XQ []
def lF:az:=aE BB [(8,L0),(9,V0)]
def iR:az:=aE Tb [(10,L4)]
def gJ:az:=aA (aE [wJ,cf,G0] [(23,L2)]) Tp
def gC:az:=aA (aE [wJ,cf,Gs] [(24,L2)]) TP
def eo:az:=aE Tt [(13,L3)]
def iU:az:=aE B5 yt
def iO:az:=aA (aE [eI 1 oG,cf,eI 2 oG,dT,oY [n0,n0] [(0,1,L1),(1,1,L3)]] [(28,L4),(29,V0)]) (dZ 0 (.loop [9999,9,15,16,17,30,31,32] pY))
def dC:az:=dZ 2 (aA (aE [Gg s9 V0,g L0 true (.mov E1),Mk,qY] [(33,L3)]) (dp E33 (aA (aE B2 [(9,v (.int .i64 224))]) .ret) (aA (aE [Gg s9 V0] [(34,L0)]) (dp E34 (aA (aE [oY [n0,.ai] [(0,1,s9)],Co,zw] [(18,L1)]) (aA (aA (aE [vH yo,Gg L0 V0] [(35,L1)]) (dp E35 (aE [GB,om,eI 1 RL,lL] []) .skip)) (aA (aE [qM E4,lc 2 RL,dD 205 [L0,L1],li,ly] [(19,L3),(20,L4)]) (aA (aA (aE [sj E20 V0] [(36,L0)]) (dp E36 (aA (aE B2 [(9,E20)]) .ret) .skip)) (aA (aE [qM E3,oY [n0,n0,n0,n0,n0,n0,.int .u64 0,.str []] [(0,1,fa),(3,1,PK)],CV,li,ly,fI 1 E8 L3] [(9,L4)]) .ret))))) .skip))))
def fC:az:=AJ Tl [(21,L7),(22,L6)] [(0,8),(1,8),(2,8),(3,8),(4,8)]
def fB:az:=aA (aE [vH yo,mj L0 fa] [(37,L1)]) T5
def fp:az:=aA (aE [mj NF V0] [(38,L0)]) Va
def fh:az:=aE [xd PJ,Gi] [(9,NF)]
def fj:az:=.ret
def fu:az:=aA fh fj
def fw:az:=aA fp fu
def fF:az:=aA fB fw
def fD:az:=aA fC fF
def bv:az:=aA dC fD
def wn:az:=aA iO bv
def wB:az:=aA iU wn
def gD:az:=aA eo wB
def wC:az:=aA gC gD
def lE:az:=aA gJ wC
def pJ:az:=aA iR lE
def jL:az:=aE [Mj] md
def jM:az:=aE [nU 1 [v (.str [83,69,76,69,67,84])],sy] []
def jS:az:=aE aaM rh
def gW:az:=aA (aE [dD 18 [E0,jy,M7],gu,mv] []) (aA (aE [gu,cf,wU] wG) (dp E3 (aE [i (.mkfn 130 [E0] []),dD 129 [E0,xo,L0],oV,lL] []) .skip))
def jG:az:=aE [nU 1 [v (.str [70,82,79,77])],sy] []
def jO:az:=aE ZF []
def jP:az:=aE X7 []
def gP:az:=aA (aE [dD 18 [E0,V1,v (.str [87,72,69,82,69])]] jc) (dp E4 (aE [DL,Bh,mv] []) .skip)
def gU:az:=aA (aE [dD 18 [E0,V1,v (.str [71,82,79,85,80])]] ou) (dp E5 (aA (aE [nU 1 [v (.str [66,89])],sy] []) (aE [i (.mkfn 113 [E0] []),dD 197 [E0,fR,L0],Bm,lL] [])) .skip)
def gY:az:=aA (aE [dD 18 [E0,V1,v (.str [72,65,86,73,78,71])]] lj) (dp E6 (aE [DL,EE,mv] []) .skip)
def jn:az:=aE [lc 9 E2,fI 9 E1 L0] []
def jv:az:=.ret
def An:az:=aA (aE [dD 4 [E0,fR,Vn]] kx) Z2
def zz:az:=aA (aA (aE [dD 18 [E0,V1,v (.str [68,69,83,67])],oV,mv] []) (aA (aE [oV,cf,wU] pz) (dp E4 (aE [dD 18 [E0,V1,v (.str [65,83,67])]] []) .skip))) Rx
def yw:az:=aE Ix md
def zi:az:=aE XL vL
def vl:az:=aA (aE [dD 18 [E0,V1,v (.str [79,82,68,69,82])]] ou) (dp E5 (aA (aE [nU 1 [v (.str [66,89])],sy] []) (aE [i (.mkfn 194 [E0] []),dD 195 [E0,fR,L0],gu,lL] [])) .skip)
def uY:az:=aA (aE [dD 18 [E0,V1,v (.str [76,73,77,73,84])]] lj) (dp E6 (aE [dD 193 [E0],oV,mv] []) .skip)
def ER:az:=aA (aE [lc 3 E2,fI 3 E1 L0] []) .ret
def iX:az:=aE abL Ip
def iL:az:=aA M8 (aA (aE xU xI) (dp EU (aA (aE Hn [(5,E6)]) .ret) .skip))
def iT:az:=aA (aE [pr,cf,gq,rp L2 V1,g L3 false (.fld 0 E3),Eb,SE,g L3 false (.bin .gtr L6 fR),gM L3 Vt L7] [(16,L8)]) Z3
def mX:az:=aE Yk D4
def ny:az:=aE [i (.mkfn 182 [] [E7])] wS
def nv:az:=aA (aE K5 I9) (dZ 0 (.loop [5,9,10,11,12,20,21] mY))
def iS:az:=aE abu []
def iV:az:=aE YQ [(13,L5),(14,L6)]
def iM:az:=aA (aE [qM E7,uK,eI 11 L1,dT,g L3 false (.mov yo),g L3 false (.bin .neq L4 V0),Hv,g L6 false (.mov s9),g L6 false (.len L7),g L6 false (.fld 1 E3),g L6 false (ld L9),g L6 false (.len mw),g L6 false (.bin .neq L8 nG),gM L6 Vt vG,g qO false (.mov s9),g qO false (.fld 2 E3),g qO false (ld FP),g qO false (.call 184 [BQ,AB] false),g qO false (.una .not zL),gM qO Vt UX] [(22,PO)]) XP
def iQ:az:=aE aa4 [(5,V0)]
def iA:az:=.ret
def qD:az:=aA iQ iA
def CA:az:=aA iM qD
def Cv:az:=aA iV CA
def qG:az:=aA iS Cv
def mW:az:=aA nv qG
def mZ:az:=aA ny mW
def nr:az:=aA mX mZ
def iN:az:=aA iT nr
def iP:az:=aA iL iN
def tbl:List kQ:=[
.none,
.fn atP,
.fn arG,
.fn atD,
.fn arM,
.fn atp,
.fn ar0,
.fn ar8,
.prim 4,
.fn atu,
.fn atK,
.fn arB,
.nilfn atq,
.fn auX,
.fn ats,
.fn atS,
.fn auA,
.fn ar9,
.fn as9,
.fn atZ,
.fn atF,
.fn auC,
.fn auu,
.fn aue,
.fn auG,
.prim 6,
.fn atE,
.fn arW,
.fn arx,
.fn ast,
.fn aux,
.fn arH,
.fn arz,
.fn arv,
.fn auq,
.round qF,
.fn auF,
.fn ati,
.fn at5,
.fn auf,
.fn atN,
.fn ar1,
.fn att,
.prim 2,
.none,
.none,
.none,
.none,
.fn ar5,
.fn asy,
.fn atb,
.fn atw,
.fn aui,
.fn ar2,
.fn asu,
.fn aru,
.fn ath,
.fn auV,
.fn as8,
.round pS,
.fn auU,
.fn auT,
.fn as0,
.fn auY,
.nilfn aun,
.prim 8,
.fn art,
.fn arm,
.fn arl,
.fn ar3,
.nilfn auW,
.nilfn atQ,
.nilfn aud,
.fn asI,
.fn aul,
.fn asK,
.fn atW,
.fn arX,
.fn auv,
.fn asJ,
.fn arV,
.fn au6,
.fn arw,
.fn arU,
.fn auw,
.fn asO,
.fn asG,
.fn auP,
.fn as1,
.fn arq,
.fn arp,
.fn auI,
.fn aus,
.fn arJ,
.fn arR,
.fn atL,
.fn atY,
.fn asT,
.fn arA,
.fn auJ,
.fn aub,
.fn asL,
.fn auk,
.fn atT,
.fn asb,
.fn aug,
.fn asf,
.fn ash,
.fn asw,
.fn auz,
.fn aty,
.fn as2,
.fn arE,
.fn asr,
.fn atC,
.fn atB,
.fn asp,
.fn atr,
.fn asn,
.fn aut,
.fn au3,
.fn au4,
.fn as6,
.fn arZ,
.fn asP,
.fn auE,
.fn atd,
.fn arN,
.fn arP,
.fn aup,
.fn ass,
.fn asF,
.fn atX,
.fn as5,
.fn arL,
.fn aro,
.fn auj,
.fn asY,
.fn arn,
.fn ate,
.fn auM,
.fn ato,
.fn aua,
.fn arC,
.fn atn,
.fn asZ,
.fn asx,
.fn atg,
.fn atV,
.fn as3,
.fn ary,
.fn asd,
.fn atA,
.fn asV,
.fn atl,
.fn auc,
.fn asH,
.fn asQ,
.fn asz,
.fn arS,
.fn auH,
.fn asv,
.fn au1,
.fn atf,
.fn auO,
.fn atm,
.fn ar4,
.fn auD,
.fn asW,
.fn asC,
.fn asB,
.fn arO,
.fn ata,
.fn arY,
.fn asD,
.fn asR,
.fn auB,
.fn auS,
.fn atH,
.fn asN,
.fn arF,
.fn aso,
.fn asM,
.fn asS,
.fn asg,
.fn au7,
.fn au5,
.none,
.none,
.fn arI,
.fn asj,
.fn atG,
.fn asq,
.fn as4,
.fn arK,
.fn atJ,
.fn ars,
.fn atM,
.fn asm,
.fn auK,
.fn arT,
.fn auQ,
.fn asX,
.fn atx,
.fn asA,
.fn arD,
.none,
.none,
.none,
.none,
.none,
.none,
.none,
.none,
.none,
.fn ar7,
.none,
.none,
.none,
.fn au8,
.none,
.none,
.fn auR,
.none,
.fn asi,
.fn asc,
.fn asa,
.none,
.none,
.none,
.none,
.none,
.none,
.none,
.none,
.none,
.none,
.none,
.none,
.none,
.none,
.none,
.none,
.none,
.none,
.none,
.none,
.none,
.none,
.none,
.none,
.none,
.none,
.none,
.none,
.none,
.none,
.none,
.none,
.none,
.none,
.none,
.none,
.none,
.none,
.none,
.fn as7,
.fn arQ,
.fn atj,
.none,
.none,
.fn asU,
.fn atz,
.none,
.none,
.fn atc,
.fn asE,
.none,
.none,
.fn auh,
.fn atI,
.fn ase,
.fn auo,
.none,
.none,
.none,
.none,
.none,
.none,
.none,
.fn auL,
.none,
.none,
.none,
.none,
.none,
.none,
.none,
.none,
.none,
.none,
.none,
.none,
.none,
.none,
.none,
.none,
.none,
.none,
.none,
.none,
.none,
.none,
.none,
.none,
.none,
.none,
.none,
.none,
.none,
.none,
.none,
.none,
.none,
.none,
.none,
.none,
.none,
.none,
.none,
.none,
.none,
.none,
.none,
.none,
.none,
.none,
.none,
.none,
.none,
.none,
.none,
.none,
.none,
.none,
.none,
.none,
.none,
.none,
.none,
.none,
.none,
.none,
.none,
.none,
.none,
.none,
.none,
.none,
.none,
.none,
.none,
.none,
.none,
.none,
.none,
.none,
.none,
.none,
.none,
.none,
.none,
.none,
.none,
.none,
.none,
.none,
.none,
.none,
.none,
.none,
.none,
.none,
.none,
.none,
.none,
.none,
.none,
.none,
.none,
.none,
.none,
.none,
.none,
.none,
.none,
.none,
.none,
.fn au2,
.fn aum,
.fn au0,
.fn aur,
.fn ar6,
.fn auZ,
.fn atv,
.fn auy,
.fn atU,
.fn atk,
.fn auN]
end Go.AM.P
namespace Go.AM
def code:Code:=⟨fun n=>P.tbl.getD n .none,prims⟩
end Go.AM
namespace Go.AM.I
abbrev qcw:Nat:=1
abbrev qce:Nat:=2
abbrev qcn:Nat:=3
abbrev qfd:Nat:=4
abbrev qgn:Nat:=5
abbrev qhg:Nat:=6
abbrev qbx:Nat:=7
abbrev strings_ToUpper:Nat:=8
abbrev qci:Nat:=9
abbrev qbf:Nat:=10
abbrev qch:Nat:=11
abbrev qgd:Nat:=12
abbrev qbm:Nat:=13
abbrev qcv:Nat:=14
abbrev qcq:Nat:=15
abbrev qbo:Nat:=16
abbrev qby:Nat:=17
abbrev qfv:Nat:=18
abbrev qcm:Nat:=19
abbrev qcd:Nat:=20
abbrev qbr:Nat:=21
abbrev qbh:Nat:=22
abbrev qhi:Nat:=23
abbrev qcg:Nat:=24
abbrev internal_bytealg_IndexByteString:Nat:=25
abbrev qhm:Nat:=26
abbrev qhl:Nat:=27
abbrev qhn:Nat:=28
abbrev qhb:Nat:=29
abbrev qbj:Nat:=30
abbrev qdg:Nat:=31
abbrev qee:Nat:=32
abbrev qdj:Nat:=33
abbrev qdx:Nat:=34
abbrev qbg:Nat:=36
abbrev qgw:Nat:=37
abbrev qbn:Nat:=38
abbrev qds:Nat:=39
abbrev qea:Nat:=40
abbrev qbq:Nat:=41
abbrev qbp:Nat:=42
abbrev slices_Sort_int_int:Nat:=43
abbrev qge:Nat:=48
abbrev qcc:Nat:=49
abbrev qbi:Nat:=50
abbrev qfb:Nat:=51
abbrev qbd:Nat:=52
abbrev qbc:Nat:=53
abbrev qbk:Nat:=54
abbrev qco:Nat:=55
abbrev qcu:Nat:=56
abbrev qhj:Nat:=57
abbrev qhk:Nat:=58
abbrev lex_Tokens_r0:Nat:=59
abbrev qcp:Nat:=60
abbrev qhh:Nat:=61
abbrev qcf:Nat:=62
abbrev qfj:Nat:=63
abbrev qga:Nat:=64
abbrev lex_number:Nat:=65
abbrev qh:Nat:=66
abbrev qd:Nat:=67
abbrev qf:Nat:=68
abbrev qdu:Nat:=69
abbrev qgc:Nat:=70
abbrev qfz:Nat:=71
abbrev qgb:Nat:=72
abbrev qfh:Nat:=73
abbrev qgm:Nat:=74
abbrev qhd:Nat:=75
abbrev qbw:Nat:=76
abbrev qdw:Nat:=77
abbrev qdh:Nat:=78
abbrev qdr:Nat:=80
abbrev qt:Nat:=81
abbrev qad:Nat:=82
abbrev qcb:Nat:=83
abbrev qbz:Nat:=84
abbrev qcx:Nat:=85
abbrev qbb:Nat:=86
abbrev qgk:Nat:=87
abbrev qbl:Nat:=88
abbrev qb:Nat:=89
abbrev qe:Nat:=90
abbrev qdl:Nat:=91
abbrev qed:Nat:=92
abbrev qaa:Nat:=93
abbrev qae:Nat:=94
abbrev qfu:Nat:=95
abbrev qfp:Nat:=96
abbrev qfs:Nat:=97
abbrev qfo:Nat:=98
abbrev qeu:Nat:=99
abbrev qab:Nat:=100
abbrev qbs:Nat:=101
abbrev qca:Nat:=102
abbrev qac:Nat:=103
abbrev qdv:Nat:=104
abbrev qep:Nat:=105
abbrev qdq:Nat:=106
abbrev qfx:Nat:=107
abbrev qfn:Nat:=108
abbrev qfm:Nat:=109
abbrev qez:Nat:=110
abbrev qfk:Nat:=111
abbrev qfw:Nat:=112
abbrev qfi:Nat:=113
abbrev qk:Nat:=114
abbrev qgl:Nat:=115
abbrev qhc:Nat:=116
abbrev ql:Nat:=117
abbrev qel:Nat:=118
abbrev qda:Nat:=119
abbrev qes:Nat:=122
abbrev qfy:Nat:=123
abbrev qcj:Nat:=124
abbrev qck:Nat:=125
abbrev qcl:Nat:=126
abbrev qfq:Nat:=127
abbrev qfr:Nat:=128
abbrev qev:Nat:=129
abbrev qfe:Nat:=130
abbrev qft:Nat:=131
abbrev qff:Nat:=132
abbrev qm:Nat:=133
abbrev qn:Nat:=134
abbrev qa:Nat:=135
abbrev qgj:Nat:=136
abbrev qha:Nat:=137
abbrev qc:Nat:=138
abbrev qi:Nat:=139
abbrev qj:Nat:=140
abbrev qz:Nat:=141
abbrev qaf:Nat:=142
abbrev qam:Nat:=143
abbrev qbe:Nat:=144
abbrev qu:Nat:=145
abbrev qak:Nat:=146
abbrev qao:Nat:=147
abbrev qbt:Nat:=148
abbrev qag:Nat:=149
abbrev qaj:Nat:=150
abbrev qq:Nat:=151
abbrev qgg:Nat:=152
abbrev qgx:Nat:=153
abbrev qr:Nat:=154
abbrev qgh:Nat:=155
abbrev qgy:Nat:=156
abbrev qs:Nat:=157
abbrev qeq:Nat:=158
abbrev qdo:Nat:=159
abbrev qgi:Nat:=160
abbrev qgz:Nat:=161
abbrev qaz:Nat:=162
abbrev qhe:Nat:=163
abbrev qey:Nat:=164
abbrev qet:Nat:=165
abbrev qan:Nat:=166
abbrev qbv:Nat:=167
abbrev qah:Nat:=168
abbrev qai:Nat:=169
abbrev qal:Nat:=170
abbrev qef:Nat:=171
abbrev qer:Nat:=172
abbrev qen:Nat:=173
abbrev qeo:Nat:=174
abbrev qo:Nat:=175
abbrev qp:Nat:=176
abbrev qw:Nat:=177
abbrev qcz:Nat:=178
abbrev qej:Nat:=179
abbrev qek:Nat:=180
abbrev qem:Nat:=181
abbrev qeg:Nat:=182
abbrev qcy:Nat:=183
abbrev qgt:Nat:=184
abbrev qv:Nat:=189
abbrev qap:Nat:=190
abbrev qde:Nat:=191
abbrev qfc:Nat:=192
abbrev qfl:Nat:=193
abbrev qfg:Nat:=194
abbrev qew:Nat:=195
abbrev qg:Nat:=196
abbrev qex:Nat:=197
abbrev qhf:Nat:=198
abbrev qdn:Nat:=199
abbrev qdm:Nat:=200
abbrev qdk:Nat:=201
abbrev qdt:Nat:=202
abbrev qdp:Nat:=203
abbrev qct:Nat:=204
abbrev qx:Nat:=205
abbrev qfa:Nat:=215
abbrev qay:Nat:=222
abbrev qat:Nat:=224
abbrev qav:Nat:=225
abbrev qau:Nat:=226
abbrev qgf:Nat:=266
abbrev qdf:Nat:=267
abbrev qdy:Nat:=268
abbrev qgu:Nat:=271
abbrev qdz:Nat:=272
abbrev qy:Nat:=275
abbrev qgv:Nat:=276
abbrev qcr:Nat:=279
abbrev qbu:Nat:=280
abbrev qgr:Nat:=281
abbrev qcs:Nat:=282
abbrev qdb:Nat:=290
abbrev row_right:Nat:=294
abbrev slices_Clone_api_Row_api_Value:Nat:=299
abbrev qgs:Nat:=399
abbrev qdc:Nat:=401
abbrev qar:Nat:=402
abbrev qgq:Nat:=404
abbrev qeb:Nat:=405
abbrev qgo:Nat:=406
abbrev qgp:Nat:=407
abbrev qec:Nat:=408
end Go.AM.I
