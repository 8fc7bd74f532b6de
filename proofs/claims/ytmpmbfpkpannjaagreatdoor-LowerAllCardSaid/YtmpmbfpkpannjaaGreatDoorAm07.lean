/- Part of the proof. -/
import Derived.Test.YtmpmbfpkpannjaaGreatDoorAm06
set_option linter.unusedVariables false
set_option linter.unusedSimpArgs false
set_option linter.unusedSectionVars false
namespace Go.AM.P
abbrev wg(x y:db):cr:=i (.bin .add x y)
abbrev rB(n:Nat)(x y:db):cr:=i (.app n x y)
abbrev ed:=az.blk
abbrev pc(n:Nat)(x:db):cr:=i (.box n x)
abbrev pi(x:List aq)(y:List (Nat×Nat×db)):cr:=i (.build x y)
abbrev dC(f:Nat)(x:List db):cr:=i (.call f x false)
abbrev dq:=az.cond
abbrev my(x y:db):cr:=i (.bin .eql x y)
abbrev FB(n:Nat)(x:db):cr:=i (.ext n x)
abbrev eJ(n:Nat)(x:db):cr:=i (.fld n x)
abbrev PR(x y:db):cr:=i (.bin .geq x y)
abbrev Gt(x y:db):cr:=i (.bin .gtr x y)
abbrev iIa(m n:Nat)(x y:db):cr:=i (.idxa m n x y)
abbrev jk(n:Nat)(x y:db):cr:=i (.idxs n x y)
abbrev v6(x:db):cr:=i (.len x)
abbrev iLt(x:db):cr:=i (.lent x)
abbrev iLq(x y:db):cr:=i (.bin .leq x y)
abbrev lq(n:Nat)(x:db):cr:=i (.load true n x)
abbrev rK(x y:db):cr:=i (.bin .lss x y)
abbrev nY(n:Nat)(x:List db):cr:=i (.mkl n x)
abbrev iMn(n:Nat):cr:=i (.mknil n)
abbrev Vp(x:db):cr:=i (.mov x)
abbrev iMu(x y:db):cr:=i (.bin .mul x y)
abbrev sy(x y:db):cr:=i (.bin .neq x y)
abbrev PB(x:db):cr:=i (.nilck x)
abbrev gS(x y z:db):cr:=i (.pick x y z)
abbrev aE:=az.reg
abbrev AW:=az.regd
abbrev aA:=az.seq
abbrev fL(n:Nat)(x y:db):cr:=i (.store n x y)
abbrev D3(x y:db):cr:=i (.bin .sub x y)
abbrev qV(x:db):cr:=i (ld x)
abbrev xI(x:db):cr:=i (lt x)
abbrev ac8:az:=aE [rK PK E20] [(22,L0)]
abbrev pX:az:=.exit 0
abbrev Wo:cr:=lq 9 L0
abbrev ahM:cr:=pc 9 (v (.agg [.ai,.ai,.ai,.ai,nf,nf,.ai,.ai,.ai]))
abbrev Pz:cr:=fL 9 L2 L1
abbrev an4:List cr:=[jk 9 PT PK,Wo,ahM,Pz]
abbrev cg:cr:=qV L0
abbrev JN:List (Nat×db):=[(11,L2)]
abbrev UK:az:=aE [wg PK V1] [(21,L0)]
abbrev uq:cr:=pc 1 E0
abbrev Do:List cr:=[uq]
abbrev PE:List (Nat×db):=[(2,L0),(3,Vf)]
abbrev YL:az:=aE Do PE
abbrev zw:cr:=i (.una .not L0)
abbrev JK:az:=aE [] [(3,Vf)]
abbrev xY:az:=aA JK .ret
abbrev rV:cr:=xI E2
abbrev gp:cr:=pc 1 (v (.agg [.ai]))
abbrev lV:cr:=fL 1 L2 L1
abbrev pR:List (Nat×db):=[(4,L2)]
abbrev IM:cr:=FB 0 L3
abbrev Ho:cr:=FB 1 L3
abbrev O2:cr:=pc 3 (v (.agg [.ai,.ai,n0]))
abbrev aad:List cr:=[iLt E1,i (.mins L0 [v (.int .i64 600)]),i (.slicet E1 none (some L1)),dC 122 [L2],IM,Ho,FB 2 L3,O2,fL 3 L7 L4]
abbrev xW:List cr:=[sy E6 V0]
abbrev xV:List (Nat×db):=[(15,L0)]
abbrev Fl:az:=aA (aE [] [(3,Vt)]) .ret
abbrev AP:cr:=xI E4
abbrev Vb:cr:=dC 134 [L0,L1]
abbrev lS:cr:=FB 0 L2
abbrev lA:cr:=FB 1 L2
abbrev Of:cr:=FB 2 L2
abbrev KF:cr:=pc 5 (v (.agg [.ai,.ai,.ai,.ai,n0]))
abbrev To:cr:=fL 5 L6 L3
abbrev Fj:List (Nat×db):=[(16,L0)]
abbrev Uy:cr:=dC 171 [L0,L1]
abbrev zA:cr:=fL 1 L5 L3
abbrev FU:List (Nat×db):=[(17,L0)]
abbrev ng:cr:=FB 0 L1
abbrev nq:cr:=FB 1 L1
abbrev UB:cr:=dC 85 [L0]
abbrev aay:cr:=g L0 false (.bin .neq L1 V0)
abbrev AV:cr:=gS L0 Vt L2
abbrev agk:cr:=g L3 false (.mov E9)
abbrev Dq:List cr:=[iMn 1]
abbrev xU:List (Nat×db):=[(11,L0)]
abbrev yE:cr:=eJ 0 E7
abbrev gz:cr:=v6 L1
abbrev aaZ:List cr:=[yE,cg,gz]
abbrev KU:cr:=eJ 0 E8
abbrev dT:cr:=qV L2
abbrev sN:cr:=v6 L3
abbrev uP:cr:=pc 12 (v (.agg [n0,n0,n0,n0,.ai,nf,.ai,.ai,.ai,.ai,.ai,n0]))
abbrev xo:cr:=g L3 true (ld L4)
abbrev A8:db:=v (.int .i64 8)
abbrev Ep:cr:=gS L3 L6 Vf
abbrev Ii:cr:=g L7 true (ld L8)
abbrev PY:cr:=g rl true (ld BI)
abbrev Ji:List (Nat×db):=[(3,L0),(4,Vf)]
abbrev Qi:az:=aA (aE [] [(4,Vf)]) .ret
abbrev vS:cr:=xI E3
abbrev pZ:List (Nat×db):=[(5,L2)]
abbrev Be:cr:=xI E5
abbrev Zs:List cr:=[Be,lq 5 E8,Uy,lS,lA,gp,zA]
abbrev kh:db:=v (.int .i64 (-1))
abbrev Qf:db:=v (.int .i64 2147483647)
abbrev Rk:cr:=fL 1 L2 Vn
abbrev Qd:cr:=fL 1 L4 L1
abbrev D1:cr:=g L3 false (ld L4)
abbrev QM:cr:=g L3 false (.len L5)
abbrev My:cr:=eJ 0 E9
abbrev eZ:db:=v (.int .i64 2)
abbrev Zt:cr:=g L0 true (.bin .eql L1 V0)
abbrev rt:cr:=gS L0 L2 Vf
abbrev Q4:cr:=g L0 false (ld L2)
abbrev RI:cr:=g L0 false (.len L3)
abbrev dU:cr:=qV L1
abbrev Bk:cr:=v6 L2
abbrev Bj:cr:=FB 0 L6
abbrev Bz:cr:=FB 1 L6
abbrev Md:cr:=gS L0 Vt L4
abbrev DM:db:=v (.int .i64 7)
abbrev qM:List (Nat×db):=[(9,L0)]
abbrev zl:az:=aE [wg E9 V1] qM
abbrev D2:List (Nat×db):=[(3,L4)]
abbrev DK:cr:=FB 2 L1
abbrev QE:cr:=pc 2 (v (.agg [.ai,.ai]))
abbrev fY:db:=v (.int .i64 3)
abbrev jw:db:=v (.int .i64 5)
abbrev Zn:cr:=g v8 true (.fld 1 E1)
abbrev Qn:cr:=g v8 true (ld rl)
abbrev Qu:cr:=g zS true (ld Tp)
abbrev ze:az:=aE [rK E8 E7] qM
abbrev zk:az:=dq E9 .skip pX
abbrev Nu:cr:=lq 3 L0
abbrev RC:cr:=fL 3 L2 L1
abbrev aaJ:List cr:=[jk 3 E6 E8,Nu,pc 3 (v (.agg [.str [],.ai,.ai])),RC]
abbrev pu:cr:=eJ 0 E3
abbrev DY:cr:=eJ 1 E5
abbrev xw:cr:=qV L4
abbrev Lj:cr:=eJ 2 E5
abbrev xG:List (Nat×db):=[(8,L0)]
abbrev xp:az:=aE [wg E8 V1] xG
abbrev HU:List (Nat×db):=[(1,L0),(2,L1)]
abbrev uH:cr:=eJ 0 E1
abbrev aax:cr:=pi [.ai] [(0,1,L2)]
abbrev R7:cr:=fL 1 L4 L3
abbrev Mp:List cr:=[pu,cg,gz]
abbrev Si:List (Nat×db):=[(6,L1),(7,L2),(8,V0)]
abbrev Jc:cr:=fL 1 E2 L0
abbrev I8:List cr:=[O2]
abbrev Eo:cr:=FB 0 L0
abbrev Ly:cr:=FB 1 L0
abbrev vQ:az:=.exit 2
abbrev K8:cr:=pc 3 (v (.agg [.str [],n0,nf]))
abbrev HQ:cr:=pi [.ai,.ai,.ai,.ai,n0] []
abbrev Ee:cr:=fL 5 E4 L0
abbrev Rq:List cr:=[HQ,Ee]
abbrev Rl:cr:=fL 1 L7 L6
abbrev MU:cr:=pc 9 (v (.agg [nf,nf,.ai,.str [],.str [],.ai,.ai,.ai,.ai]))
abbrev Y4:List cr:=[jk 9 E20 Py,Wo,MU,Pz]
abbrev uD:cr:=i .mkmap
abbrev Yc:List cr:=[rV,lq 9 qX,uD,uD,uD,pi [.ai,nf,nf,.ai,.str [],.str [],.ai,.ai,.ai,.ai,.ai,.ai,.ai,.ai,nf,nf,.ai,.ai,.ai,.nilm,.nilm,.nilm,.ai,.ai,n0] [(0,1,L0),(1,9,L1),(19,1,L2),(20,1,L3),(21,1,L4)],pc 25 L5]
abbrev BD:List (Nat×db):=[(13,L0)]
abbrev abM:az:=.lift 12 10 1 (.lift 12 11 2 (.lift 12 16 1 (.lift 12 17 2 (.lift 12 18 1 (.lift 12 22 1 (.lift 12 23 1 (aE [dC 141 [sV]] BD)))))))
abbrev D9:db:=v (.int .i64 10)
abbrev gd:cr:=qV L3
abbrev zi:List (Nat×db):=[(14,L0)]
abbrev me:cr:=fL 1 L1 L0
abbrev He:cr:=i (.una .not L2)
abbrev wO:db:=v (.int .i64 6)
abbrev abL:List cr:=[My,cg,PB sV,eJ 10 L2,lq 9 L3,nY 9 [L4],rB 9 L1 L5,My,Rl]
abbrev RN:List cr:=[rV,dC 86 [L0]]
abbrev xt:List (Nat×db):=[(7,L1)]
abbrev vY:List (Nat×db):=[(8,L1)]
abbrev Hq:List cr:=[sy E8 V0]
abbrev EE:cr:=eJ 1 E3
abbrev Iz:az:=aE [rK PT QC] [(20,L0)]
abbrev Bc:cr:=pi [.ai] []
abbrev Jd:List cr:=[Bc,fL 1 E4 L0]
abbrev I7:az:=aE [wg PT V1] [(19,L0)]
abbrev Xq:List cr:=[uq,pc 5 E1,gp]
abbrev IP:List (Nat×db):=[(2,L0),(3,L1),(4,L2),(5,V0)]
abbrev sH:List (Nat×db):=[(6,L1)]
abbrev Mj:az:=aE RN sH
abbrev QD:az:=aA (aE Jd [(5,v (.int .i64 240))]) .ret
abbrev Zp:az:=dq GQ QD .skip
abbrev RY:cr:=pc 1 (v .nilp)
abbrev yG:cr:=fL 1 L3 L2
abbrev XA:List cr:=[rV,pi [.ai,.ai,.ai,.ai,.ai,nf,nf,.ai,.ai,.ai,.ai,nf] [(0,1,L0)],pc 12 L1,RY,yG]
abbrev D8:List (Nat×db):=[(7,L3)]
abbrev HW:List (Nat×db):=[(17,L1),(18,L2),(19,V0)]
abbrev aaN:List cr:=[qV E7,eJ 3 E3,dU,eJ 4 E3,gd,pi [n0,n0,n0,n0,.ai,nf,.ai,.ai,.ai,.ai,.ai,n0] [(0,1,A8),(10,1,L2),(11,1,L4)],dC 118 [L0,L5,Vn]]
abbrev uI:cr:=PB L0
abbrev Ei:cr:=eJ 10 L1
abbrev uj:cr:=xI L2
abbrev uk:cr:=FB 0 L4
abbrev ux:cr:=FB 1 L4
abbrev Zx:List cr:=[qV E7,uI,Ei,uj,dC 183 [L3],uk,ux]
abbrev GW:cr:=gS L3 Vt L5
abbrev Y7:az:=dq Py QD .skip
abbrev Qp:cr:=fL 1 E4 L3
abbrev Ze:List cr:=[qV E7,uI,Ei,uj,Qp]
abbrev Es:List cr:=[uq,Vp Vn]
abbrev Li:List (Nat×db):=[(1,L0),(2,L1),(3,V0)]
abbrev BL:cr:=xI E1
abbrev Xs:List cr:=[BL,dC 77 [L0],ng,nq,DK]
abbrev Jb:List cr:=[i (.una .not E6)]
abbrev nS:List (Nat×db):=[(7,L0)]
abbrev uf:List cr:=[Vp Vn]
abbrev RO:db:=v (.int .i64 230)
abbrev jm:cr:=eJ 1 L0
abbrev So:cr:=i (.call 12 [L4] true)
abbrev lI:List (Nat×db):=[(6,L0)]
abbrev Ru:az:=aE [rK E6 E5] nS
abbrev Sw:az:=dq E7 .skip pX
abbrev RG:az:=aE [] [(3,E6)]
abbrev zg:cr:=jk 1 E0 E3
abbrev XJ:List cr:=[zg,cg,jk 1 E1 E3,dT,sy L1 L3]
abbrev lg:az:=aE [] [(2,Vf)]
abbrev D0:az:=aA lg .ret
abbrev MM:az:=dq E8 D0 .skip
abbrev R5:az:=aE [wg E6 V1] lI
abbrev vL:cr:=v6 E0
abbrev RT:List cr:=[vL,v6 E1,sy L0 L1]
abbrev Ni:az:=aA (aE RT pR) (dq E4 D0 .skip)
abbrev D5:List cr:=[vL]
abbrev QK:az:=aE D5 [(5,L0),(6,V0)]
abbrev BB:az:=aA (aE [] [(2,Vt)]) .ret
abbrev vN:List (Nat×db):=[(10,L0)]
abbrev En:az:=aE [rK E9 E8] vN
abbrev Bo:az:=dq oN .skip pX
abbrev DE:cr:=lq 12 L0
abbrev Ek:cr:=fL 12 L2 L1
abbrev uu:cr:=eJ 0 E5
abbrev Is:cr:=my L1 V1
abbrev yL:cr:=nY 1 [L1]
abbrev R6:az:=aE Es HU
abbrev sG:List (Nat×db):=[(3,L3)]
abbrev iO:List (Nat×db):=[(2,L0)]
abbrev vX:az:=aE uf iO
abbrev jn:List (Nat×db):=[(4,L0)]
abbrev Rj:az:=aE Dq jn
abbrev DH:List cr:=[uH,cg,gz]
abbrev R0:az:=aE [wg E2 V1] iO
abbrev Sr:az:=aE [wg E4 V1] jn
abbrev qN:az:=dq E6 .skip pX
abbrev Z6:cr:=i (.slice 1 E0 (some E2) none)
abbrev kI:List (Nat×db):=[(3,L0)]
abbrev mw:List (Nat×db):=[(1,L0)]
abbrev mj:az:=aE uf mw
abbrev xJ:List (Nat×db):=[(5,L1)]
abbrev nQ:cr:=lq 2 L0
abbrev gR:cr:=eJ 0 E2
abbrev G7:List (Nat×db):=[(2,L0),(3,L1),(4,V0)]
abbrev Lr:cr:=fL 1 E3 L0
abbrev DD:List cr:=[Bc,Lr]
abbrev Sz:cr:=g L0 false (.mov E1)
abbrev XR:cr:=g L0 false (.fld 0 E2)
abbrev aby:cr:=g L0 false (.bin .geq L1 L4)
abbrev LY:cr:=gS L0 Vt L5
abbrev BK:List cr:=[gp]
abbrev pv:cr:=pc 1 E1
abbrev Io:List (Nat×db):=[(2,L0),(3,L1),(4,Vf)]
abbrev Xb:List (Nat×db):=[(2,L0),(3,L1),(4,V0),(5,V0)]
abbrev yT:List (Nat×db):=[(12,L0)]
abbrev MC:List cr:=[pi [.ai,.ai] [],fL 2 E3 L0]
abbrev aaB:cr:=pi [.str [],n0] [(0,1,v (.str [97])),(1,1,eZ)]
abbrev K3:az:=dq E5 .skip pX
abbrev Q7:az:=aE [] [(3,V0)]
abbrev QI:az:=aE [rK E7 E6] xG
abbrev Mk:az:=dq E8 .skip pX
abbrev EG:cr:=eJ 0 E4
abbrev SB:az:=aE [wg E7 V1] nS
abbrev PV:az:=aE Dq kI
abbrev LR:az:=aA (aE [] [(2,E3)]) .ret
abbrev Sf:cr:=i (.mins L1 [E1])
abbrev Ey:List (Nat×db):=[(2,L0),(3,V0),(4,V0)]
abbrev nP:List (Nat×db):=[(5,L0)]
abbrev SJ:cr:=fL 3 E2 L0
abbrev yM:cr:=iLt E0
abbrev zd:List (Nat×db):=[(9,L2)]
abbrev IR:List (Nat×db):=[(10,L1)]
abbrev mu:cr:=eJ 0 L0
abbrev Sm:db:=v (.int .i64 190)
abbrev I5:cr:=eJ 3 L0
abbrev sM:cr:=qV L5
abbrev QF:cr:=dC 4 [E0,V1,L0]
abbrev xy:List (Nat×db):=[(3,L1)]
abbrev Ma:cr:=dC 108 [E0]
abbrev HE:az:=aA (aE [Ma,dC 192 [E0,v (.int .i64 191),L0]] []) pX
abbrev Ed:cr:=dC 63 [E0]
abbrev BW:az:=aE [Ed] []
abbrev sQ:cr:=dC 73 [E0,V1,L0]
abbrev Y0:List cr:=[dC 128 [E0],i (.mksl 9 [L0]),pi [.ai,.ai,n0] [(0,1,L1),(2,1,kh)],O2,fL 3 L3 L2]
abbrev vM:List (Nat×db):=[(2,L3)]
abbrev gA:cr:=eJ 1 E2
abbrev o5:cr:=eJ 2 E2
abbrev P7:az:=aA (aE [lq 3 E2,fL 3 E1 L0] []) .ret
abbrev SH:az:=aE Do [(1,L0),(2,V0)]
abbrev lF:db:=v (.int .i64 4)
abbrev mn:az:=aE [] [(2,V0)]
abbrev Dz:az:=aA mn .ret
abbrev XN:cr:=g E3 true (.fld 0 E4)
abbrev Nk:cr:=g E3 true (ld L0)
abbrev kE:db:=v (.str [])
abbrev Ej:List cr:=[pc 3 E0]
abbrev Qt:cr:=g L3 true (.len L5)
abbrev Ra:cr:=gS L3 L7 Vf
abbrev YN:cr:=g L8 true (.len mC)
abbrev yH:cr:=eJ 1 E1
abbrev Yw:List cr:=[yH,cg,gz]
abbrev EK:cr:=i (.una .not E3)
abbrev aar:cr:=g L0 false (.fld 0 E1)
abbrev RL:cr:=gS L0 Vt L3
abbrev LI:cr:=wg E5 V1
abbrev sB:az:=aE [LI] nP
abbrev qU:az:=aE [] [(1,V0)]
abbrev D4:az:=aA (aE [] [(1,E2)]) .ret
abbrev Nt:cr:=jk 1 E7 E9
abbrev oG:cr:=xI L0
abbrev ct:cr:=PB E0
abbrev rI:List (Nat×db):=[(2,L2)]
abbrev py:cr:=eJ 10 L0
abbrev HA:cr:=eJ 8 L1
abbrev abH:az:=dq E20 .skip (.exit 4)
abbrev Q0:cr:=jk 2 Ki PT
abbrev Ir:cr:=pc 2 (v (.agg [.ai,.str []]))
abbrev qO:cr:=fL 2 L2 L1
abbrev LL:cr:=pc 9 (v (.agg [n0,n0,n0,n0,n0,.int .u64 0,.str [],.str [],.str []]))
abbrev oX:List (Nat×db):=[(2,L1)]
abbrev Jf:az:=aE [rK EU yt] Fj
abbrev Q3:az:=dq GQ .skip vQ
abbrev HS:cr:=pc 2 (v (.agg [.str [],n0]))
abbrev IU:az:=aE [wg EU V1] xV
abbrev Jh:az:=aE [rK qX oN] yT
abbrev Jk:az:=dq sV .skip pX
abbrev w8:cr:=eJ 0 L1
abbrev Ib:cr:=eJ 1 L4
abbrev Ij:az:=aE [wg qX V1] xU
abbrev DS:cr:=eJ 1 L1
abbrev SP:List cr:=[ct,jm,DS,dT]
abbrev RV:List cr:=[ct,jm,eJ 2 L1,dT,sN]
abbrev Nm:cr:=my L1 V0
abbrev R1:cr:=g L0 true (.mov E4)
abbrev zm:cr:=g L0 true (.mov E0)
abbrev QB:cr:=gS L0 L6 Vf
abbrev Bb:List cr:=[v6 E1]
abbrev uE:List (Nat×db):=[(6,L2)]
abbrev I2:cr:=g L2 false (ld L3)
abbrev aaz:cr:=g L2 false (.len L5)
abbrev Mc:az:=aA (aE [] [(3,V0),(4,v (.int .i64 222))]) .ret
abbrev yy:List (Nat×db):=[(4,L1)]
abbrev Lk:cr:=lq 12 E3
abbrev Je:cr:=eJ 11 L0
abbrev wM:cr:=qV E5
abbrev Qj:cr:=g L0 false (.mov E6)
abbrev Nj:cr:=eJ 2 L3
abbrev Iw:az:=aA (aE [i (.nils false E0)] iO) (dq E2 (aA mj .ret) .skip)
abbrev uy:List (Nat×db):=[(1,L1)]
abbrev Iu:az:=aE [rK sV qX] BD
abbrev DN:cr:=eJ 9 E2
abbrev Jl:az:=aE [wg sV V1] yT
abbrev BF:cr:=eJ 8 E2
abbrev zv:cr:=pc 12 E0
abbrev Ng:List (Nat×db):=[(2,L0),(3,L1)]
abbrev BN:cr:=PR L1 V0
abbrev o6:List (Nat×db):=[(7,L2)]
abbrev MR:cr:=eJ 4 E2
abbrev Et:cr:=eJ 7 E2
abbrev Bv:cr:=eJ 6 E2
abbrev abA:List cr:=[BF,cg,gz]
abbrev Xu:List cr:=[DN,cg,gz]
abbrev LN:az:=aE [rK oN E9] xU
abbrev MP:az:=dq qX .skip pX
abbrev Qy:List (Nat×db):=[(5,L2),(4,oN)]
abbrev Rp:cr:=i (.callv E2 [L0,L1])
abbrev Qb:az:=dq sV xY .skip
abbrev Lh:az:=aE [wg oN V1] vN
abbrev RA:az:=aA (aE RT o6) (dq E7 xY .skip)
abbrev Qq:az:=aE D5 [(8,E0),(9,L0),(10,V0)]
abbrev Ie:cr:=g L4 true (ld L5)
abbrev RK:cr:=g L4 true (ld L7)
abbrev MW:cr:=gS L4 L9 Vf
abbrev RB:cr:=g L4 true (.fld 1 E2)
abbrev Xw:cr:=g L4 true (.fld 1 E3)
abbrev EH:cr:=pc 4 (v (.agg [n0,n0,.str [],.int .u64 0]))
abbrev DT:List (Nat×db):=[(1,L2)]
abbrev LD:cr:=jk 4 L2 V0
abbrev ZD:List cr:=[dC 18 [E0,V1,v (.str [68,73,83,84,73,78,67,84])],pi [nf,nf,.ai,.str [],.str [],.ai,.ai,.ai,.ai] [(0,1,L0)],MU,Pz]
abbrev K4:db:=v (.str [42])
abbrev xr:cr:=i (.una .not L1)
abbrev xF:List (Nat×db):=[(3,L2)]
abbrev zy:cr:=fL 2 L1 L0
abbrev aa9:List cr:=[dC 131 [E0],eJ 3 E2,zy]
abbrev aaV:List cr:=[dC 132 [E0],eJ 5 E2,me]
abbrev Eh:cr:=dC 107 [E0]
abbrev Sn:cr:=g L3 false (.mov E0)
abbrev aaj:cr:=g mC false (.mov E0)
abbrev Y1:cr:=g L1 false (.mov E2)
abbrev Xl:cr:=g L1 false (.mov E0)
abbrev abk:cr:=pi [n0,n0,.str [],.int .u64 0] []
abbrev RW:az:=aA (aE [nY 1 [v (.str [44])],dC 4 [E0,jw,L0]] xJ) K3
abbrev DV:cr:=i (.callv E2 [])
abbrev Ld:az:=aE uf kI
abbrev HR:az:=aA (aE [] [(3,E4)]) .ret
abbrev GY:cr:=dC 73 [E0,eZ,Vn]
abbrev A5:cr:=i (.fldv false 1 2 L0)
abbrev aab:az:=dq E3 (aE [dC 193 [E0],gA,me] []) (aE [GY,A5,gR,lV] [])
abbrev abv:cr:=i (.fldv false 1 3 L0)
abbrev BX:List (Nat×db):=[(1,L0),(2,Vf)]
abbrev M0:cr:=sy L1 V0
abbrev Mh:az:=aE [rK tR sV] zi
abbrev Q9:az:=dq yt .skip vQ
abbrev Lu:cr:=g L2 true (.fld 1 E1)
abbrev XL:cr:=g oo false (ld v8)
abbrev Lt:az:=aE [wg tR V1] BD
abbrev P2:cr:=gS E3 L3 Vf
abbrev zo:cr:=g L2 true (ld L3)
abbrev Nr:cr:=eJ 2 E1
abbrev ZK:List cr:=[Nr,cg,gz]
abbrev yP:cr:=PR L0 V0
abbrev abc:cr:=g L0 false (.callv L1 [L2])
abbrev Xh:cr:=g L0 false (.call 11 [L3] false)
abbrev abB:cr:=g L0 false (.una .not L4)
abbrev XV:az:=dq oN D0 .skip
abbrev SD:az:=aE D5 [(6,E0),(7,L0),(8,V0)]
abbrev QS:List cr:=[uH,cg]
abbrev Sc:az:=aA (aE QS oX) .ret
abbrev nX:az:=aE [] [(1,Vf)]
abbrev sD:List (Nat×db):=[(1,L3)]
abbrev R4:cr:=gS L1 L4 Vf
abbrev PZ:az:=aA nX .ret
abbrev rP:cr:=g L0 false (.mov E0)
abbrev Dr:db:=v (.int .i64 16)
abbrev Gm:az:=aE [pc 9 E0] BX
abbrev xx:cr:=pc 2 (v (.agg [.str [],.str []]))
abbrev C7:cr:=lq 4 L0
abbrev Nh:cr:=pc 4 (v (.agg [nf,.str [],.str [],.ai]))
abbrev MS:cr:=fL 4 L2 L1
abbrev Th:cr:=g E3 true (.mkl 1 [L1])
abbrev Us:cr:=g E3 true (.call 114 [L2] false)
abbrev LU:cr:=gS L4 L7 Vf
abbrev TV:cr:=g L4 true (.call 68 [L6] false)
abbrev Mv:cr:=g L6 false (ld L7)
abbrev vv:cr:=eJ 3 E1
abbrev Mq:List (Nat×db):=[(13,L1),(14,L2),(15,V0)]
abbrev Cm:cr:=eJ 6 E1
abbrev C8:cr:=eJ 7 E1
abbrev zY:cr:=eJ 24 L0
abbrev zU:az:=aA qU .ret
abbrev Gu:cr:=eJ 6 L1
abbrev Co:cr:=eJ 0 L2
abbrev Au:cr:=v6 L4
abbrev zC:List (Nat×db):=[(2,L6)]
abbrev F6:cr:=eJ 10 L7
abbrev Ao:cr:=lq 2 E2
abbrev LW:az:=aA (aE [] [(1,E4)]) .ret
abbrev TG:List cr:=[ct,zY,fL 1 L1 lF]
abbrev Ux:List cr:=[ct,jm,w8,dT,ct,Ib,lq 9 L5,dC 151 [L6],ct,eJ 10 L8,eJ 5 L9,fL 1 mC L3,ct,eJ 10 v8,eJ 4 rl,fL 1 BI L7]
abbrev UD:az:=dq E8 (aA (aE [] [(1,v (.int .i64 227))]) .ret) .skip
abbrev F7:List cr:=[ct,eJ 22 L0,dU,Bk]
abbrev xg:cr:=eJ 7 L1
abbrev GM:az:=dq tR .skip pX
abbrev U5:cr:=g L0 false (.mov E7)
abbrev GO:cr:=dC 16 [L0]
abbrev pn:az:=aE [rK E5 E4] lI
abbrev tp:az:=aE [] [(3,E5)]
abbrev tL:az:=dq E7 LR .skip
abbrev pp:az:=aE D5 [(4,L0),(5,V0)]
abbrev pr:az:=aA (aE [] [(2,kh)]) .ret
abbrev Ug:cr:=g L2 false (.mov E2)
abbrev UA:cr:=g L2 false (.bin .neq L3 V0)
abbrev LQ:cr:=gS L2 Vt L4
abbrev Gl:cr:=fL 1 L7 L5
abbrev S8:cr:=g L2 false (.mov E5)
abbrev GC:cr:=eJ 1 L7
abbrev Ds:cr:=eJ 4 E1
abbrev CT:cr:=fL 1 L8 L6
abbrev TW:cr:=g L4 true (.call 280 [L6,L8] false)
abbrev Dg:cr:=pc 2 (v (.agg [n0,.ai]))
abbrev TD:List cr:=[jk 1 E8 oN,oG,gp,lV]
abbrev KW:az:=aA (aE [Ao,fL 2 E1 L0] []) .ret
abbrev Ve:db:=v (.str [76,69,70,84])
abbrev UN:db:=v (.str [74,79,73,78])
abbrev AA:List cr:=[pc 2 E0]
abbrev wX:cr:=i (.callv E1 [L1])
abbrev zN:cr:=gS L2 L5 Vf
abbrev MJ:List cr:=[jk 2 qX tR,nQ,HS,qO]
abbrev SX:List cr:=[ct,eJ 20 L0,dU,yE,gd,ct,eJ 20 L5,qV L6,yE,qV L8,i (.lookk [] .ai false L7 L9),nY 1 [E8],rB 1 mC oo,i (.mputk [] L2 L4 v8)]
abbrev Vg:List cr:=[ct,eJ 21 L0,dU,yE,gd,pi [.str [],.str []] [(0,1,E6),(1,1,L4)],i (.mputk [2,2] L2 L5 E8)]
abbrev Vz:List cr:=[ct,eJ 22 L0,dU,eJ 1 E7,gd,nY 1 [L4],rB 1 L2 L5,ct,eJ 22 L7,CT]
abbrev C4:List cr:=[pc 2 E1]
abbrev Gg:cr:=FB 0 L5
abbrev GS:cr:=FB 1 L5
abbrev Ur:List cr:=[ct,mu,xI L1,gR,gd,dC 144 [L2,L4],Gg,GS]
abbrev Tv:List cr:=[ct,eJ 19 L0,dU,i (.mputk [] L2 E6 Vt)]
abbrev UM:List cr:=[ct,py,w8,dT,nY 1 [E4],rB 1 L3 L4,ct,eJ 10 L6,eJ 0 L7,fL 1 L8 L5]
abbrev Mx:List cr:=[dC 81 [],pc 1 (v .nilm),me]
abbrev Gn:List cr:=[pc 8 E0,gp]
abbrev Ga:cr:=fL 1 E2 L2
abbrev UF:List cr:=[uq,pv,gp]
abbrev Tx:List (Nat×db):=[(3,L0),(4,L1),(5,L2),(6,V0),(7,V0)]
abbrev Dp:cr:=pc 1 (v .nilf)
abbrev TH:List cr:=[i (.mkfn 103 [] [E3]),Dp,me]
abbrev SZ:List cr:=[qV qX,EG,dU,Bk,D3 L3 V1,i (.callv L0 [L4,E2]),Gg,GS,gp,CT]
abbrev S7:az:=dq EU (aA (aE [Bc,fL 1 E5 L0] [(6,V0),(7,tR)]) .ret) .skip
abbrev UW:List cr:=[xI sV,qV oN,i (.callv L1 [E2]),dC 41 [L0,L2],IM,Ho]
abbrev F4:cr:=lq 8 L0
abbrev LC:cr:=pc 8 (v (.agg [n0,n0,n0,n0,n0,n0,.int .u64 0,.str []]))
abbrev Lx:cr:=fL 8 L2 L1
abbrev Tb:List cr:=[jk 8 E6 E8,F4,LC,Lx]
abbrev F9:cr:=my L1 eZ
abbrev Lo:az:=aE [rK yt tR] xV
abbrev MY:az:=dq EU .skip pX
abbrev Mw:az:=aE [wg yt V1] zi
abbrev T3:List cr:=[gR,cg,gz]
abbrev Gr:List cr:=[my E6 V0]
abbrev Ml:cr:=gS L2 Vt L5
abbrev Gi:db:=v (.int .i64 23)
abbrev Uk:cr:=g L0 false (.mov L2)
abbrev Aq:db:=v (.int .i64 12)
abbrev TI:az:=dq E20 .skip vQ
abbrev fP:cr:=qV E1
abbrev vg:az:=aE [pc 12 E1,Vp Vn] Io
abbrev xA:cr:=jk 1 L2 L4
abbrev TC:List cr:=[ct,jm,dU,gA,gd,xA,sM]
abbrev LF:az:=aE QS xy
abbrev Nl:az:=aE [my E3 V1] jn
abbrev Dj:cr:=fL 1 L0 V0
abbrev Ls:az:=aE [my E3 eZ] nP
abbrev Lq:cr:=fL 1 L0 Vn
abbrev M7:cr:=g L3 false (.bin .eql L4 V0)
abbrev TO:cr:=g L6 false (.mov E0)
abbrev KV:db:=v (.int .u8 39)
abbrev Ap:cr:=fL 4 E2 L0
abbrev gl2:aq:=.agg [.str [60,62],.str [60,61],.str [62,61],.str [40],.str [41],.str [44],.str [46],.str [42],.str [43],.str [45],.str [47],.str [61],.str [60],.str [62]]
abbrev UX:db:=v (.cptr false gl2 0)
abbrev Ue:cr:=iIa 14 1 UX tR
abbrev TX:cr:=dC 51 [E0,V1,L0,L2]
abbrev CO:cr:=i (.callv L0 [L1])
abbrev LZ:db:=v (.int .i64 11)
abbrev Np:az:=aE AA PE
abbrev T8:cr:=i (.look (.int .i64 0) false L0 L2)
abbrev F8:cr:=fL 1 E8 L0
abbrev C2:cr:=nY 1 [L0]
abbrev Vu:List cr:=[gR,cg,jk 9 L1 E0,lq 9 L2,LL,fL 9 L4 L3]
abbrev wW:cr:=eJ 0 oN
abbrev Uz:az:=dq E23 (aA (aE [qV E3,eJ 3 oN,lq 4 L1,pi [n0,n0,n0,n0,n0,n0,.int .u64 0,.str []] [(0,1,V1),(4,4,L2)],i (.callv L0 [L3]),uk,ux,fL 1 E8 L5] [(9,L6)]) .ret) .skip
abbrev B5:List cr:=[Bc,F8]
abbrev U1:az:=dq E24 (aA (aE [qV E4,eJ 7 oN,dU,eJ 8 oN,gd,pi [.str [],.str []] [(0,1,L2),(1,1,L4)],dC 94 [L0,L5],Bj,Bz] [(11,L7),(12,L8)]) (aA (aA (aE [my sV V0,g L0 true (.mov E1),gS L0 L1 Vf] [(25,L2)]) (dq E25 (aA (aE [qV E4,uI,Ei,eJ 6 L2,gd,dC 198 [L4,qX]] [(11,L5)]) (aA (aE [rK qX V0] [(26,L0)]) (dq E26 (aE [] [(12,v (.int .i64 225))]) .skip))) .skip)) (aA (aA (aE [sy sV V0] [(27,L0)]) (dq E27 (aA (aE B5 [(9,sV)]) .ret) .skip)) (aA (aE [qV E3,pi [n0,n0,n0,n0,n0,n0,.int .u64 0,.str []] [(0,1,eZ),(3,1,qX)],CO,lS,lA,fL 1 E8 L3] [(9,L4)]) .ret)))) .skip
abbrev TN:List cr:=[wM,wW,dU,T8]
abbrev MB:cr:=g L0 true (.una .not L1)
abbrev Gh:cr:=jk 1 yt V0
abbrev TQ:List cr:=[wW,cg,Gh,uj,dC 148 [L1,L3],uk,ux,gp,Gl]
abbrev Tm:az:=dq E37 (aE [wW,cg,Gh,uj,jk 1 yt V1,xI L4,dC 167 [L1,L3,L5],Bj,Bz,fL 1 PK L7] [(22,L8)]) .skip
abbrev SS:az:=dq E38 (AW [xI PK,qV E7,i (.callv L1 [E1]),dC 41 [L0,L2],IM,Ho] [(22,L5)] [(0,3)]) .skip
abbrev U8:cr:=g L2 false (.fld 0 E2)
abbrev TS:az:=dq E9 (aA (aE [gA,oG,ct,eJ 22 L2,gd,dC 41 [L1,L4],Gg,GS] [(6,L6),(7,L7)]) (aA (aA (aE [sy E7 V0,XR,g L0 false (ld L1),g L0 false (.bin .eql L2 fY),g L0 false (.mov L3),g L4 true (.mov E6),g L4 true (.bin .neq L5 eZ),g L0 false (.pick L4 L6 Vf),g L0 false (.mov L7),g L8 true (.mov E6),g L8 true (.bin .neq L9 V0),g L0 false (.pick L8 mC Vf),gS L0 Vt oo] [(10,v8)]) (dq oN (aA (aE [] [(3,V0),(4,v (.int .i64 201))]) .ret) .skip)) (aA (aE [gR,cg,my L1 lF,U8,I2,g L2 false (.bin .eql L4 jw),Ml] [(11,L6)]) (dq qX (aE [] [(5,E6)]) .skip)))) .skip
abbrev Va:List cr:=[ct,py,xg,dT,i (.mkfn 275 [] [E2]),dC 276 [L3,L4]]
abbrev Ua:az:=dq sV (aA (aE [ct,py,xg,dT,sN] [(8,L4)]) (AW [ct,py,xg,dT,Ao,nY 2 [L4],rB 2 L3 L5,ct,eJ 23 L7,qV L8,nY 1 [E5],rB 1 L9 mC,ct,eJ 10 v8,eJ 7 rl,fL 1 BI L6,ct,eJ 23 AD,fL 1 zS oo] [] [(7,0),(8,0),(9,0)])) .skip
abbrev UU:az:=dq tR (aA (aE [] [(3,V0),(4,v (.int .i64 228))]) .ret) .skip
abbrev Ui:List cr:=[ct,py,Gu,dT,sN,wg L4 E8]
abbrev UZ:cr:=pi [n0,n0,n0,n0,n0,n0,.int .u64 0,.str []] [(0,1,E0)]
abbrev Vi:az:=dq Py .skip vQ
abbrev UJ:cr:=g L0 false (.mov E8)
abbrev U7:cr:=g L0 false (.mov E5)
abbrev Lw:cr:=g L0 false (.len L2)
abbrev Tj:cr:=g L0 false (.bin .gtr L1 L3)
abbrev Td:cr:=g L5 false (.una .not L7)
abbrev Mn:az:=aA (aE uf PE) .ret
abbrev TP:az:=dq QC Mn .skip
abbrev Ud:List cr:=[pi [n0,n0] [(0,1,kh),(1,1,kh)],pc 2 (v (.agg [n0,n0])),zy]
abbrev T1:cr:=g L0 false (.bin .eql L1 eZ)
abbrev LB:az:=aA (aE [] [(1,V1)]) .ret
abbrev Up:az:=dq E4 (aA (aE [] [(1,eZ)]) .ret) .skip
abbrev Uj:cr:=g L0 true (.pick L3 Vt L5)
abbrev Vs:List cr:=[jk 9 tR EU,Wo,LL,Pz]
abbrev Gx:az:=aA qN (aA (ed 1 (aA tp (aA (aE [jk 2 E0 E3,nQ,wX] o6) tL))) sB)
abbrev Gd:cr:=pi [n0,n0,.int .u64 0,.str []] []
abbrev Vd:cr:=i (.eqa false [0,0,0,2] L1 L2)
abbrev T5:cr:=g L3 true (.fld 3 E1)
abbrev UH:db:=v (.str [78,85,76,76])
abbrev S0:cr:=dC 51 [E0,jw,L0,L3]
abbrev Mt:db:=v (.str [67,79,85,78,84])
abbrev SU:cr:=dC 73 [E0,jw,L0]
abbrev Mz:az:=aE [nY 1 [v (.str [41])],SU] []
abbrev gl0:aq:=.agg [.str [98,111,111,108],.int .i64 1,.str [105,110,116],.int .i64 2,.str [116,101,120,116],.int .i64 3]
abbrev gl1:aq:=.agg [.str [83,69,76,69,67,84],.str [68,73,83,84,73,78,67,84],.str [70,82,79,77],.str [76,69,70,84],.str [74,79,73,78],.str [79,78],.str [87,72,69,82,69],.str [71,82,79,85,80],.str [66,89],.str [72,65,86,73,78,71],.str [85,78,73,79,78],.str [65,76,76],.str [79,82,68,69,82],.str [76,73,77,73,84],.str [65,83,67],.str [68,69,83,67],.str [65,83],.str [65,78,68],.str [79,82],.str [78,79,84],.str [73,83],.str [78,85,76,76],.str [84,82,85,69],.str [70,65,76,83,69],.str [67,79,85,78,84],.str [83,85,77],.str [77,73,78],.str [77,65,88]]
def CJ:az:=aA ac8 (aA (dq Py .skip pX) (aA (ed 1 (aA (aE an4 [(12,L2)]) (aE [eJ 0 sV,cg,rB 1 qX L1] JN))) UK))
def Uf:az:=aA YL (aA (aA (aE [dC 162 [],zw] [(14,L1)]) (dq yt xY .skip)) (aA (aE [rV,dC 222 [L0],gp,lV] pR) (aA (aE aad [(5,L7),(6,L6)]) (aA (aA (aE xW xV) (dq EU Fl .skip)) (aA (aE [AP,lq 3 E5,Vb,lS,lA,Of,KF,To] [(7,L6),(6,L5)]) (aA (aA (aE xW Fj) (dq GQ Fl .skip)) (aA (aE [AP,lq 5 E7,Uy,lS,lA,gp,zA] [(8,L5),(6,L4)]) (aA (aA (aE xW FU) (dq Ki xY .skip)) (aA (aE [xI E8,dC 183 [L0],ng,nq] [(9,L2),(6,L3)]) (aA (aA (aE [xI E8,UB,ng,nq] [(10,L3)]) (aA (aE [sy E6 V0,g L0 false (.mov oN),aay,AV,agk,g L3 false (.fld 2 E7),g L3 false (ld L5),g L3 false (.call 184 [L4,L6] false),g L3 false (.una .not L7),gS L3 Vt L8] [(18,L9)]) (dq QC xY .skip))) (aA (aE Dq xU) (aA (aA (aE aaZ [(19,L1),(20,L2),(21,V0)]) (ed 0 (.loop [12,22] CJ))) (aA (aE [dC 43 [qX]] []) (aA (aE [KU,cg,KU,dT,sN,D3 L4 V1,jk 12 L1 L5,lq 12 L6,uP,fL 12 L8 L7] [(13,L8)]) (aA (aE [xI E8,dC 398 [L0],dC 48 [qX],dC 184 [L1,L2],g L3 true (.fld 0 tR),xo,g L3 true (.bin .eql L5 A8),Ep,g L7 true (.fld 11 tR),Ii,g L7 true (.fld 4 E7),g L7 true (ld mC),g L7 true (.bin .eql L9 oo),gS L7 v8 Vf,g rl true (.fld 10 tR),PY,g rl true (.fld 3 E7),g rl true (ld AD),g rl true (.call 399 [F3,zS] false),gS rl Tp Vf] [(3,PN)]) .ret)))))))))))))))
def ar9:br:=⟨23,2,.pure,[.env 3],Uf⟩
def al3:az:=aA (aE Do Ji) (aA (aA (aE [dC 162 [],zw] [(15,L1)]) (dq EU Qi .skip)) (aA (aE [vS,dC 222 [L0],gp,lV] pZ) (aA (aE aad [(6,L7),(7,L6)]) (aA (aA (aE [sy E7 V0] Fj) (dq GQ (aA (aE [] [(4,Vt)]) .ret) .skip)) (aA (aE [Be,lq 3 E6,Vb,lS,lA,Of,KF,To] [(8,L6),(7,L5)]) (aA (aA (aE [sy E7 V0] FU) (dq Ki (aA (aE [] [(4,Vt)]) .ret) .skip)) (aA (aE Zs [(9,L5),(7,L4)]) (aA (aE [i (.maxs E2 [kh]),i (.bin .rem L0 Qf),eJ 3 E8,Rk,eJ 4 E8,Qd] []) (aA (aE Zs [(10,L5),(11,L4)]) (aA (aA (aE [sy E7 V0,g L0 false (.mov qX),aay,AV,g L3 false (.fld 0 E9),D1,QM,g L3 false (.fld 0 oN),g L3 false (ld L7),g L3 false (.len L8),g L3 false (.bin .neq L6 L9),gS L3 Vt mC] [(18,oo)]) (dq QC Qi .skip)) (aA (aE [My,cg,gz] [(12,L2)]) (aA (aA (aE [rK sV eZ] [(19,L0)]) (dq PT Qi .skip)) (aA (aE [xI E9,D3 sV eZ,dC 290 [L0,L1],lS,lA,gp,zA] [(13,L5),(7,L4)]) (aA (aE [xI oN,D3 sV eZ,dC 290 [L0,L1],lS,lA,gp,zA] [(14,L5),(11,L4)]) (aA (aE [my E7 V0,g L0 true (.mov qX),Zt,rt,g L3 true (lt tR),g L3 true (lt yt),g L3 true (.call 401 [L4,L5] false),Ep,g L7 true (.fld 0 oN),Ii,g L7 true (.mov sV),g L7 true (.bin .sub mC V1),g L7 true (.idxs 12 L9 oo),g L7 true (.fld 11 v8),g L7 true (ld rl),g L7 true (.fld 4 E8),g L7 true (ld F3),g L7 true (.bin .eql BI AD),gS L7 zS Vf] [(4,Tp)]) .ret)))))))))))))))
def auX:br:=⟨20,3,.pure,[.env 4],al3⟩
def ab8:az:=aA ac8 (aA (dq Py .skip pX) (aA (ed 1 (aA (aE an4 [(11,L2),(10,PK)]) (aA (aE [AP,lq 9 qX,dC 219 [L0,L1],lS,lA,gp,zA] [(12,L5),(13,L4)]) (aA (aA (aE [sy tR V0,g L0 false (.mov E9),g L0 false (.fld 0 sV),Q4,RI,g L0 false (.bin .add L1 L4),g L0 false (.fld 0 E8),g L0 false (ld L6),g L0 false (.len L7),g L0 false (.bin .gtr L5 L8),gS L0 Vt L9] [(23,mC)]) (dq E23 xY .skip)) (aA (aE [xI E8,eJ 0 sV,dU,Bk,wg E9 L3,D3 L4 V1,dC 290 [L0,L5],Bj,Bz,gp,fL 1 L9 L7] [(14,L9),(13,L8)]) (aA (aA (aE [sy tR V0,g L0 false (lt yt),g L0 false (lt sV),g L0 false (.call 401 [L1,L2] false),g L0 false (.una .not L3),Md] [(24,L5)]) (dq E24 xY .skip)) (aA (aE [eJ 0 sV,cg,gz,wg E9 L2] [(9,L3)]) (aA (aE [Gt oN V0] [(25,L0)]) (dq E25 (aA (aA (aE [KU,cg,gz,PR E9 L2,g L3 false (.fld 0 E8),D1,agk,g L3 false (.idxs 12 L5 L6),g L3 false (.fld 0 L7),g L3 false (ld L8),g L3 false (.bin .neq L9 DM),gS L3 Vt mC] [(26,oo)]) (dq E26 xY .skip)) zl) .skip))))))))) UK))
def amh:az:=aA YL (aA (aA (aE [dC 162 [],zw] [(15,L1)]) (dq EU xY .skip)) (aA (aE [rV,dC 222 [L0],gp,lV] pR) (aA (aE aad [(5,L7),(6,L6)]) (aA (aA (aE xW Fj) (dq GQ Fl .skip)) (aA (aE [AP,lq 3 E5,Vb,lS,lA,Of,KF,To] [(7,L6),(6,L5)]) (aA (aA (aE xW FU) (dq Ki Fl .skip)) (aA (aE [AP,lq 5 E7,Uy,lS,lA,gp,zA] [(8,L5),(6,L4)]) (aA (aA (aE xW [(18,L0)]) (dq QC xY .skip)) (aA (aE [] [(9,V0)]) (aA (aA (aE aaZ [(19,L1),(20,L2),(21,V0)]) (ed 0 (.loop [3,10,11,12,13,14,22,23,24,25,26] ab8))) (aA (aE [KU,cg,gz,D3 L2 V1,my E9 L3] D2) .ret)))))))))))
def au1:br:=⟨27,2,.pure,[.env 3],amh⟩
def amL:az:=aA (aE [] [(0,Vf)]) (aA (aE [dC 120 [],dC 121 [L0,v (.str [83,69,76,69,67,84,32,98,32,70,82,79,77,32,116,32,87,72,69,82,69,32,97,32,61,32,49])],ng,nq,DK,QE,fL 2 L5 L2] [(1,L5),(2,L3),(3,L4)]) (aA (aE [dC 120 [],dC 121 [L0,v (.str [83,69,76,69,67,84,32,122,32,70,82,79,77,32,116])],ng,nq,DK,QE,fL 2 L5 L2] [(4,L4)]) (aA (aE [my E3 V0,g L0 true (.mov E2),Zt,rt,g L3 true (.mov E4),g L3 true (.bin .eql L4 (v (.int .i64 222))),gS L3 L5 Vf,g L6 true (.fld 0 E1),g L6 true (lt L7),g L6 true (.call 185 [L8] false),g L6 true (.mkl 1 [V1,fY,jw,A8]),g L6 true (.call 186 [L9,mC] false),gS L6 oo Vf,Zn,Qn,g v8 true (.len BI),g v8 true (.bin .eql F3 V1),gS v8 AD Vf,g zS true (.fld 1 E1),Qu,g zS true (.idxs 1 PN V0),g zS true (ld L20),g zS true (.bin .eql L21 (v (.str [98]))),gS zS PS Vf] [(0,L23)]) .ret)))
def au4:br:=⟨5,0,.pure,[.env 0],amL⟩
def CE:az:=aA ze (aA zk (aA (ed 1 (aA (aE aaJ [(5,L2),(4,E8)]) (AW [pu,cg,pu,dT,DY,xw,dC 224 [L5,jw],Lj,qV L7,dC 225 [L8,jw],jk 3 L1 E4,eJ 1 mC,fL 1 oo L6,jk 3 L3 E4,eJ 2 rl,fL 1 BI L9] [] [(2,13),(3,13)]))) xp))
def ae0:az:=aA (aE [uq,gp] HU) (aA (aE [uH,cg,dC 226 [L1,jw],aax,gp,R7] D2) (aA (aA (aE Mp Si) (ed 0 (.loop [4,5,9] CE))) (aA (aE [vS,Jc] []) .ret)))
def atx:br:=⟨10,1,.pure,[.cell true 1 2],ae0⟩
def Z2:az:=aA (aE I8 [(1,L0),(2,V0),(3,V0)]) (aA (aE [dC 123 [E0,v (.fn 127 [] [])],Eo,Ly,FB 2 L0,fL 3 E1 L1] [(2,L2),(3,L3)]) .ret)
def asA:br:=⟨4,1,.pure,[.cell true 3 1,.env 2,.env 3],Z2⟩
def EP:az:=aA (aE [rK E29 E28] [(30,L0)]) (aA (dq E30 .skip vQ) (aA (ed 3 (aA (aE [jk 3 E27 E29,Nu,K8,RC] [(15,L2)]) (aA (aE [lq 3 EU,eJ 1 E9,dU,dC 189 [L0,L2],IM,Ho] [(16,L4),(17,L5)]) (aA (aA (aE [sy Ki V0] [(31,L0)]) (dq E31 (aA (aE Rq [(5,v (.int .i64 90)),(6,Ki)]) .ret) .skip)) (aE [eJ 3 E9,cg,eJ 2 EU,dT,pi [n0,nf] [(0,1,GQ),(1,1,L3)],nY 2 [L4],rB 2 L1 L5,eJ 3 E9,Rl] []))))) (aE [wg E29 V1] [(29,L0)])))
def zf:az:=aA (aE [rK Py PK] [(23,L0)]) (aA (dq E23 .skip pX) (aA (ed 1 (aA (aE Y4 [(11,L2),(10,Py)]) (aA (aE Yc [(12,L6)]) (aA (aA abM (aA (aE [sy tR V0] [(24,L0)]) (dq E24 (aA (AW [HQ,iMu D9 oN,PB sV,eJ 24 L2,gd,wg L1 L4,Ee] [(5,L5),(6,tR)] [(2,7),(3,7),(4,7)]) .ret) .skip))) (aA (aA (aE [dC 169 [sV]] zi) (aA (aE [my oN V0] [(25,L0)]) (dq E25 (aE [dC 170 [sV],eJ 1 E9,me,eJ 2 E9,fL 1 L3 yt] []) (aA (aE [eJ 2 E9,cg,dC 190 [L1,yt],He] [(26,L3)]) (dq E26 (aA (aE [HQ,iMu D9 oN,wg L1 wO,Ee] [(5,L2),(6,v (.int .i64 229))]) .ret) .skip))))) (aE abL [])))))) (aE [wg Py V1] [(22,L0)])))
def WK:az:=aA (aE [uq,pc 3 E1,KF] [(2,L0),(3,L1),(4,L2),(5,V0),(6,V0)]) (aA (aA (aE RN xt) (aA (aE [sy E7 V0] [(18,L0)]) (dq QC (aA (aE Rq [(5,V0),(6,E7)]) .ret) .skip))) (aA (aA (aE [lq 3 E3,dC 135 [L0]] vY) (aA (aE Hq [(19,L0)]) (dq PT (aA (aE Rq [(5,V0),(6,E8)]) .ret) .skip))) (aA (aE [eJ 2 E3,cg,pi [.ai,.ai,.ai,.ai,n0] [(4,1,L1)],KF,fL 5 L3 L2] [(9,L3)]) (aA (aA (.lift 9 0 9 (aE Mp [(20,L1),(21,L2),(22,V0)])) (ed 0 (.loop [9999,5,6,10,11,12,13,14,23,24,25,26] zf))) (aA (aA (.lift 9 3 2 (aE [EE,cg,gz] [(27,L1),(28,L2),(29,V0)])) (ed 2 (.loop [9999,5,6,15,16,17,30,31] EP))) (aA (aE [lq 5 E9,Ee] [(5,V0),(6,V0)]) .ret))))))
def arP:br:=⟨32,2,.pure,[.cell true 5 4,.env 5,.env 6],WK⟩
def ny:az:=aA Iz (aA (dq E20 .skip pX) (aA (ed 1 (aA (aE [jk 9 Ki PT,Wo,ahM,Pz] [(10,L2),(9,PT)]) (aA (aE [rV,lq 9 oN,dC 172 [L0,L1],lS,lA,gp,zA] [(11,L5),(12,L4)]) (aA (aA (aE [sy sV V0] [(21,L0)]) (dq PK (aA (aE Jd [(5,sV)]) .ret) .skip)) (aE [xI qX,i (.callv E8 [E9,L0])] []))))) I7))
def ag2:az:=aA (aE Xq IP) (aA (aA Mj (aA (aE xW xV) (dq EU (aA (aE Jd [(5,E6)]) .ret) .skip))) (aA (aA (aE [pu,cg,gz,rK L2 V1,g L3 false (.fld 0 E3),D1,QM,g L3 false (.bin .gtr L6 fY),gS L3 Vt L7] [(16,L8)]) Zp) (aA (aE XA D8) (aA (aE [i (.mkfn 182 [] [E7])] xG) (aA (aA (aE Mp HW) (ed 0 (.loop [5,9,10,11,12,20,21] ny))) (aA (aE aaN []) (aA (aE Zx [(13,L5),(14,L6)]) (aA (aA (aE [qV E7,uI,eJ 11 L1,dT,g L3 false (.mov yt),g L3 false (.bin .neq L4 V0),GW,g L6 false (.mov tR),g L6 false (.len L7),g L6 false (.fld 1 E3),g L6 false (ld L9),g L6 false (.len mC),g L6 false (.bin .neq L8 oo),gS L6 Vt v8,g rl false (.mov tR),g rl false (.fld 2 E3),g rl false (ld F3),g rl false (.call 184 [BI,AD] false),g rl false (.una .not zS),gS rl Vt Tp] [(22,PN)]) Y7) (aA (aE Ze [(5,V0)]) .ret)))))))))
def arT:br:=⟨23,2,.pure,[.cell true 1 4,.env 5],ag2⟩
def aac:az:=aA (aE Es Li) (aA (aE Xs [(4,L2),(5,L3),(6,L4)]) (aA (aA (aE Jb nS) (dq E7 (aA (aE uf [(2,L0),(3,RO)]) .ret) .skip)) (aA (aE [PB E4,jm,dU,jk 1 L2 E5,gd,So] [(2,L5),(3,V0)]) .ret)))
def ate:br:=⟨8,1,.pure,[.env 2,.env 3],aac⟩
def Zl:az:=aA (aE Do [(1,L0),(2,V0),(3,V0)]) (aA (aE Xs [(4,L3),(5,L4)]) (aA (aA (aE [i (.una .not E5)] lI) (dq E6 (aA (aE [] [(2,E4),(3,RO)]) .ret) .skip)) (aA (aE [] [(2,V0),(3,V0)]) .ret)))
def as7:br:=⟨7,1,.pure,[.env 2,.env 3],Zl⟩
def Cr:az:=aA Ru (aA Sw (aA (ed 1 (aA RG (aA (aE XJ [(8,L4)]) MM))) R5))
def TE:az:=aA lg (aA Ni (aA (aA QK (ed 0 (.loop [2,3,7,8] Cr))) BB))
def asi:br:=⟨9,2,.pure,[.env 2],TE⟩
def AB:az:=aA En (aA Bo (aA (ed 1 (aA (aE [jk 12 E7 E9,DE,uP,Ek] pZ) (aA (aE [uu,cg,Is] JN) (dq qX (aE [eJ 3 E5,cg,yL,rB 1 E4 L2] [(4,L3)]) .skip)))) zl))
def ag3:az:=aA R6 (aA (aA (aE [BL,UB,ng,nq] sG) (aA (aE [sy E3 V0] lI) (dq E6 (aA vX .ret) .skip))) (aA Rj (aA (aA (aE DH [(7,L1),(8,L2),(9,V0)]) (ed 0 (.loop [5,10,11] AB))) (aA (aE [dC 43 [E4]] []) (aA (aE [dC 48 [E4]] iO) .ret)))))
def auD:br:=⟨12,1,.pure,[.env 2],ag3⟩
def Ct:az:=aA (aA (aE [v6 E3,rK E4 L0] vY) (dq E8 .skip vQ)) (aA (ed 3 (aA (aE [jk 1 E3 E4,cg,D3 E4 V1,jk 1 E3 L2,gd,sy L1 L4] [(9,L5)]) (dq E9 (aA (aE [jk 1 E3 E4,cg,jk 1 E0 E2,lV] []) R0) .skip))) Sr)
def s7:az:=aA (aA (aE [vL,rK E2 L0] sH) qN) (aA (ed 1 (aA (aE [jk 1 E0 E2,cg,D3 E2 V1,jk 1 E0 L2,gd,my L1 L4] [(7,L5)]) (dq E7 (aA (aE [Z6] kI) (aA (aA (aE [] [(4,V1)]) (ed 2 (.loop [8,9] Ct))) (aA (aE [Z6,i (.clr (.int .i64 0) L0)] []) (aA (aE [i (.slice 1 E0 none (some E2))] mw) .ret)))) .skip))) R0)
def Ub:az:=aA mj (aA (aA (aE [vL,rK L0 eZ] xJ) (dq E5 (aA (aE [] [(1,E0)]) .ret) .skip)) (aA (aA (aE [] [(2,V1)]) (ed 0 (.loop [1,3,4,6,7,8,9] s7))) (aA (aE [] [(1,E0)]) .ret)))
def asn:br:=⟨10,1,.keep,[.env 1],Ub⟩
def GG:az:=aA Ru (aA Sw (aA (ed 1 (aA RG (aA (aE [jk 2 E0 E3,nQ,jk 2 E1 E3,lq 2 L2,i (.eqa true [0,1] L1 L3)] [(8,L4)]) MM))) R5))
def afX:az:=aA lg (aA Ni (aA (aA QK (ed 0 (.loop [2,3,7,8] GG))) BB))
def atV:br:=⟨9,2,.pure,[.env 2],afX⟩
def adO:az:=aA (aA (aE [iLq E8 E1] xU) (dq qX .skip (.exit 1))) (aA (ed 2 (aE [yE,cg,gR,dT,jk 12 L3 E8,lq 12 L4,PB E5,eJ 2 L6,qV L7,jk 1 L8 E1,qV L9,i (.una .neg mC),dC 69 [L5,oo],nY 12 [v8],rB 12 L1 rl,yE,fL 1 F3 BI] [])) xp)
def akF:az:=aA (aE [uq,gp] G7) (aA (aE [rV,dC 77 [L0],ng,nq,DK] [(5,L2),(6,L4)]) (aA (ed 0 (aA (aE Jb qM) (dq E9 (aA (aE DD [(4,RO)]) .ret) (aA (aE [rK E1 V0,Sz,XR,Q4,RI,aby,LY] [(10,L6)]) (dq oN (aA (aE DD [(4,eZ)]) .ret) .skip))))) (aA (aE BK nS) (aA (aA (.lift 7 0 12 (aE [PB E5,eJ 2 L0,dU,jk 1 L2 E1,gd] [(8,L4)])) (ed 1 (.loop [11] adO))) (aA (aE [xI E7,Lr] [(4,V0)]) .ret)))))
def au6:br:=⟨12,2,.pure,[.cell true 1 3,.env 4],akF⟩
def alq:az:=aA (aE [uq,pv] Io) (aA (aE [gR,cg,pu,dT,dC 404 [L1,L3,v (.fn 405 [] [])]] [(4,L4)]) .ret)
def au9:br:=⟨5,2,.pure,[.env 4],alq⟩
def amy:az:=aA (aE [uq,pc 9 E1,gp] IP) (aA (aA Mj (aA (aE xW nS) (dq E7 (aA (aE Jd [(5,E6)]) .ret) .skip))) (aA (aE [rV,lq 9 E3,dC 172 [L0,L1],lS,lA,Qp] [(5,L4)]) .ret))
def auV:br:=⟨8,2,.pure,[.cell true 1 4,.env 5],amy⟩
def am1:az:=aA (aE [uq,QE] Xb) (aA (aA Mj (aA (aE xW yT) (dq sV (aA (aE MC [(4,V0),(5,E6)]) .ret) .skip))) (aA (aE [dC 122 [E1],Eo,Ly,FB 2 L0,O2,fL 3 L4 L1] [(7,L4),(8,L2),(9,L3)]) (aA (aA (aE [sy E9 V0] BD) (dq tR (aA (aE MC [(4,E8),(5,E9)]) .ret) .skip)) (aA (aE [rV,lq 3 E7,Vb,lS,lA,Of,KF,To] [(10,L6),(8,L4),(9,L5)]) (aA (aA (aE [sy E9 V0] zi) (dq yt (aA (aE MC [(4,E8),(5,E9)]) .ret) .skip)) (aA (aE [rV,lq 5 oN,Uy,lS,lA,gp,zA] [(11,L5),(9,L4)]) (aA (aA (aE [sy E9 V0] xV) (dq EU (aA (aE MC [(4,V0),(5,E9)]) .ret) .skip)) (aA (aE [xI qX,eJ 1 oN,dU,pi [.ai,.ai] [(0,1,L0),(1,1,L2)],fL 2 E3 L3] [(4,V0),(5,V0)]) .ret))))))))
def auW:br:=⟨16,2,.pure,[.cell true 2 3,.env 4,.env 5],am1⟩
def anO:az:=aA (aE BK [(0,L0)]) (aA (aE [aaB,pi [.str [],n0] [(0,1,v (.str [98])),(1,1,fY)],nY 2 [L0,L1],pi [.str [],.ai,.ai] [(0,1,v (.str [116])),(1,1,L2)],aaB,nY 2 [L4],pi [.str [],.ai,.ai] [(0,1,v (.str [117])),(1,1,L5)],nY 3 [L3,L6],pi [.ai] [(0,1,L7)],fL 1 E0 L8] []) .ret)
def auY:br:=⟨1,0,.pure,[.cell true 1 0],anO⟩
def aei:az:=aA (aA (aE [vL,rK E3 L0] xJ) K3) (aA (ed 1 (aA (aE XJ [(6,L4)]) (dq E6 D0 .skip))) (aE [wg E3 V1] kI))
def alj:az:=aA lg (aA Ni (aA (aA Q7 (ed 0 (.loop [2,5,6] aei))) BB))
def au2:br:=⟨7,2,.pure,[.env 2],alj⟩
def adc:az:=aA QI (aA Mk (aA (ed 1 (aA (aE [jk 12 E5 E7,DE,uP,Ek] pR) (aE [EG,cg,yL,rB 1 E3 L2] sG))) SB))
def amE:az:=aA R6 (aA PV (aA (aA (aE DH [(5,L1),(6,L2),(7,V0)]) (ed 0 (.loop [4,8] adc))) LR))
def au7:br:=⟨9,1,.pure,[.env 2],amE⟩
def Vr:az:=aA vX (aA (aE [iMn 3,vL,Sf,i (.slice 3 E0 none (some L2)),rB 3 L0 L3] [(2,L4)]) .ret)
def asf:br:=⟨3,2,.keep,[.env 2],Vr⟩
def T4:az:=aA vX (aA (aE [iMn 2,vL,Sf,i (.slice 2 E0 none (some L2)),rB 2 L0 L3] [(2,L4)]) .ret)
def ar8:br:=⟨3,2,.pure,[.env 2],T4⟩
def UR:az:=aA vX (aA (aE [iMn 1,vL,Sf,i (.slice 1 E0 none (some L2)),rB 1 L0 L3] [(2,L4)]) .ret)
def ase:br:=⟨3,2,.pure,[.env 2],UR⟩
def NH:az:=aA (aE I8 Ey) (aA (aE I8 nP) (aA (aE [dC 124 [E0],Eo,Ly,FB 2 L0] [(6,L1),(7,L2),(8,L3)]) (aA (aA (aE Hq xU) (dq qX (aA (aE [lq 3 E5,SJ] [(3,E7),(4,E8)]) .ret) .skip)) (aA (aE [yM,pi [.ai,n0,n0,n0] [(0,1,E6),(1,1,L0)],pc 4 L1] zd) (aA (aE [i (.callv E1 [E9]),O2,fL 3 L1 L0] IR) (aA (aA (aE [PB E9,mu,dU,Bk,Gt L3 V0] [(12,L4)]) (dq sV (aE [dC 108 [E9],dC 192 [E9,Sm,L0]] []) .skip)) (aA (aA (aE [PB E9,I5,dU,sy L2 V0] [(13,L3)]) (dq tR (aA (AW [lq 3 E5,PB E9,eJ 2 L1,dT,PB E9,eJ 3 L4,sM,SJ] [(3,L3),(4,L6)] [(1,8),(2,8),(3,8),(4,8),(5,8),(6,8)]) .ret) .skip)) (aA (aE [lq 3 oN,SJ] [(3,V0),(4,V0)]) .ret))))))))
def ar4:br:=⟨14,2,.pure,[.cell true 3 2,.env 3,.env 4],NH⟩
def vh:az:=aA (aA (aE [nY 1 [v (.str [85,78,73,79,78])],QF] xy) (dq E3 .skip pX)) (ed 1 (aA (aA (aE [gR,cg,gz,my L2 fY] [(4,L3)]) (dq E4 HE .skip)) (aA BW (aA (aE [nY 1 [v (.str [65,76,76])],sQ] []) (AW [gR,cg,dC 128 [E0],i (.mksl 9 [L2]),rB 9 L1 L3,gR,fL 1 L5 L4] [] [(0,3),(0,4),(1,3),(1,4)])))))
def Xz:az:=aA (aE I8 mw) (aA (aE Y0 vM) (aA (ed 0 (.loop [3,4] vh)) (aA (aA (aE [dC 18 [E0,V1,v (.str [79,82,68,69,82])]] nP) (dq E5 (aA (aE [nY 1 [v (.str [66,89])],sQ] []) (aE [i (.mkfn 194 [E0] []),dC 195 [E0,fY,L0],gA,lV] [])) .skip)) (aA (aA (aE [dC 18 [E0,V1,v (.str [76,73,77,73,84])]] lI) (dq E6 (aE [dC 193 [E0],o5,me] []) .skip)) P7))))
def arU:br:=⟨7,1,.trunc,[.cell true 3 1],Xz⟩
def ZX:az:=aA SH (aA (aE [Vp (v (.fn 52 [] []))] kI) (aA (aA (aE [uH,cg,gz,Gt L2 lF,g L3 false (.fld 0 E1),D1,g L3 false (.mov E3),g L3 false (.call 87 [L5,L6] false),gS L3 Vt L7,g L8 false (.fld 0 E1),g L8 false (ld L9),g L8 false (.call 88 [mC,v (.fn 13 [] [])] false),g L8 false (.una .not oo),gS L8 Vt v8] [(4,rl)]) (dq E4 (aA (aE [] [(2,v (.int .i64 210))]) .ret) .skip)) Dz))
def asR:br:=⟨5,1,.pure,[.env 2],ZX⟩
def Ew:az:=aA QI (aA Mk (aA (ed 1 (aA (aE [jk 3 E5 E7,Nu,K8,RC] pR) (aE [XN,Nk,g E3 true (.bin .eql L1 kE),g E3 true (.mov L2),g L3 true (.fld 1 E4),xo,g L3 true (.call 196 [L5] false),g E3 true (.pick L3 L6 Vf),g E3 true (.mov L7),g L8 false (.fld 0 E4),g L8 false (ld L9),g L8 false (.call 11 [mC] false),g L8 false (.mov oo),g v8 true (.fld 1 E4),Qn,g v8 true (.bin .eql BI V0),g L8 false (.pick v8 F3 Vf),g E3 true (.pick L8 Vt AD),gS E3 zS Vf] [(3,Tp)]))) SB))
def ajl:az:=aA (aE Ej [(1,L0),(2,V0)]) (aA (aE [uH,cg,gz,Gt L2 V0,g L3 true (.fld 0 E1),xo,Qt,g L3 true (.bin .leq L6 fY),Ra,g L8 true (.fld 1 E1),g L8 true (ld L9),YN,g L8 true (.bin .leq oo fY),gS L8 v8 Vf,g rl true (.fld 2 E1),PY,g rl true (.bin .eql F3 kh),g rl true (.mov AD),g zS false (.fld 2 E1),g zS false (ld Tp),g zS false (.call 196 [PN] false),g rl true (.pick zS Vt L20),gS rl L21 Vf] [(3,PS)]) (aA (aA (aE Yw [(5,L1),(6,L2),(7,V0)]) (ed 0 (.loop [4,8] Ew))) (aA (aA (aE [EK,aar,g L0 false (ld L1),g L0 false (.call 136 [L2,v (.fn 138 [] [])] false),RL] [(9,L4)]) (dq E9 (aA (aE [] [(2,v (.int .i64 180))]) .ret) .skip)) Dz)))
def arq:br:=⟨10,1,.pure,[.env 2],ajl⟩
def IS:az:=aA (aE [rK E5 wO] lI) (aA qN (aA (ed 1 (aA (aE [i (.idxv false 6 1 E4 E5)] kI) (aA (aE [i (.callv E3 [])] iO) (aA (aE [sy E2 V0] nS) (dq E7 pX .skip))))) sB))
def akX:az:=aA qU (.scope (aA mn (aA (aA (aE [i (.mkfn 142 [E0] []),i (.mkfn 146 [E0] []),i (.mkfn 147 [E0] []),i (.mkfn 149 [E0] []),i (.mkfn 150 [E0] []),i (.mkfn 168 [E0] []),pi [.nilf,.nilf,.nilf,.nilf,.nilf,.nilf] [(0,1,L0),(1,1,L1),(2,1,L2),(3,1,L3),(4,1,L4),(5,1,L5)]] [(4,L6),(5,V0)]) (ed 0 (.loop [9999,3,6,7] IS))) D4)))
def aup:br:=⟨8,1,.keep,[.env 1],akX⟩
def GK:az:=aA En (aA Bo (aA (ed 1 (aA (aE [Nt,oG,gp,lV] pR) (aA (aE [AP,dC 41 [L0,E2],ng,nq] pZ) (aE [nY 1 [E5],rB 1 E3 L0] xy)))) zl))
def Yj:az:=aA mj (aA (aE [ct,eJ 22 L0,dU] rI) (aA (aA (aE [ct,py,eJ 4 L1,dT] [(6,L3)]) (dq E6 (aE [ct,eJ 23 L0,dU] rI) .skip)) (aA PV (aA (aA (aE [ct,py,HA,dT,sN] [(7,L3),(8,L4),(9,V0)]) (ed 0 (.loop [9999,4,5,10] GK))) (aA (aE [] [(1,E3)]) .ret)))))
def atc:br:=⟨11,1,.keep,[.env 1],Yj⟩
def xq:az:=aA Iz (aA abH (aA (ed 5 (aA (aE [Q0,nQ,Ir,qO] pZ) (aA (aE [DY,cg] sH) (aA (aA (aE [uu,mu,dU,uu,eJ 0 L3,xw,v6 L5,D3 L6 V1,jk 9 L2 L7,lq 9 L8,LL,fL 9 mC L9] [(7,mC)]) (aA (aE [my E6 kE] [(21,L0)]) (dq PK (aE [eJ 8 E7,cg] sH) .skip))) (aE [nY 1 [E6],rB 1 E2 L0] oX))))) I7))
def Gq:az:=aA Jf (aA Q3 (aA (ed 3 (aA (aE [jk 2 tR EU,nQ,HS,qO] pR) (aE [EG,cg,yL,rB 1 E2 L2] vM))) IU))
def Gb:az:=aA Jh (aA Jk (aA (ed 1 (aA (aE [jk 1 E9 qX,cg] xy) (aA (aE [ct,mu,w8,dT,jk 3 L3 E3,Ib,sM,v6 L6] [(13,L6),(14,L7),(15,V0)]) (ed 2 (.loop [9999,4,16] Gq))))) Ij))
def Z1:az:=aA mj (aA (aE Dq iO) (aA (aA (aE SP [(8,L3)]) (dq E8 (aA (aE [ct,py,w8,dT,sN] [(9,L3),(10,L4),(11,V0)]) (ed 0 (.loop [9999,3,4,12,13,14,15,16] Gb))) .skip)) (aA (aA (aE RV [(17,L3),(18,L4),(19,V0)]) (ed 4 (.loop [9999,5,6,7,20,21] xq))) D4)))
def asN:br:=⟨22,1,.keep,[.env 1],Z1⟩
def oM:az:=aA ze (aA zk (aA (ed 1 (aA (aE [jk 1 E6 E8,cg] [(3,E8),(4,L1)]) (ed 2 (aA (aE [zg,cg,Nm] [(10,L2)]) (dq oN (aE [zg,fL 1 L0 E4] []) (aA (aE [sy E4 V0,R1,zm,g L0 true (.mov E3),g L0 true (.idxs 1 L2 L3),g L0 true (ld L4),g L0 true (.bin .neq L1 L5),QB] [(11,L7)]) (dq qX D0 .skip))))))) xp))
def U3:az:=aA lg (aA (aA (aE RT pZ) (dq E5 D0 .skip)) (aA (aA (aE Bb [(6,E1),(7,L0),(8,V0)]) (ed 0 (.loop [2,3,4,9,10,11] oM))) BB))
def asj:br:=⟨12,2,.keep,[.env 2],U3⟩
def QZ:az:=aA (aE Ej Ey) (aA (aA (aE [gR,cg,my L1 kE] uE) (dq E6 (aA (aA (aE [gA,cg,rK L1 V1,g L2 false (.fld 1 E2),I2,g L2 false (.mov E1),aaz,g L2 false (.bin .gtr L4 L6),gS L2 Vt L7] [(7,L8)]) (dq E7 Mc .skip)) (aA (aE [gA,cg,D3 L1 V1] [(3,L2),(4,V0)]) .ret)) .skip)) (aA (aE [gR,cg,dC 6 [E1,L1]] pZ) (aA (ed 0 (aA (aE [rK E5 V0] xG) (dq E8 Mc (aA (aE [LI,i (.slice 1 E1 (some L0) none),gR,dT,dC 5 [L1,L3]] [(9,L4)]) (dq E9 (aA (aE [] [(3,V0),(4,v (.int .i64 223))]) .ret) .skip))))) (aA (aE [] [(3,E5),(4,V0)]) .ret))))
def arM:br:=⟨10,2,.pure,[.env 3,.env 4],QZ⟩
def Z4:az:=aA (aE [pv] kI) (aA (aA (aE [my E0 V0] jn) (dq E4 (aA (aE [qV E2,vS,uI,eJ 10 L2,fL 1 L3 L1] []) .ret) .skip)) (aE [qV E2,pi [n0,n0,n0,n0,.ai,nf,.ai,.ai,.ai,.ai,.ai,n0] [(0,1,DM)],vS,nY 1 [L2],dC 118 [L0,L1,L3]] []))
def as4:br:=⟨5,3,.keep,[],Z4⟩
def aa6:az:=aA (aE [pc 12 E1] kI) (aA (aA (aE [v6 E2,Gt L0 V0] yy) (dq E4 (aA (aE [Lk,ct,Ei,uj,jk 1 E2 V0,xI L4,dC 191 [L0,L3,L5],Bj,Bz,dC 105 [E0,L7,L8]] []) .ret) .skip)) (aE [Lk,ct,Ei,uj,dC 119 [L0,L3],uk,ux,dC 105 [E0,L5,L6]] []))
def asL:br:=⟨5,3,.keep,[],aa6⟩
def sY:az:=aA (aE [rK E9 lF] vN) (aA Bo (aA (ed 1 (aA (aE [i (.idxv false 4 1 E8 E9)] nS) (aA (aE [i (.callv E7 [])] []) (aA (aE [PB E6,Je,dU] JN) (dq qX QD .skip))))) zl))
def abo:az:=aA (aE [uq,pc 9 E1,gp] IP) (aA (aE [rV,lq 9 E3,pi [.ai,.ai,.ai,.ai,.ai,nf,nf,.ai,.ai,.ai,.ai,nf] [(0,1,L0),(1,9,L1)],pc 12 L2] [(6,L3)]) (aA (aA (aE [i (.mkfn 173 [E6] []),i (.mkfn 179 [E6] []),i (.mkfn 180 [E6] []),i (.mkfn 181 [E6] []),pi [.nilf,.nilf,.nilf,.nilf] [(0,1,L0),(1,1,L1),(2,1,L2),(3,1,L3)]] [(8,L4),(9,V0)]) (ed 0 (.loop [5,7,10,11] sY))) (aA (aE [PB E6,py,xI L1,fL 1 E4 L2] [(5,V0)]) .ret)))
def as0:br:=⟨12,2,.pure,[.cell true 1 4,.env 5],abo⟩
def uG:az:=ed 1 (aA (aE [i (.una .not E8)] BD) (dq tR (aA (aE [wM,Jc,fL 1 E3 E7,fL 1 E4 Vf] []) .ret) .skip))
def sC:az:=aA (aE [] [(7,qX)]) (aE [] [(8,sV)])
def O3:az:=aA (aE [uq,RY,pc 1 V0,pc 1 Vf] [(1,L0),(2,L1),(3,L2),(4,L3)]) (aA (aE [BL,pi [.ai,.ai,.ai] [(0,1,L0)],pc 3 L1,RY,yG] [(5,L3)]) (aA (aE DH uE) (aA (aA (aE [rK E6 V1,Qj,g L0 false (.bin .gtr L1 (v (.int .i64 60))),AV] [(9,L3)]) (dq E9 (aA (aE [wM,Jc,fL 1 E3 V0,fL 1 E4 Vf] []) .ret) .skip)) (aA (aA (aE [wM,dC 78 [L0]] IR) (ed 0 (.rng 14 oN 35))) (aA (AW [wM,D3 E6 V1,wM,PB L2,Nj,xw,D3 E6 V1,jk 1 L5 L6,qV L7,my L8 V0,Jc,fL 1 E3 L1,fL 1 E4 L9] [] [(2,11),(2,12),(3,11),(3,12),(4,11),(4,12),(5,11),(5,12),(7,11),(7,12),(8,11),(8,12)]) .ret)))))
def ar2:br:=⟨14,1,.keep,[.cell false 1 2,.cell false 1 3,.cell false 1 4],O3⟩
def qK:yO:=⟨14,[11,12],sC,uG⟩
def agL:az:=aA mj (aA Iw (aA (aE [Vp (v .ai),rB 1 L0 E0] uy) .ret))
def atP:br:=⟨3,1,.fresh 1,[.env 1],agL⟩
def Gz:az:=aA Iu (aA (dq tR .skip vQ) (aA (ed 3 (aA (aE [] [(5,sV)]) (AW [DN,cg,DN,dT,jk 1 L3 E5,eJ 0 L4,sM,i (.call 64 [L6] true),jk 1 L1 E5,eJ 0 L8,fL 1 L9 L7] [] [(0,8),(1,8)]))) Jl))
def Ge:az:=aA En (aA Bo (aA (ed 1 (aA (aE [] [(4,E9)]) (AW [BF,cg,BF,dT,jk 2 L3 E4,Ib,eJ 0 L5,qV L6,i (.call 64 [L7] true),jk 2 L1 E4,eJ 1 L9,eJ 0 mC,fL 1 oo L8] [] [(0,9),(1,9)]))) zl))
def Pf:az:=aA (aE [zv,uP] Ng) (aA (aA (aE [gA,cg,BN] uE) (dq E6 (aE [gA,cg,wg L1 E1,gA,yG] []) .skip)) (aA (aA (aE [o5,cg,BN] o6) (dq E7 (aE [o5,cg,wg L1 E1,o5,yG] []) .skip)) (aA (AW [MR,cg,i (.call 12 [L1] true),Et,gd,So,eJ 10 E2,qV L6,i (.call 70 [L7] true),MR,fL 1 L9 L2,Et,fL 1 oo L5,eJ 10 E2,fL 1 rl L8] [] [(3,0),(4,0),(6,0),(6,3),(7,0),(7,3),(9,3),(9,6)]) (aA (aE [Bv,mu,dU,i (.call 64 [L2] true),Bv,eJ 0 L4,zA] []) (aA (AW [BF,cg,i (.call 71 [L1] true),DN,gd,i (.call 72 [L4] true),BF,fL 1 L6 L2,DN,fL 1 L8 L5] [] [(3,0),(4,0),(6,3)]) (aA (aA (aE abA [(8,L2),(9,V0)]) (ed 0 (.loop [4,10] Ge))) (aA (aA (aE Xu [(11,L2),(12,V0)]) (ed 2 (.loop [5,13] Gz))) (aA (aE [lq 12 E2,fL 12 E3 L0] []) .ret))))))))
def ar3:br:=⟨14,2,.pure,[.cell true 12 3],Pf⟩
def aev:az:=aA LN (aA MP (aA (ed 1 (aA (aE [jk 12 E8 oN,DE,uP,Ek] Qy) (aA (aE [jk 12 E1 E4,DE,uP,Ek] uE) (aA (aE [lq 12 E5,lq 12 E6,Rp,He] [(12,L3)]) Qb)))) Lh))
def al5:az:=aA JK (aA RA (aA (aA Qq (ed 0 (.loop [3,4,5,6,11,12] aev))) Fl))
def au3:br:=⟨13,3,.pure,[.env 3],al5⟩
def ani:az:=aA (aE [zv,pc 12 E1] Io) (aA (aE [Vp (v (.fn 408 [] []))] nP) (aA (aE [MR,cg,eJ 4 E3,dT,dC 184 [L1,L3],g L4 true (.fld 7 E2),Ie,g L4 true (.fld 7 E3),RK,g L4 true (.call 184 [L6,L8] false),MW,g mC true (.fld 10 E2),g mC true (ld oo),g mC true (.fld 10 E3),g mC true (ld rl),g mC true (.call 399 [v8,BI] false),gS mC F3 Vf] [(6,AD)]) (aA (aE [Bv,oG,eJ 6 E3,uj,dC 280 [L1,L3],g L4 true (.fld 8 E2),Ie,g L4 true (.fld 8 E3),RK,g L4 true (.mov E5),g L4 true (.call 406 [L6,L8,L9] false),gS L4 mC Vf,g oo true (.fld 9 E2),g oo true (ld v8),g oo true (.fld 9 E3),g oo true (ld BI),g oo true (.call 407 [rl,F3,v (.fn 280 [] [])] false),gS oo AD Vf] [(7,zS)]) (aA (aE [gR,cg,pu,dT,my L1 L3,RB,Ie,Xw,RK,g L4 true (.bin .eql L6 L8),MW,g mC true (.fld 2 E2),g mC true (ld oo),g mC true (.fld 2 E3),g mC true (ld rl),g mC true (.bin .eql v8 BI),gS mC F3 Vf,g AD true (.fld 3 E2),g AD true (ld zS),g AD true (.fld 3 E3),g AD true (ld PN),g AD true (.bin .eql Tp L20),gS AD L21 Vf,g PS true (.fld 5 E2),g PS true (ld L23),g PS true (.fld 5 E3),g PS true (ld L25),g PS true (.eqb false L24 L26),gS PS L27 Vf,g L28 true (.fld 11 E2),g L28 true (ld L29),g L28 true (.fld 11 E3),g L28 true (ld L31),g L28 true (.bin .eql L30 L32),gS L28 L33 Vf,g L34 true (.mov E6),gS L34 L35 Vf,g L36 true (.mov E7),gS L36 L37 Vf] [(4,L38)]) .ret))))
def au5:br:=⟨8,2,.pure,[.env 4],ani⟩
def uF:az:=ed 1 (aA (aA (aE Jb xU) (dq qX (aA (AW [DY,cg,fL 1 E1 Vn,fL 1 E2 L1,fL 1 E3 (v (.int .i64 170))] [] [(0,3),(1,3)]) .ret) .skip)) (aE [qV E4,lq 4 E5,nY 4 [L1],rB 4 L0 L2,Qp] []))
def sI:az:=aA (aE [EH,fL 4 L0 E9] nP) (aE [] [(6,oN)])
def XU:az:=aA (aE [pc 1 Vn,pc 1 V0,pc 1 V0] [(1,L0),(2,L1),(3,L2)]) (aA (aA (aE [yM,Gt L0 (v (.int .i64 600))] xt) (dq E7 (aA (aE [fL 1 E1 Vn,fL 1 E2 V0,fL 1 E3 fY] []) .ret) .skip)) (aA (aE [pc 1 Vn] jn) (aA (aA (.lift 4 0 4 (aE [dC 125 [E0]] xG)) (ed 0 (.rng 12 E8 59))) (aA (aE [qV E4,fL 1 E1 L0,fL 1 E2 V0,fL 1 E3 V0] []) .ret))))
def asX:br:=⟨12,1,.pure,[.cell false 1 1,.cell false 1 2,.cell false 1 3],XU⟩
def p8:yO:=⟨12,[9,10],sI,uF⟩
def Xd:az:=aA (aE [ct,I5,dU,my L2 V0] sG) (dq E3 (aE [ct,I5,fL 1 L1 E1,ct,Nj,fL 1 L4 E2] []) .skip)
def asI:br:=⟨4,3,.trunc,[],Xd⟩
def XS:az:=aA qU (aA (aA (aE [ct,mu,dU,Bk,my L3 V0] [(2,L4)]) (dq E2 (aA (aE [ct,jm,dU] DT) .ret) .skip)) (aA (aE [ct,mu,dU,LD,eJ 1 L3,xw] [(1,L5)]) .ret))
def asO:br:=⟨3,1,.pure,[.env 1],XS⟩
def T6:az:=aA (aE [MU] mw) (aA (aE [nY 1 [v (.str [83,69,76,69,67,84])],sQ] []) (aA (aE ZD rI) (aA (aA (aE [dC 18 [E0,jw,K4],gA,me] []) (aA (aE [gA,cg,xr] xF) (dq E3 (aE [i (.mkfn 130 [E0] []),dC 129 [E0,wO,L0],o5,lV] []) .skip))) (aA (aE [nY 1 [v (.str [70,82,79,77])],sQ] []) (aA (aE aa9 []) (aA (aE aaV []) (aA (aA (aE [dC 18 [E0,V1,v (.str [87,72,69,82,69])]] jn) (dq E4 (aE [Eh,Bv,me] []) .skip)) (aA (aA (aE [dC 18 [E0,V1,v (.str [71,82,79,85,80])]] nP) (dq E5 (aA (aE [nY 1 [v (.str [66,89])],sQ] []) (aE [i (.mkfn 113 [E0] []),dC 197 [E0,fY,L0],BF,lV] [])) .skip)) (aA (aA (aE [dC 18 [E0,V1,v (.str [72,65,86,73,78,71])]] lI) (dq E6 (aE [Eh,Et,me] []) .skip)) (aA (aE [lq 9 E2,fL 9 E1 L0] []) .ret))))))))))
def arO:br:=⟨7,1,.trunc,[.cell true 9 1],T6⟩
def JM:az:=aA JK (aA (aA (aE [ct,I5,dU,sy L2 V0,Sn,g L3 false (.nilck L4),g L3 false (.fld 0 L5),g L3 false (ld L6),g L3 false (.len L7),g L3 false (.bin .eql L8 V0),gS L3 Vt L9,aaj,g mC false (.nilck oo),g mC false (.fld 0 v8),g mC false (ld rl),g mC false (.idxs 4 BI V0),g mC false (.fld 0 F3),g mC false (ld AD),g mC false (.mov E1),g mC false (.bin .neq zS Tp),gS mC Vt PN] [(4,L20)]) (dq E4 xY .skip)) (aA (aE [v6 E2,my L0 V0,Y1,Xl,g L1 false (.nilck L3),g L1 false (.fld 0 L4),g L1 false (ld L5),g L1 false (.idxs 4 L6 V0),g L1 false (.fld 2 L7),g L1 false (ld L8),g L1 false (.call 5 [L2,L9] false),gS L1 Vt mC] [(3,oo)]) .ret))
def arS:br:=⟨5,3,.pure,[.env 3],JM⟩
def af6:az:=aA (aE [EH] mw) (aA (aE [ct,mu,dU,LD,lq 4 L3,EH,fL 4 L5 L4] [(2,L5)]) (aA (aE [ct,mu,dU,i (.slice 4 L2 (some V1) none),ct,eJ 0 L4,zA] []) (aA (aE [lq 4 E2,fL 4 E1 L0] []) .ret)))
def aul:br:=⟨3,1,.trunc,[.cell true 4 1],af6⟩
def ZU:az:=aA (aE [EH] kI) (aA (aA (aE [dC 4 [E0,E1,E2],zw] yy) (dq E4 (aA (aE [Ma,dC 192 [E0,Sm,L0]] []) (aA (aE [abk,fL 4 E3 L0] []) .ret)) .skip)) (aA (aE [Ed,fL 4 E3 L0] []) .ret))
def as9:br:=⟨5,3,.trunc,[.cell true 4 3],ZU⟩
def XE:az:=aA JK (aA (aA (aE [nY 1 [E2],dC 4 [E0,E1,L0],xr] pR) (dq E4 xY .skip)) (aA BW Fl))
def atf:br:=⟨5,3,.trunc,[.env 3],XE⟩
def zZ:az:=aA RW (ed 1 (aA (aA (aE [v6 E4,my L0 E1] sH) (dq E6 HE .skip)) (aA BW (aE [DV,nY 3 [L0],rB 3 E4 L1] pR))))
def af1:az:=aA Ld (aA (aE [DV,i (.mksl 3 [L0])] yy) (aA (ed 0 (.loop [5,6] zZ)) HR))
def aud:br:=⟨7,3,.trunc,[.env 3],af1⟩
def Vc:az:=aA (aE [K8] mw) (aA (aE [K8] iO) (aA (aA (aE [dC 4 [E0,fY,Vn]] kI) aab) (aA (aA (aE [dC 18 [E0,V1,v (.str [68,69,83,67])],o5,me] []) (aA (aE [o5,cg,xr] pR) (dq E4 (aE [dC 18 [E0,V1,v (.str [65,83,67])]] []) .skip))) P7)))
def arL:br:=⟨5,1,.trunc,[.cell true 3 1],Vc⟩
def abE:az:=aA qU (aA (aE [Ma] iO) (aA (aE [dC 73 [E0,fY,Vn],abv] xy) (aA (aA (aE [Gt E3 (v (.int .u64 2147483647))] jn) (dq E4 (aE [dC 192 [E0,Sm,E2]] []) .skip)) (aA (aE [i (.conv .i64 E3)] mw) .ret))))
def asK:br:=⟨5,1,.trunc,[.env 1],abE⟩
def aeO:az:=aA (aE Ej BX) (aA (aE [lq 3 E1,dC 53 [L0],M0] rI) .ret)
def aus:br:=⟨3,1,.pure,[.env 2],aeO⟩
def tJ:az:=aA Mh (aA Q9 (aA (ed 3 (aA (aE [jk 1 qX tR,cg] [(5,tR),(6,L1)]) (aE [g E3 true (.mov E6),g E3 true (.bin .geq L0 V0),gS E3 L1 Vf,g L2 true (.mov E6),Lu,g L2 true (ld L4),g L2 true (.len L5),g L2 true (.bin .lss L3 L6),gS L2 L7 Vf,g L8 true (.mov E5),g L8 true (.bin .eql L9 V0),g L8 true (.mov mC),g oo false (.fld 2 E1),XL,g oo false (.mov E5),g oo false (.bin .sub BI V1),g oo false (.idxs 1 rl F3),g oo false (ld AD),g oo false (.mov E6),g oo false (.bin .lss zS Tp),g L8 true (.pick oo Vt PN),gS L8 L20 Vf] [(3,L21)]))) Lt))
def CD:az:=aA En (aA Bo (aA (ed 1 (aA (aE [jk 2 E7 E9,nQ,HS,qO] pR) (aE [g E3 true (.fld 1 E4),Nk,g E3 true (.call 38 [L1] false),g E3 true (.bin .neq L2 kE),P2] D2))) zl))
def Pe:az:=aA (aE Ej [(1,L0),(2,V0)]) (aA (aE [uH,cg,dC 11 [L1],Lu,zo,g L2 true (.len L4),g L2 true (.bin .geq L5 V1),gS L2 L6 Vf,g L7 true (.fld 1 E1),Ii,g L7 true (.len L9),g L7 true (.bin .leq mC lF),gS L7 oo Vf,Zn,Qn,g v8 true (.call 54 [BI,v (.fn 10 [] [])] false),gS v8 F3 Vf] [(3,AD)]) (aA (aA (aE Yw [(7,L1),(8,L2),(9,V0)]) (ed 0 (.loop [4,10] CD))) (aA (aA (aE ZK [(11,L1),(12,L2),(13,V0)]) (ed 2 (.loop [5,6,14] tJ))) (aA (aA (aE [EK] xV) (dq EU (aA (aE [] [(2,v (.int .i64 211))]) .ret) .skip)) Dz))))
def ar1:br:=⟨16,1,.pure,[.env 2],Pe⟩
def ae6:az:=aA lg (aA (aE [dC 29 [E0,E1],yP] oX) .ret)
def aty:br:=⟨3,2,.pure,[.env 2],ae6⟩
def zG:az:=aA ze (aA zk (aA (ed 1 (aA (aE aaJ [(4,L2),(3,E8)]) (aA (aE [lq 3 E4,i (.callv E1 [L0]),dC 50 [E0,E1,L1],lS,lA] [(5,L3)]) (aA (aE [sy E5 E3,Sz,g L0 false (.load true 3 E4),abc,Xh,abB,LY] [(10,L6)]) XV)))) xp))
def YF:az:=aA lg (aA (aA SD (ed 0 (.loop [2,3,4,5,9,10] zG))) BB)
def asG:br:=⟨11,2,.pure,[.env 2],YF⟩
def agN:az:=aA (aE Ej [(1,L0),(2,kE)]) Sc
def auI:br:=⟨3,1,.pure,[.env 2],agN⟩
def aj0:az:=aA nX (aA (aE [PR E0 V0,zm,g L0 true (.bin .leq L1 Qf),rt] sD) .ret)
def aru:br:=⟨2,1,.pure,[.env 1],aj0⟩
def vD:az:=aA (aE [i (.nexts E4),Eo] [(5,L0),(6,L1)]) (aA qN (ed 1 (aA (aE [FB 2 E5] iO) (aA (aE [dC 3 [E2],zw,g L1 true (.mov E2),g L1 true (.call 1 [L2] false),g L1 true (.una .not L3),R4,g L5 true (.mov E2),g L5 true (.bin .neq L6 (v (.int .i32 95))),gS L5 L7 Vf] [(7,L8)]) (dq E7 PZ .skip)))))
def FN:az:=aA nX (aA (aA (aE [my E0 kE,rP,g L0 false (.lent L1),g L0 false (.bin .gtr L2 Dr),RL,g L4 false (.mov E0),g L4 false (.idxt L5 V0),g L4 false (.conv .i32 L6),g L4 false (.call 1 [L7] false),g L4 false (.una .not L8),gS L4 Vt L9,aaj,g mC false (.call 8 [oo] false),g mC false (.call 9 [v8] false),gS mC Vt rl] [(3,BI)]) (dq E3 PZ .skip)) (aA (aA (aE [i (.rngs E0)] jn) (ed 0 (.loop [1,2,5,6,7] vD))) (aA (aE [] [(1,Vt)]) .ret)))
def arG:br:=⟨8,1,.pure,[.env 1],FN⟩
def afO:az:=aA lg (aA (aE [dC 137 [E0,E1],yP] oX) .ret)
def atB:br:=⟨3,2,.pure,[.env 2],afO⟩
def akz:az:=aA Gm (aA (aE [lq 9 E1,dC 139 [L0],xr] rI) .ret)
def aro:br:=⟨3,1,.pure,[.env 2],akz⟩
def uw:az:=aA (aE [rK Py eZ] [(23,L0)]) (aA (dq E23 .skip (.exit 6)) (aA (ed 7 (aA (aE [i (.idxv true 2 1 PK Py),gp,me] xt) (aE [g E3 true (.fld 0 E7),Nk,g E3 true (.len L1),g E3 true (.bin .eql L2 V0),g E3 true (.mov L3),g L4 false (lt E7),g L4 false (.mkl 1 [L5]),g L4 false (.call 114 [L6] false),g E3 true (.pick L4 Vt L7),gS E3 L8 Vf] [(3,L9)]))) (aE [wg Py V1] [(22,L0)])))
def Im:az:=aA Iz (aA abH (aA (ed 5 (aA (aE [Q0,nQ,xx,qO] uE) (aE [g E3 true (.fld 1 E6),Nk,g E3 true (.call 11 [L1] false),gS E3 L2 Vf,g L3 true (.fld 0 E6),xo,g L3 true (.call 68 [L5] false),Ep] [(3,L7)]))) I7))
def HJ:az:=aA Jf (aA Q3 (aA (ed 3 (aA (aE [jk 4 tR EU,C7,Nh,MS] pZ) (aE [g E3 true (.fld 3 E5),g E3 true (lt L0),Th,Us,P2,g L4 true (.fld 1 E5),g L4 true (.load true 2 L5),g L4 true (.call 140 [L6] false),LU] [(3,L8)]))) IU))
def Jj:az:=aA Jh (aA Jk (aA (ed 1 (aA (aE [jk 2 E9 qX,nQ,Ir,qO] pR) (aE [XN,g E3 true (lt L0),Th,Us,P2,g L4 true (.fld 1 E4),Ie,TV,LU] [(3,L8)]))) Ij))
def ajj:az:=aA Gm (aA (aA (aE [yH,cg,Nr,dT,sN,my L4 V0,i (.eqb true L1 L5),g L6 false (.fld 2 E1),Mv,g L6 false (.len L8),g L6 false (.bin .gtr L9 wO),gS L6 Vt mC,g oo false (.fld 5 E1),XL,g oo false (.len rl),g oo false (.bin .gtr BI eZ),gS oo Vt F3,g AD false (.fld 8 E1),g AD false (ld zS),g AD false (.len Tp),g AD false (.bin .gtr PN fY),gS AD Vt L20] [(8,L21)]) MM) (aA (aE [vv,nQ,dC 140 [L1]] xF) (aA (aA (aE ZK [(9,L1),(10,L2),(11,V0)]) (ed 0 (.loop [4,12] Jj))) (aA (aA (aE [eJ 5 E1,cg,gz] Mq) (ed 2 (.loop [5,16] HJ))) (aA (aA (aE [eJ 8 E1,cg,gz] HW) (ed 4 (.loop [6,20] Im))) (aA (aA (aE [Cm,oG,C8,uj,pi [.ai,.ai] [(0,1,L1),(1,1,L3)]] [(21,L4),(22,V0)]) (ed 6 (.loop [7,23] uw))) LR))))))
def atg:br:=⟨24,1,.pure,[.env 2],ajj⟩
def af7:az:=aA qU (aA (aE [ct,zY,fL 1 L1 V0] []) (aA (aE [ct,jm,eJ 3 L1,lq 2 L2,dC 143 [E0,L3]] [(1,L4)]) .ret))
def atv:br:=⟨2,1,.keep,[.env 1],af7⟩
def vk:az:=aA ze (aA zk (aA (ed 1 (aA (aE [jk 4 E6 E8,C7,Nh,MS] rI) (aA (aA (aE [gA,nQ,dC 143 [E0,L1]] xF) (aA (aE [sy E3 V0] vN) (dq oN (aA (aE [] [(1,E3)]) .ret) .skip))) (aA (aE [eJ 3 E2,oG,dC 166 [E0,L1,Vf],lS,lA,gp,zA] [(4,L5),(5,L4)]) (aA (aA (aE [sy E5 V0] xU) (dq qX (aA (aE [] [(1,E5)]) .ret) .skip)) (aE [ct,py,DS,dT,gR,xw,AP,pi [nf,.ai] [(0,1,L5),(1,1,L6)],nY 2 [L7],rB 2 L3 L8,ct,eJ 10 mC,eJ 1 oo,fL 1 v8 L9] [])))))) xp))
def aaT:az:=aA qU (aA (aE [ct,zY,fL 1 L1 V1] []) (aA (aA (aE [ct,jm,eJ 5 L1,dT,sN] [(6,L3),(7,L4),(8,V0)]) (ed 0 (.loop [9999,1,2,3,4,5,9,10,11] vk))) zU))
def asE:br:=⟨12,1,.keep,[.env 1],aaT⟩
def abq:az:=aA qU (aA (aE [ct,zY,fL 1 L1 eZ] []) (aA (aA (aE [ct,jm,Gu,Co,gd,Au,Gt L5 V0] zC) (dq E2 (aE [ct,jm,Gu,uj,dC 166 [E0,L3,Vf],uk,ux,ct,F6,eJ 2 L8,fL 1 L9 L5] [(1,L6)]) .skip)) (aA (aE [] [(1,E1)]) .ret)))
def ath:br:=⟨3,1,.keep,[.env 1],abq⟩
def Av:az:=aA QI (aA Mk (aA (ed 1 (aA (aE [jk 2 E5 E7,nQ,xx,qO] rI) (aA (aE [Ao,dC 94 [E0,L0],ng,nq] [(3,L2),(4,L3)]) (aA (aA (aE [sy E4 V0] qM) (dq E9 LW .skip)) (AW [ct,py,Gu,dT,nY 1 [E3],rB 1 L3 L4,ct,eJ 23 L6,qV L7,ct,eJ 22 L9,qV mC,jk 1 oo E3,qV v8,nY 1 [rl],rB 1 L8 BI,ct,eJ 10 AD,eJ 6 zS,fL 1 Tp L5,ct,eJ 23 L20,fL 1 L21 F3] [] [(6,0),(7,0),(8,0),(9,0),(10,0),(11,0),(12,0),(13,0)]))))) SB))
def Xp:az:=aA qU (aA (aE [ct,zY,fL 1 L1 fY] []) (aA (aA (aE [ct,jm,HA,dT,sN] [(5,L3),(6,L4),(7,V0)]) (ed 0 (.loop [9999,1,2,3,4,8,9] Av))) zU))
def asM:br:=⟨10,1,.keep,[.env 1],Xp⟩
def w9:az:=aA (aE [rK GQ EU] FU) (aA (dq Ki .skip vQ) (aA (ed 3 (aA (aE [jk 2 yt GQ,nQ,Ir,qO] pZ) (aA (AW [uu,oG,ct,eJ 10 L2,eJ 4 L3,xw,dC 93 [E0,L1,L5],Bj,Bz,FB 2 L6,gp,fL 1 mC L7] [(6,mC),(7,L9)] [(0,11),(1,11),(2,11),(3,11),(4,11),(5,11)]) (aA (aA (aE [sy E7 V0] [(18,L0)]) (dq QC (aA (aE [] [(1,E7)]) .ret) .skip)) (aE [ct,py,HA,dT,xI E6,nY 1 [L4],rB 1 L3 L5,ct,F6,eJ 8 L8,fL 1 L9 L6] []))))) (aE [wg GQ V1] Fj)))
def wQ:az:=aA Jh (aA Jk (aA (ed 1 (aA (aE [] [(2,qX)]) (aA (aE [pi [n0,n0,n0,n0,n0,n0,.int .u64 0,.str []] [(0,1,eZ),(3,1,E2)],dC 101 [L0],ng,nq,gp,fL 1 L4 L2] [(3,L4),(4,L3)]) (aA (aA (aE [sy E4 V0] BD) (dq tR LW .skip)) (aE [ct,py,HA,dT,vS,nY 1 [L4],rB 1 L3 L5,ct,F6,eJ 8 L8,fL 1 L9 L6] []))))) Ij))
def ajU:az:=aA qU (aA (aE TG []) (aA (aE Ux []) (aA (aA (aE [ct,jm,DS,dT,g L3 true (.mov E0),g L3 true (.nilck L4),g L3 true (.fld 10 L5),g L3 true (.fld 4 L6),g L3 true (ld L7),gS L3 L8 Vf] [(8,L9)]) UD) (aA (aA (aE SP [(9,L3)]) (dq E9 (aA (aE F7 [(10,L3),(11,V0)]) (ed 0 (.loop [9999,1,2,3,4,12,13] wQ))) .skip)) (aA (aA (aE RV [(14,L3),(15,L4),(16,V0)]) (ed 2 (.loop [9999,1,5,6,7,17,18] w9))) zU)))))
def arA:br:=⟨19,1,.keep,[.env 1],ajU⟩
def XY:az:=aA qU (aA (aE [ct,zY,fL 1 L1 jw] []) (aA (aA (aE [ct,jm,xg,Co,gd,Au,Gt L5 V0] zC) (dq E2 (aE [ct,jm,xg,uj,dC 166 [E0,L3,Vt],uk,ux,ct,F6,eJ 3 L8,fL 1 L9 L5] [(1,L6)]) .skip)) (aA (aE [] [(1,E1)]) .ret)))
def ast:br:=⟨3,1,.keep,[.env 1],XY⟩
def Cx:az:=aA (aE [rK Ki GQ] [(18,L0)]) (aA (dq QC .skip vQ) (aA (ed 3 (aA (aE [jk 1 EU Ki,cg] vY) (aA (aE [qV E3,v6 L0,PR E8 L1] [(19,L2)]) (dq PT (aA (aE [] [(4,V0),(5,eZ)]) .ret) .skip)))) (aE [wg Ki V1] FU)))
def J7:az:=aA Iu (aA GM (aA (ed 1 (aA (aE [jk 1 oN sV,cg] xt) (aA (aE [rK E7 V0,U5,g L0 false (.bin .gtr L1 fY),AV] [(14,L3)]) (dq yt (aA (aE [] [(4,V0),(5,eZ)]) .ret) .skip)))) Jl))
def Pq:az:=aA (aE [uq,pv] Xb) (aA (aA (aE [rV,GO] sH) (aA (aE xW qM) (dq E9 (aA (aE [] [(4,V0),(5,E6)]) .ret) .skip))) (aA (aA (aE [qV E3,v6 L0] [(10,L0),(11,L1),(12,V0)]) (ed 0 (.loop [4,5,7,13,14] J7))) (aA (aA (aE [rV,dC 42 [L0],gz] [(15,L1),(16,L2),(17,V0)]) (ed 2 (.loop [4,5,8,18,19] Cx))) (aA (aE [rV,i (.mkfn 21 [] [E3]),dC 49 [L0,L1],lS,lA] [(4,L3),(5,L4)]) .ret))))
def arZ:br:=⟨20,2,.pure,[.env 4,.env 5],Pq⟩
def s9:az:=aA pn (aA qN (aA (ed 1 (aA tp (aA (aE [zg,cg,my E1 L1] o6) tL))) sB))
def OT:az:=aA mn (aA (aA pp (ed 0 (.loop [2,3,6,7] s9))) pr)
def ar0:br:=⟨8,2,.pure,[.env 2],OT⟩
def agd:az:=aA lg (aA (aE [dC 6 [E0,E1],yP] oX) .ret)
def auq:br:=⟨3,2,.pure,[.env 2],agd⟩
def afc:az:=aA (aE [pv] kI) (aA (aE [ct,Je,dU,Ug,UA,LQ,ct,eJ 11 L6,Gl] []) (aE [vS,ct,Ei,fL 1 L2 L0] []))
def auw:br:=⟨4,3,.keep,[],afc⟩
def afJ:az:=aA (aE [zv,pv,pc 1 E2,gp] [(3,L0),(4,L1),(5,L2),(6,L3),(7,V0)]) (aA (aE [Lk,AP,Be,nY 1 [L1,L2],dC 104 [L0,L3],uk,ux,fL 1 E6 L5] [(7,L6)]) .ret)
def aux:br:=⟨8,3,.pure,[.cell true 1 6,.env 7],afJ⟩
def af0:az:=aA (aE [zv,pv,gp] IP) (aA (aE [lq 12 E2,vS,yL,dC 104 [L0,L2],IM,Ho,fL 1 E4 L4] [(5,L5)]) .ret)
def atW:br:=⟨6,2,.pure,[.cell true 1 4,.env 5],af0⟩
def vH:az:=aA En (aA Bo (aA (ed 1 (aA (aE [jk 2 E7 E9,nQ,pc 2 (v (.agg [nf,.ai])),qO] [(3,L2),(2,E9)]) (aA (aE [wg E2 V1,jk 1 E1 L0,dU,dC 174 [E0,L2],IM,Ho,gp,fL 1 L6 L4] [(4,L6),(5,L5)]) (aA (aE [ct,Je,dU,S8,UA,LQ,ct,eJ 11 L6,Gl] []) (aE [pu,cg,EE,uj,pi [n0,n0,n0,n0,.ai,nf,.ai,.ai,.ai,.ai,.ai,n0] [(0,1,eZ),(5,1,L1),(6,1,L3)],AP,nY 1 [L5],dC 118 [E0,L4,L6]] []))))) zl))
def Oq:az:=aA (aE [ct,jm,w8,dT] sD) (aA (aA (aE [v6 E1,rK L0 V1,g L1 false (.mov E1),g L1 false (.len L2),g L1 false (.bin .gtr L3 fY),gS L1 Vt L4,g L5 false (.mov E0),g L5 false (.nilck L6),g L5 false (.fld 1 L7),g L5 false (.fld 1 L8),g L5 false (ld L9),g L5 false (.len mC),g L5 false (.mov E1),g L5 false (.len v8),g L5 false (.bin .sub rl V1),g L5 false (.bin .neq oo BI),gS L5 Vt F3,ct,eJ 11 zS,fL 1 Tp AD] []) (aA (aE [ct,Je,dU] uE) (dq E6 .ret .skip))) (aA (aE [jk 1 E1 V0,cg,dC 174 [E0,L1],lS,lA,dC 105 [E0,L3,L4]] []) (aA (aE [ct,jm,DS,dT,sN] [(7,L3),(8,L4),(9,V0)]) (ed 0 (.loop [2,3,4,5,10] vH)))))
def ar5:br:=⟨11,1,.keep,[],Oq⟩
def aaC:az:=aE [ct,jm,eJ 2 L1,Co,gd,Au,Gt L5 V0,ct,GC,eJ 2 L8,xI L9,pi [n0,n0,n0,n0,.ai,nf,.ai,.ai,.ai,.ai,.ai,n0] [(0,1,fY),(6,1,mC)],dC 158 [E0,L6,oo]] []
def ati:br:=⟨1,1,.keep,[],aaC⟩
def FV:az:=aA (aE [ct,jm,lq 9 L1,ahM,fL 9 L3 L2] sD) (aA (aE [Cm,cg,gz,C8,gd,Au,wg L2 L5,Gt L6 V0] [(2,L7)]) (aA (aE [vv,mu,dU,Bk,Gt L3 V0] D2) (aA (aA (aE [Ds,cg,xr] pZ) (dq E5 (aA (aE [ct,Je,dU,Ug,gS L2 Vt L3,g L4 false (.mov E3),gS L4 Vt L5,ct,eJ 11 L7,CT] []) .ret) .skip)) (aA (aE [Cm,cg,C8,dT,pi [n0,n0,n0,n0,.ai,nf,.ai,.ai,.ai,.ai,.ai,n0] [(0,1,lF),(7,1,L1),(8,1,L3)],uP,fL 12 L5 L4] [(4,L5)]) (aA (aA (aE [i (.una .not E2)] lI) (dq E6 (aE [pi [n0,.ai] [(0,1,V1)],nY 2 [L0],eJ 8 E4,lV] []) .skip)) (aA (aE [lq 12 E4,dC 118 [E0,L0,Vn]] []) (aE [vv,oG,pi [n0,n0,n0,n0,.ai,nf,.ai,.ai,.ai,.ai,.ai,n0] [(0,1,fY),(6,1,L1)],dC 158 [E0,E3,L2]] [])))))))
def arE:br:=⟨7,1,.keep,[],FV⟩
def Ye:az:=aA (aE [ct,jm,HA,dT,pi [n0,n0,n0,n0,.ai,nf,.ai,.ai,.ai,.ai,.ai,n0] [(0,1,jw),(9,1,L3)],dC 118 [E0,L4,Vn]] []) (aE [ct,jm,eJ 5 L1,dT,pi [n0,n0,n0,n0,.ai,nf,.ai,.ai,.ai,.ai,.ai,n0] [(0,1,wO)],dC 158 [E0,L3,L4]] [])
def asQ:br:=⟨1,1,.keep,[],Ye⟩
def aeU:az:=aA (aE Do [(1,L0),(2,v .nilf)]) (aA (.lift 0 1 1 (.lift 0 2 1 (aE [i (.mkfn 79 [] [E1])] iO))) .ret)
def atT:br:=⟨3,1,.keep,[.env 2],aeU⟩
def aeM:az:=aA mj (aA Iw (aA (aE [Vp (v .ai),rB 2 L0 E0] uy) .ret))
def auC:br:=⟨3,1,.fresh 2,[.env 1],aeM⟩
def ag6:az:=aA mj (aA Iw (aA (aE [Vp (v .ai),rB 8 L0 E0] uy) .ret))
def atl:br:=⟨3,1,.fresh 8,[.env 1],ag6⟩
def ag5:az:=aA mj (aA Iw (aA (aE [Vp (v .ai),rB 2 L0 E0] uy) .ret))
def auj:br:=⟨3,1,.fresh 2,[.env 1],ag5⟩
def afG:az:=aA mj (aA Iw (aA (aE [Vp (v .ai),rB 1 L0 E0] uy) .ret))
def atX:br:=⟨3,1,.fresh 1,[.env 1],afG⟩
def akJ:az:=aA (aE [pc 2 E0,pc 2 E1] Io) (aA (aE [gR,cg,pu,dT,my L1 L3,RB,g L4 true (lt L5),Xw,g L4 true (lt L7),TW,MW] [(4,mC)]) .ret)
def au8:br:=⟨5,2,.pure,[.env 4],akJ⟩
def afU:az:=aA (aE [uq,pv] Io) (aA (aE [gR,cg,pu,dT,dC 281 [L1,L3]] [(4,L4)]) .ret)
def auf:br:=⟨5,2,.pure,[.env 4],afU⟩
def ace:az:=aA LN (aA MP (aA (ed 1 (aA (aE [jk 2 E8 oN,nQ,Dg,qO] Qy) (aA (aE [jk 2 E1 E4,nQ,Dg,qO] uE) (aA (aE [lq 2 E5,lq 2 E6,Rp,He] [(12,L3)]) Qb)))) Lh))
def am2:az:=aA JK (aA RA (aA (aA Qq (ed 0 (.loop [3,4,5,6,11,12] ace))) Fl))
def auZ:br:=⟨13,3,.pure,[.env 3],am2⟩
def adz:az:=aA LN (aA MP (aA (ed 1 (aA (aE TD Qy) (aA (aE [jk 1 E1 E4,oG,gp,lV] uE) (aA (aE [Be,xI E6,Rp,He] [(12,L3)]) Qb)))) Lh))
def anZ:az:=aA JK (aA RA (aA (aA Qq (ed 0 (.loop [3,4,5,6,11,12] adz))) Fl))
def ava:br:=⟨13,3,.pure,[.env 3],anZ⟩
def agh:az:=aA (aE Do [(1,L0),(2,v .nilf)]) (aA (aE [i (.mkfn 126 [] [E1])] iO) .ret)
def atJ:br:=⟨3,1,.pure,[.env 2],agh⟩
def zW:az:=aA RW (ed 1 (aA (aA (aE [v6 E4,my L0 E1] sH) (dq E6 HE .skip)) (aA BW (aE [DV,nY 2 [L0],rB 2 E4 L1] pR))))
def ae8:az:=aA Ld (aA (aE [DV,i (.mksl 2 [L0])] yy) (aA (ed 0 (.loop [5,6] zW)) HR))
def auF:br:=⟨7,3,.trunc,[.env 3],ae8⟩
def abj:az:=aA (aE [Ir] mw) (aA (aE [Eh,pi [.ai,.str []] [(0,1,L0)],Ir,qO] rI) (aA (aA (aE [dC 18 [E0,V1,v (.str [65,83])]] kI) (dq E3 (aE [GY,A5,gA,lV] []) .skip)) KW))
def ass:br:=⟨4,1,.trunc,[.cell true 2 1],abj⟩
def Yl:az:=aA (aE [xx] mw) (aA (aE [GY,A5,pi [.str [],.str []] [(0,1,L1)],xx,fL 2 L3 L2] vM) (aA (aA (aE [dC 4 [E0,eZ,Vn]] kI) (dq E3 (aE [Ed,A5,gA,lV] []) .skip)) KW))
def atk:br:=⟨4,1,.trunc,[.cell true 2 1],Yl⟩
def Az:az:=aA (aA (aE [nY 1 [Ve,UN],QF] yy) (dq E4 .skip pX)) (ed 1 (aA (aA (aE [v6 E2,my L0 eZ] xJ) (dq E5 HE .skip)) (aA (aE [dC 18 [E0,V1,Ve],pi [nf,.str [],.str [],.ai] [(0,1,L0)],Nh,MS] xF) (aA (aE [nY 1 [UN],sQ] []) (aA (aE [dC 131 [E0],EE,zy] []) (aA (aE [nY 1 [v (.str [79,78])],sQ] []) (aA (aE [Eh,eJ 3 E3,me] []) (aE [lq 4 E3,nY 4 [L0],rB 4 E2 L1] rI))))))))
def aez:az:=aA mj (aA (aE [iMn 4] iO) (aA (ed 0 (.loop [3,4,5] Az)) D4))
def auJ:br:=⟨6,1,.trunc,[.env 1],aez⟩
def U6:az:=aA (aE BK mw) (aA (aE [Ma] iO) (aA (aE [dC 109 [E0],pi [.ai] [(0,1,L0)],gp,lV] xF) (aA (aA (aE [ct,I5,dU,my L2 V0,g L3 true (lt E3),g L3 true (.call 89 [L4] false),g L3 true (.bin .neq L5 V0),Ep] [(4,L7)]) (dq E4 (aE [dC 192 [E0,v (.int .i64 192),E2]] []) .skip)) (aA (aE [vS,fL 1 E1 L0] []) .ret))))
def ash:br:=⟨5,1,.trunc,[.cell true 1 1],U6⟩
def zI:az:=aA RW (ed 1 (aA (aA (aE [v6 E4,my L0 E1] sH) (dq E6 HE .skip)) (aA BW (aE [DV,nY 2 [L0],rB 2 E4 L1] pR))))
def af4:az:=aA Ld (aA (aE [DV,i (.mksl 2 [L0])] yy) (aA (ed 0 (.loop [5,6] zI)) HR))
def auT:br:=⟨7,3,.trunc,[.env 3],af4⟩
def ZZ:az:=aA (aE [xx] mw) (aA (aE [GY,A5,pi [.str [],.str []] [(1,1,L1)],xx,fL 2 L3 L2] vM) (aA (aA (aE [dC 18 [E0,jw,v (.str [46])]] kI) (dq E3 (AW [gA,cg,GY,i (.fldv false 1 2 L2),gR,Qd,gA,fL 1 L6 L3] [] [(0,3),(1,3),(4,0)]) .skip)) KW))
def asJ:br:=⟨4,1,.trunc,[.cell true 2 1],ZZ⟩
def Af:az:=aA ze (aA zk (aA (ed 1 (aA (aE [jk 2 E6 E8,nQ,HS,qO] [(4,L2),(3,E8)]) (aA (aE [lq 2 E4,i (.callv E1 [L0]),dC 36 [E0,E1,L1],lS,lA] [(5,L3)]) (aA (aE [sy E5 E3,Sz,g L0 false (.load true 2 E4),abc,Xh,abB,LY] [(10,L6)]) XV)))) xp))
def abm:az:=aA lg (aA (aA SD (ed 0 (.loop [2,3,4,5,9,10] Af))) BB)
def as8:br:=⟨11,2,.pure,[.env 2],abm⟩
def ag9:az:=aA (aE AA [(1,L0),(2,kE)]) Sc
def aue:br:=⟨3,1,.pure,[.env 2],ag9⟩
def An:az:=aA (aE [rK E4 fY] nP) (aA K3 (aA (ed 1 (aA (aE [i (.idxv true 3 2 E3 E4),HS,zy] oX) (aA (aE [gA,cg,my L1 E0] uE) (dq E6 (aA (aE [gR,cg] uy) .ret) .skip)))) Sr))
def ag8:az:=aA (aE [] [(1,kE)]) (aA (aA (aE [lq 6 (v (.cptr false gl0 0))] [(3,L0),(4,V0)]) (ed 0 (.loop [1,2,5,6] An))) (aA (aE [] [(1,kE)]) .ret))
def atZ:br:=⟨7,1,.pure,[.env 1],ag8⟩
def ti:az:=aA pn (aA qN (aA (ed 1 (aA tp (aA (aE [jk 3 E0 E3,Nu,wX] o6) tL))) sB))
def Xa:az:=aA mn (aA (aA pp (ed 0 (.loop [2,3,6,7] ti))) pr)
def asu:br:=⟨8,2,.pure,[.env 2],Xa⟩
def Z0:az:=aA (aE [pv,pc 1 E2] [(3,L0),(4,L1),(5,V0),(6,Vf)]) (aA (aE [i (.mkfn 30 [] [E3,E4]),dC 29 [E0,L0]] xt) (aA (aE [i (.maxs E7 [V0]),PR E7 V0] [(5,L0),(6,L1)]) .ret))
def asp:br:=⟨8,3,.pure,[.env 5,.env 6],Z0⟩
def aha:az:=aA nX (aA (aE [PR E0 (v (.int .i32 97)),zm,g L0 true (.bin .leq L1 (v (.int .i32 122))),rt] sD) .ret)
def atM:br:=⟨2,1,.pure,[.env 1],aha⟩
def age:az:=aA nX (aA (aE [i (.aslice 28 (v (.cptr false gl1 0))),dC 5 [L0,E0]] uy) .ret)
def auO:br:=⟨2,1,.pure,[.env 1],age⟩
def agQ:az:=aA nX (aA (aE [PR E0 (v (.int .i32 48)),zm,g L0 true (.bin .leq L1 (v (.int .i32 57))),rt] sD) .ret)
def atQ:br:=⟨2,1,.pure,[.env 1],agQ⟩
def tD:az:=aA pn (aA qN (aA (ed 1 (aA tp (aA (aE [jk 9 E0 E3,Wo,wX] o6) tL))) sB))
def X8:az:=aA mn (aA (aA pp (ed 0 (.loop [2,3,6,7] tD))) pr)
def asz:br:=⟨8,2,.pure,[.env 2],X8⟩
def anF:az:=aA (aE AA BX) (aA (aE [uH,cg,dC 11 [L1],Lu,zo,g L2 true (.call 68 [L4] false),zN] zC) .ret)
def att:br:=⟨3,1,.pure,[.env 2],anF⟩
def an0:az:=aA nX (aA (aE [dC 115 [E0,v (.fn 117 [] [])],zw] uy) .ret)
def auy:br:=⟨2,1,.pure,[.env 1],an0⟩
def acW:az:=aA nX (aA (aE [my E0 kE,rP,g L0 false (.call 11 [L1] false),AV] sD) .ret)
def arn:br:=⟨2,1,.pure,[.env 1],acW⟩
def xz:az:=aA Mh (aA (dq yt .skip (.exit 1)) (aA (ed 2 (aA (aE MJ o6) (aA (aE F7 [(8,L3)]) (aA (AW SX [] [(0,13),(1,13),(2,13),(3,13),(4,13)]) (aA (aE Vg []) (aE Vz [])))))) Lt))
def PG:az:=aA (aE C4 [(2,L0),(3,V0)]) (aA (aE Ur [(4,L6),(5,L7)]) (aA (aE [Ao,dC 145 [L0]] sH) (aA (ed 0 (aA (aE [i (.una .not E5)] qM) (dq E9 (aA (aE [] [(3,v (.int .i64 220))]) .ret) (aA (aE [ct,eJ 19 L0,dU,i (.lookk [] (.bool false) false L2 E6)] [(10,L3)]) (dq oN (aA (aE [] [(3,v (.int .i64 221))]) .ret) .skip))))) (aA (aE Tv []) (aA (aE UM []) (aA (aA (aE [ct,mu,w8,dT,jk 3 L3 E4,Ib,sM,v6 L6] [(11,L6),(12,L7),(13,V0)]) (ed 1 (.loop [9999,7,8,14] xz))) (aA Q7 .ret)))))))
def arJ:br:=⟨15,2,.keep,[.env 3],PG⟩
def U2:az:=aA (aE [pv,gp] [(3,L0),(4,L1),(5,V0)]) (aA (aE [vS,dC 93 [E0,L0,E2],ng,nq,DK,gp,fL 1 L5 L2] [(6,L5),(7,L3),(8,L4)]) (aA (aA (aE [my E8 V0,g L0 true (.mov E7),g L0 true (.bin .neq L1 V1),rt,g L3 true (.mov E7),g L3 true (.bin .neq L4 V0),gS L3 L5 Vf] [(9,L6)]) (dq E9 (aE [] [(8,v (.int .i64 226))]) .skip)) (aA (aE [xI E6,fL 1 E4 L0] [(5,E8)]) .ret)))
def asd:br:=⟨10,3,.keep,[.cell true 1 4,.env 5],U2⟩
def Kg:az:=aA (aE C4 Ey) (aA (aA (aE [gR,cg,sy L1 kE] [(8,L2)]) (dq E8 (aA (aE [ct,eJ 21 L0,dU,Ao,i (.lookk [2,2] (.int .i64 0) true L2 L3),uk,ux] [(5,L5),(6,L6)]) (aA (aA (aE Jb qM) (dq E9 Mc .skip)) (aA (aE [] [(3,E5),(4,V0)]) .ret))) .skip)) (aA (aA (aE [ct,eJ 20 L0,dU,gA,gd,i (.lookk [] .ai false L2 L4)] [(7,L5)]) (aA (aE [v6 E7] vN) (ed 0 (aA (aE [my oN V0] xU) (dq qX Mc (aA (aE [my oN V1] yT) (dq sV (aA (aE [jk 1 E7 V0,cg] [(3,L1),(4,V0)]) .ret) .skip))))))) (aA (aE [] [(3,V0),(4,v (.int .i64 223))]) .ret)))
def arQ:br:=⟨13,2,.keep,[.env 3,.env 4],Kg⟩
def aem:az:=aA Gm (aA (aE Mx xy) (aA (aE [i (.mkfn 154 [] [E3])] jn) (aA (aE [eJ 8 E1,cg,gz,Gt L2 V0,g L3 false (.fld 7 E1),g L3 false (.fld 0 L4),g L3 false (ld L5),g L3 false (.len L6),g L3 false (.bin .gtr L7 V0),gS L3 Vt L8,g L9 false (.fld 2 E1),g L9 false (ld mC),g L9 false (.mov E4),g L9 false (.call 152 [oo,v8] false),gS L9 Vt rl] [(2,BI)]) .ret)))
def asg:br:=⟨5,1,.pure,[.env 2],aem⟩
def aaq:az:=aA (aE Gn Li) (aA (aE [lq 8 E1,dC 83 [L0,Vn],ng,nq,Ga] sG) .ret)
def asF:br:=⟨4,1,.pure,[.cell true 1 2,.env 3],aaq⟩
def Uc:az:=aA (aE UF Tx) (aA (aE Mx vY) (aA (aE [Dp,fL 1 L0 (v (.fn 100 [] []))] qM) (aA (aE TH IR) (aA (aE [Dp] xU) (aA (aE [i (.mkfn 82 [] [E4,E9,E3,E8,qX,oN]),fL 1 qX L0] []) (aA (aE SZ [(12,L8),(13,L7)]) (aA (aA (aE [sy tR V0] xV) S7) (aA (AW UW [(14,L4),(13,L5)] [(0,3)]) (aA (aE [xI sV,fL 1 E5 L0] [(6,yt),(7,tR)]) .ret)))))))))
def arK:br:=⟨16,3,.keep,[.cell true 1 5,.env 6,.env 7],Uc⟩
def af5:az:=aA SH (aA (aA (aE [BL,dC 17 [L0],ng,nq] sG) (aA (aE [EK] jn) (dq E4 (aA (aE [] [(2,v (.int .i64 200))]) .ret) .skip))) Dz)
def atE:br:=⟨5,1,.pure,[.env 2],af5⟩
def CI:az:=aA ze (aA zk (aA (ed 1 (aA (aE Tb pR) (aA (aE [EG,cg,F9] [(10,L2)]) (dq oN (aE [eJ 3 E4,cg,yL,rB 1 E3 L2] sG) .skip)))) xp))
def afv:az:=aA R6 (aA (aA (aE [BL,GO,M0] pZ) (dq E5 (aA vX .ret) .skip)) (aA PV (aA (aA (aE DH Si) (ed 0 (.loop [4,9,10] CI))) (aA (aE [dC 43 [E3]] []) (aA (aE [dC 48 [E3]] iO) .ret)))))
def atC:br:=⟨11,1,.pure,[.env 2],afv⟩
def Dm:az:=aA Lo (aA MY (aA (ed 1 (aA (aE [jk 8 sV yt,F4,LC,Lx] zd) (aA (AW [lq 8 E9,My,dU,dC 2 [L2],i (.callv E7 [L3]),i (.callv E1 [L0,L4]),Gg,GS] [(10,L6),(11,L7)] [(0,5)]) (aA (aA (aE [sy qX V0] Fj) (dq GQ (aA (aE [] [(8,qX)]) pX) .skip)) (aE [wM,nY 1 [oN],rB 1 L0 L1,fL 1 E5 L2] []))))) Mw))
def XG:az:=aA (aE Do Ey) (.scope (aA (aE [pc 1 Vn] nP) (aA (aE [] [(6,V0)]) (aA (aE [i (.mkfn 20 [] [E5])] nS) (aA (aE [] [(8,V0)]) (aA (aA (.lift 5 0 1 (aE T3 [(12,L1),(13,L2),(14,V0)])) (ed 0 (.loop [9,10,11,15,16] Dm))) (aA (aA (aE Hq FU) (dq Ki (aA (aE [] [(3,E6),(4,E8)]) .ret) .skip)) (aA (aE [wM,jk 1 L0 V0,dU] [(3,L2),(4,V0)]) .ret))))))))
def atj:br:=⟨18,2,.pure,[.env 3,.env 4],XG⟩
def Gj:az:=aA Iu (aA GM (aA (ed 1 (aA (aE [jk 1 oN sV,cg] xt) (ed 2 (aA (aE [my E7 V0,U5,Qj,g L0 false (.bin .eql L1 L2),RL] [(14,L4)]) (dq yt .skip (aA (aE Gr xV) (dq EU (aE [] [(6,E7)]) (aE [] [(6,kh)])))))))) Jl))
def afR:az:=aA (aE [pc 8 E0] [(3,L0),(4,V0),(5,V0)]) (aA (aE [] [(6,V0)]) (aA (aA (aE Bb [(10,E1),(11,L0),(12,V0)]) (ed 0 (.loop [7,13,14,15] Gj))) (aA (aE [] [(8,E6)]) (aA (aE [] [(9,V1)]) (aA (ed 3 (aA (aE [pu,cg,Is] [(16,L2)]) (dq GQ (aA (aE [eJ 4 E3,mu,dU] [(4,L2),(5,V0)]) .ret) (aA (aE [pu,cg,F9] [(17,L2)]) (dq Ki (aA (aE [qV E2,eJ 3 E3,dU,jk 1 L0 L2,gd] [(4,L4),(5,V0)]) .ret) (aA (aE [pu,cg,dC 76 [L1]] [(18,L2)]) (dq QC (aE [] [(8,eZ),(9,eZ)]) (aA (aE [pu,cg,my L1 jw,g L2 false (.fld 0 E3),I2,g L2 false (.bin .eql L4 (v (.int .i64 22))),Ml,g L6 false (.fld 0 E3),Mv,g L6 false (.bin .eql L8 Gi),gS L6 Vt L9] [(19,mC)]) (dq PT (aE [] [(8,V1)]) .skip))))))))) (aA (aA (aE [my E6 kh,Qj,aay,Uk,g L3 true (.mov E6),g L3 true (.mov E8),g L3 true (.bin .neq L4 L5),g L0 false (.pick L3 L6 Vf),gS L0 Vt L7] [(20,L8)]) (dq E20 (aA (aE [] [(4,V0),(5,v (.int .i64 201))]) .ret) .skip)) (aA (aE [] [(4,E9),(5,V0)]) .ret)))))))
def atK:br:=⟨21,3,.pure,[.env 4,.env 5],afR⟩
def agw:az:=aA nX (aA (aE [my E0 lF,rP,g L0 false (.bin .geq L1 Aq),Uk,g L3 true (.mov E0),g L3 true (.bin .leq L4 (v (.int .i64 15))),g L0 false (.pick L3 L5 Vf),gS L0 Vt L6] [(1,L7)]) .ret)
def auA:br:=⟨2,1,.pure,[.env 1],agw⟩
def CF:az:=aA Iz (aA TI (aA (ed 3 (aA (aE [jk 12 Ki PT,DE,uP,Ek] [(10,L2)]) (aE [uu,cg,lq 12 oN,dC 69 [L2,E9],nY 12 [L3],rB 12 L1 L4,uu,fL 1 L6 L5] []))) I7))
def qF:az:=aA Lo (aA MY (aA (ed 1 (aA (aE [jk 1 sV yt,oG,gp,lV] [(7,L2),(6,yt)]) (aA (aA (aE [xI E7,UB,ng,nq] [(8,L3)]) (aA (aE Hq Fj) (dq GQ (aA (aE DD [(4,E8)]) .ret) .skip))) (aA (aE [uu,cg,gz] zd) (aA (aA (aE aaZ HW) (ed 2 (.loop [10,20] CF))) (aA (aE Gr [(21,L0)]) (dq PK (aE [uu,cg,gz,D3 L2 V1,gA,R7] []) (aE [uu,cg,gz,D3 L2 V1,o5,R7] [])))))))) Mw))
def Ty:az:=aA (aE [zv,gp] G7) (aA (aE [gA,fL 1 L0 kh,o5,fL 1 L2 kh] []) (aA (aE BK nP) (aA (aA (.lift 5 0 12 (aE Bb [(12,E1),(13,L0),(14,V0)])) (ed 0 (.loop [4,6,7,8,9,10,15,16,17,18,19,20,21] qF))) (aA (aE [uu,cg,lq 12 E2,dC 69 [L2,V0],nY 12 [L3],rB 12 L1 L4,uu,fL 1 L6 L5] []) (aA (aA (aE [Be,UB,ng,nq] [(11,L3)]) (aA (aE [sy qX V0] [(22,L0)]) (dq Py (aA (aE DD [(4,qX)]) .ret) .skip))) (aA (aE [Be,Lr] [(4,V0)]) .ret))))))
def ar7:br:=⟨23,2,.pure,[.cell true 1 3,.env 4],Ty⟩
def abz:az:=aA (aE BK [(2,L0),(3,V0)]) (aA (aE [ct,mu,xI L1,nY 1 [E1],dC 175 [L2,L3],uk,ux] [(4,L5),(5,L6)]) (aA (aA (aE [sy E5 V0] lI) (dq E6 (aA (aE [Bc,Jc] [(3,E5)]) .ret) .skip)) (aA (aE [pi [n0,n0,n0,n0,.ai,nf,.ai,.ai,.ai,.ai,.ai,n0] [(0,1,V1),(3,1,E1),(4,1,E4)],dC 178 [L0],ng,nq,Ga] sG) .ret)))
def asx:br:=⟨7,2,.pure,[.cell true 1 2,.env 3],abz⟩
def YG:az:=aA (aE [pc 12 E2] kI) (aA (aE [] [(4,E1)]) (dq E4 (aE [Lk,dC 118 [E0,L0,Vn]] []) .skip))
def asr:br:=⟨5,3,.keep,[],YG⟩
def pt:az:=aA Iu (aA GM (aA (ed 1 (aA (aE [jk 12 oN sV,DE,uP,Ek] [(4,L2),(3,sV)]) (aA (aE [EG,cg,i (.look .nilf true E2 L1),lS,lA] [(5,L3),(6,L4)]) (aA (aE [g E6 true (.load true 12 E4),g E6 true (.call 31 [L0] false),g E6 true (.call 32 [L1] false),gS E6 L2 Vf] D8) (aA (aA (aE [] [(14,E7)]) (dq yt (aA (aE [] [(8,V0)]) (aA (aE [fP,dC 33 [L0,E3],ng,nq] [(8,L2),(7,L3)]) (AW [fP,fP,PB L1,eJ 2 L2,gd,nY 1 [E8],rB 1 L4 L5,uI,eJ 2 L7,CT] [] [(0,7)]))) .skip)) (aA (aE uf qM) (aA (aA (aE [] [(15,E7)]) (dq EU (aE [lq 12 E4,i (.callv E5 [L0]),ng,nq] [(9,L2),(7,L3)]) .skip)) (aA (aE [g E7 true (.mov E9),g E7 true (.len L0),g E7 true (.bin .leq L1 Dr),gS E7 L2 Vf] D8) (aA (AW [fP,fP,PB L1,eJ 1 L2,gd,nY 1 [E9],rB 1 L4 L5,uI,GC,CT] [] [(0,7)]) (aA (aE [i (.callv E0 [E3,E7]),zw,g L1 false (.mov E7),g L1 false (.una .not L2),gS L1 Vt L3] [(16,L4)]) (dq GQ .ret .skip))))))))))) Jl))
def Z3:az:=aA (aE [uD,fP,i (.mkfn 80 [L1] []),i (.mput L0 V1 L2),fP,i (.mkfn 199 [L4] []),i (.mput L0 eZ L5),fP,i (.mkfn 91 [L7] []),i (.mput L0 fY L8),fP,i (.mkfn 200 [mC] []),i (.mput L0 lF oo),fP,i (.mkfn 106 [rl] []),i (.mput L0 jw BI),fP,i (.mkfn 201 [AD] []),i (.mput L0 wO zS),fP,i (.mkfn 202 [PN] []),i (.mput L0 DM L20),fP,i (.mkfn 159 [PS] []),i (.mput L0 A8 L23)] iO) (aA (aE [fP,uI,w8,Co,gd,Au] [(10,L4),(11,L5),(12,V0)]) (ed 0 (.loop [3,4,5,6,7,8,9,13,14,15,16] pt)))
def asq:br:=⟨17,2,.keep,[],Z3⟩
def JQ:az:=aA vg (aA (aE [Vp (v (.fn 39 [] []))] nP) (aA (aE [eJ 3 E2,cg,BN,g L2 true (.fld 3 E2),zo,g L2 true (.bin .lss L4 lF),zN,g L6 true (.fld 4 E2),g L6 true (ld L7),g L6 true (.len L8),g L6 true (.bin .geq L9 V1),gS L6 mC Vf,g oo true (.fld 4 E2),g oo true (ld v8),g oo true (.len rl),g oo true (.bin .leq BI lF),gS oo F3 Vf] [(6,AD)]) (aA (aE [MR,cg,g E6 true (.fld 4 E2),g E6 true (ld L2),g E6 true (.mov E5),g E6 true (.call 74 [L3,L4] false),g E6 true (.una .not L5),gS E6 L6 Vf] [(3,L1),(4,L7)]) .ret)))
def arV:br:=⟨7,2,.keep,[.env 3,.env 4],JQ⟩
def af8:az:=aA vg (aA (aE [ct,jm,dU,gA,gd,xA,sM,ct,GC,qV L8,o5,qV mC,jk 1 L9 oo,qV v8,nY 1 [L6,rl],dC 266 [BI]] [(5,F3)]) (aA (aE [Bv,oG,dC 92 [L1,E5]] [(3,E5),(4,L2)]) .ret))
def atw:br:=⟨6,2,.pure,[.env 3,.env 4],af8⟩
def aey:az:=aA vg (aA (aE [ct,jm,dU,gA,gd,xA,sM,Bv,xI L7,ct,eJ 1 L9,qV mC,gA,qV v8,jk 1 oo rl,qV BI,dC 92 [L8,F3]] [(3,L6),(4,AD)]) .ret)
def auE:br:=⟨5,2,.keep,[.env 3,.env 4],aey⟩
def Gf:az:=aA Iz (aA TI (aA (ed 3 (aA (aE [Q0,nQ,Dg,qO] zd) (aA (aE [lq 2 E9,dC 267 [L0,E5],ng,nq] [(10,L2),(11,L3)]) (aE [nY 1 [oN],rB 1 E7 L0,g E6 true (.mov qX),gS E6 L2 Vf] [(7,L1),(6,L3)])))) I7))
def Gc:az:=aA Jf (aA (dq GQ .skip pX) (aA (ed 1 (aA (aE [jk 1 tR EU,cg] vY) (aE [jk 1 E5 E8,cg,yL,rB 1 E7 L2] D8))) IU))
def KI:az:=aA vg (aA (aE TC [(5,L6)]) (aA (aE [Et,cg,gz,iLq L2 fY,g L3 true (.fld 8 E2),xo,Qt,g L3 true (.bin .leq L6 Aq),Ra,g L8 true (.fld 7 E2),g L8 true (ld L9),YN,g L8 true (.fld 8 E2),g L8 true (ld v8),g L8 true (.len rl),g L8 true (.bin .add oo BI),g L8 true (.bin .gtr F3 V0),gS L8 AD Vf,g zS true (.fld 7 E2),Qu,g zS true (.mov E5),g zS true (.call 268 [PN,L20] false),gS zS L21 Vf] [(6,PS)]) (aA (aA (aE Jb yT) (dq sV (aA (aE uf Ji) .ret) .skip)) (aA (aE Dq nS) (aA (aA (aE [Et,cg,gz] Mq) (ed 0 (.loop [8,16] Gc))) (aA (aA (aE abA HW) (ed 2 (.loop [9,10,11,20] Gf))) (aA (aE [] [(3,E7),(4,E6)]) .ret)))))))
def arN:br:=⟨21,2,.pure,[.env 3,.env 4],KI⟩
def Gv:az:=aA Iu (aA GM (aA (ed 1 (aA (aE [jk 1 oN sV,oG,gp,lV] o6) (aA (aE [xI E7,ct,DS,dT,gA,xw,jk 1 L3 L5,qV L6,dC 41 [L0,L7],FB 0 L8,FB 1 L8] [(8,L9),(9,mC)]) (aE [nY 1 [E8],rB 1 E6 L0,g E5 true (.mov E9),g E5 true (.bin .eql L2 V0),gS E5 L3 Vf] [(6,L1),(5,L4)])))) Jl))
def UG:az:=aA vg (aA (aE [DN,cg,gz,PR L2 V1,g L3 true (.fld 9 E2),xo,Qt,g L3 true (.bin .leq L6 Dr),Ra] [(5,L8)]) (aA (aE Dq lI) (aA (aA (aE Xu [(10,L1),(11,L2),(12,V0)]) (ed 0 (.loop [7,8,9,13] Gv))) (aA (aE [] [(3,E6),(4,E5)]) .ret))))
def asm:br:=⟨14,2,.pure,[.env 3,.env 4],UG⟩
def afY:az:=aA vg (aA (aE TC [(3,L6),(4,Vt)]) .ret)
def atu:br:=⟨5,2,.keep,[.env 3,.env 4],afY⟩
def wZ:az:=aA Lo (aA MY (aA (ed 1 (aA (aE [jk 1 sV yt,cg] [(9,yt),(10,L1)]) (aA (aA (aE [Nt,cg,Nm] [(16,L2)]) (dq GQ (aE [Nt,fL 1 L0 oN] []) .skip)) (aE [g E8 true (.mov E7),g E8 true (.mov E9),g E8 true (.idxs 1 L0 L1),g E8 true (ld L2),g E8 true (.mov oN),g E8 true (.bin .eql L3 L4),g E8 true (.mov L5),g L6 false (.mov oN),g L6 false (.bin .eql L7 V0),g E8 true (.pick L6 Vt L8),gS E8 L9 Vf] [(8,mC)])))) Mw))
def Zy:az:=aA vg (aA (aE [ct,jm,dU,gA,gd,xA,sM,ct,GC,qV L8,o5,qV mC,jk 1 L9 oo,qV v8] [(5,L6),(6,rl)]) (aA (aA (aE [v6 E5,v6 E6,sy L0 L1] JN) (dq qX (aA (aE uf Ji) .ret) .skip)) (aA (aE [i (.call 12 [E5] true)] nS) (aA (aE [] [(8,Vt)]) (aA (aA (aE [v6 E6] [(12,E6),(13,L0),(14,V0)]) (ed 0 (.loop [9,10,15,16] wZ))) (aA (aE [] [(3,E7),(4,E8)]) .ret))))))
def asy:br:=⟨17,2,.pure,[.env 3,.env 4],Zy⟩
def J0:az:=aA vg (aA (AW [ct,jm,dU,gA,gd,xA,sM,pc 1 Vn,Rl] [(5,L7)] [(0,8),(1,8),(2,8),(3,8),(4,8),(5,8),(6,8)]) (aA (aE [i (.mkfn 203 [] [E5])] lI) (aA (aE [eJ 10 E2,cg,gz,iLq L2 fY,g L3 true (.fld 10 E2),xo,g L3 true (.mov E6),g L3 true (.call 160 [L5,L6] false),g L3 true (.una .not L7),gS L3 L8 Vf,g L9 true (.fld 11 E2),g L9 true (ld mC),g L9 true (.bin .geq oo kh),gS L9 v8 Vf,g rl true (.fld 11 E2),PY,g rl true (.bin .leq F3 Qf),gS rl AD Vf] [(7,zS)]) (aA (aE [wM,g E7 true (.mov E0),g E7 true (.nilck L1),g E7 true (.fld 1 L2),g E7 true (ld L3),g E7 true (.len L4),g E7 true (.mov E0),g E7 true (.nilck L6),g E7 true (.fld 0 L7),g E7 true (.fld 0 L8),g E7 true (ld L9),g E7 true (.len mC),g E7 true (.bin .sub oo V1),g E7 true (.bin .eql L5 v8),gS E7 rl Vf] [(3,L0),(4,BI)]) .ret))))
def arW:br:=⟨8,2,.keep,[.env 3,.env 4],J0⟩
def AY:az:=aA (aE [zv] BX) (aA (aE [vv,cg,Nm,g L2 true (.fld 4 E1),zo,g L2 true (.len L4),g L2 true (.bin .eql L5 V0),gS L2 L6 Vf,g L7 true (.fld 5 E1),Ii,g L7 true (.una .not L9),gS L7 mC Vf,g oo true (.fld 6 E1),g oo true (.fld 0 v8),g oo true (ld rl),g oo true (.len BI),g oo true (.bin .eql F3 V0),gS oo AD Vf,g zS true (.fld 7 E1),Qu,g zS true (.len PN),g zS true (.bin .eql L20 V0),gS zS L21 Vf,g PS true (.fld 8 E1),g PS true (ld L23),g PS true (.len L24),g PS true (.bin .eql L25 V0),gS PS L26 Vf,g L27 true (.fld 9 E1),g L27 true (ld L28),g L27 true (.len L29),g L27 true (.bin .eql L30 V0),gS L27 L31 Vf,g L32 true (.fld 10 E1),g L32 true (ld L33),g L32 true (.len L34),g L32 true (.bin .eql L35 V0),gS L32 L36 Vf,g L37 true (.fld 11 E1),g L37 true (ld L38),g L37 true (.bin .eql L39 V0),gS L37 L40 Vf] [(2,L41)]) .ret)
def arB:br:=⟨3,1,.pure,[.env 2],AY⟩
def FT:az:=aA (aE [zv,uP] HU) (aA (aA LF (ed 0 (aA Nl (dq E4 (aE [vv,Dj,Ds,Rk] []) (aA Ls (dq E5 (aE [Bc,eJ 5 E1,fL 1 L1 Vf,Cm,fL 1 L3 L0] []) (aA (aE [my E3 fY] lI) (dq E6 (aE [Bc,Cm,me] []) (aA (aE [my E3 lF] nS) (dq E7 (aE [C8,Lq,eJ 8 E1,Rk] []) (aA (aE [my E3 jw] xG) (dq E8 (aE [eJ 9 E1,Lq] []) (aA (aE [my E3 A8] qM) (dq E9 (aE [eJ 10 E1,Lq,eJ 11 E1,fL 1 L2 V0] []) .skip)))))))))))))) (aA (aE [lq 12 E1,fL 12 E2 L0] []) .ret))
def arF:br:=⟨10,1,.keep,[.cell true 12 2],FT⟩
def xT:az:=aA (aE [] [(2,V0),(3,Vf)]) (aA (aE [ct,mu,w8,dT,jk 12 L3 E1,lq 12 L4,uP,fL 12 L6 L5] [(4,L6)]) (aA (aA (aE [EG,cg,dC 34 [L1]] pZ) (ed 0 (aA (aE [my E5 V0] lI) (dq E6 (aA (aE [eJ 1 E4,cg,my L1 kh,g L2 true (.fld 2 E4),zo,g L2 true (.bin .eql L4 kh),zN] [(2,E1),(3,L6)]) .ret) (aA (aE [my E5 V1] nS) (dq E7 (aA (aA (aE [eJ 1 E4,cg,D3 E1 V1,sy L1 L2,g L3 false (.fld 2 E4),D1,g L3 false (.bin .neq L5 kh),gS L3 Vt L6,g L7 false (.mov E1),g L7 false (.bin .eql L8 V0),gS L7 Vt L9] [(8,mC)]) (dq E8 (aA (aE [] [(2,V0),(3,Vf)]) .ret) .skip)) (aA (aE [ct,eJ 2 L0,dU,eJ 1 E4,gd,xA,sM] [(2,L6),(3,Vt)]) .ret)) .skip)))))) (aA (aA (aE [eJ 2 E4,cg,D3 E1 V1,sy L1 L2,g L3 false (.mov E1),M7,GW,g L6 false (.fld 1 E4),Mv,TO,g L6 false (.nilck L9),g L6 false (.fld 2 mC),g L6 false (ld oo),g L6 false (.fld 2 E4),g L6 false (ld rl),g L6 false (.idxs 1 v8 BI),g L6 false (ld F3),g L6 false (.bin .sub AD V1),g L6 false (.bin .neq L8 zS),gS L6 Vt Tp,g PN false (.fld 1 E4),g PN false (ld L20),g PN false (.bin .lss L21 V0),gS PN Vt PS] [(9,L23)]) (dq E9 (aA (aE [] [(2,V0),(3,Vf)]) .ret) .skip)) (aA (aE [ct,eJ 2 L0,dU,eJ 1 E4,gd,xA,sM] [(2,L6),(3,Vt)]) .ret))))
def ary:br:=⟨10,2,.pure,[.env 2,.env 3],xT⟩
def Da:az:=aA Ru (aA Sw (aA (ed 1 (aA RG (aA (aE [jk 8 E0 E3,F4,jk 8 E1 E3,lq 8 L2,i (.eqa true [0,0,0,0,0,0,0,2] L1 L3)] [(8,L4)]) MM))) R5))
def Uh:az:=aA lg (aA Ni (aA (aA QK (ed 0 (.loop [2,3,7,8] Da))) BB))
def ar6:br:=⟨9,2,.pure,[.env 2],Uh⟩
def qS:az:=aA (aA (aE [fP,iLt L0,rK E2 L1] uE) qN) (ed 1 (aA (aA (aE [fP,i (.idxt L0 E2),dC 23 [v (.str [32,9,10,13]),L1],PR L2 V0] D8) (dq E7 (aA R0 (.exit 1)) .skip)) (aA (aE [fP,i (.slicet L0 (some E2) none),dC 55 [L1],lS,lA,Of,EH,fL 4 L6 L3] [(3,L6),(4,L4),(5,L5)]) (aA (aE [EE,fL 1 L0 E2] []) (aA (aA (aE [lq 4 E3,i (.callv E0 [L0,E5]),xr,S8,g L2 false (.una .not L3),LQ] [(8,L5)]) (dq E8 pX .skip)) (aE [wg E2 E4] iO))))))
def aaP:az:=.scope (aA mn (ed 0 (.loop [3,4,5,6,7,8] qS)))
def asC:br:=⟨9,2,.keep,[],aaP⟩
def agM:az:=aA mn (aA (aE [dC 24 [E0,E1]] iO) .ret)
def ato:br:=⟨3,2,.pure,[.env 2],agM⟩
def pM:az:=aA (aE [uq,EH] [(1,L0),(2,L1),(3,V0),(4,Vf)]) (aA (aA (aE [fP,i (.idxt L0 V0),my L1 KV] [(14,L2)]) (dq yt (aA (aE [fP,dC 204 [L0],ng,nq,DK] [(5,L2),(6,L3),(7,L4)]) (aA (aE [pi [n0,n0,.str [],.int .u64 0] [(0,1,lF),(2,1,E5)],Ap] [(3,E6),(4,E7)]) .ret)) .skip)) (aA (aA (aE [fP,dC 56 [L0]] vY) (aA (aE [Gt E8 V0] xV) (dq EU (aA (aE [fP,i (.slicet L0 none (some E8))] [(9,L1)]) (aA (aA (aE [dC 65 [E9],Eo,Ly] [(10,L1),(11,L2)]) (aA (aE [] [(16,qX)]) (dq GQ (aA (aE [pi [n0,n0,.str [],.int .u64 0] [(0,1,fY),(3,1,oN)],Ap] [(3,E8),(4,Vt)]) .ret) .skip))) (aA (aA (aE [dC 8 [E9]] yT) (aA (aE [dC 9 [sV]] FU) (dq Ki (aA (aE [pi [n0,n0,.str [],.int .u64 0] [(0,1,V1),(2,1,sV)],Ap] [(3,E8),(4,Vt)]) .ret) .skip))) (aA (aE [pi [n0,n0,.str [],.int .u64 0] [(0,1,eZ),(2,1,E9)],dC 11 [E9],Ap] [(3,E8),(4,L1)]) .ret)))) .skip))) (aA (aE [i (.aslice 14 UX),i (.mkfn 60 [] [E1]),dC 163 [L0,L1]] [(13,L2)]) (aA (aA (aE [rK tR V0] [(18,L0)]) (dq QC (aA (aE [abk,Ap] [(3,V0),(4,Vf)]) .ret) .skip)) (aA (AW [Ue,cg,pi [n0,n0,.str [],.int .u64 0] [(0,1,jw),(2,1,L1)],Ue,gd,iLt L4,fL 4 E2 L2] [(3,L5),(4,Vt)] [(3,7),(4,7)]) .ret)))))
def arw:br:=⟨19,1,.pure,[.cell true 4 2,.env 3,.env 4],pM⟩
def afk:az:=aA mj (aA (aE [uD,i (.mputk [] L0 (v (.str [79,82])) Gi),i (.mkfn 110 [E0] []),TX] sD) .ret)
def auP:br:=⟨2,1,.trunc,[.env 1],afk⟩
def Xm:az:=aA SH (aA (aA (aE [BL,dC 90 [L0],ng,nq] sG) (aA (aE [EK] jn) (dq E4 (aA (aE [] [(2,v (.int .i64 180))]) .ret) .skip))) Dz)
def art:br:=⟨5,1,.pure,[.env 2],Xm⟩
def afd:az:=aA (aE [pv,pc 1 E2] [(3,L0),(4,L1),(5,V0),(6,Vf)]) (aA (aE [i (.mkfn 22 [] [E3,E4]),dC 37 [E0,L0]] xt) (aA (aE [i (.maxs E7 [V0]),PR E7 V0] [(5,L0),(6,L1)]) .ret))
def auU:br:=⟨8,3,.pure,[.env 5,.env 6],afd⟩
def agf:az:=aA (aE Ej Ji) (aA (AW [fP,lq 3 E3,CO,qV E2,my L2 L3] [(4,L4)] [(3,0)]) .ret)
def auK:br:=⟨5,3,.pure,[.env 4],agf⟩
def agW:az:=aA lg (aA (aE [dC 116 [E0,E1],yP] oX) .ret)
def ats:br:=⟨3,2,.pure,[.env 2],agW⟩
def alO:az:=aA (aE Do BX) (aA (aE [BL,dC 89 [L0],M0] rI) .ret)
def auz:br:=⟨3,1,.pure,[.env 2],alO⟩
def afI:az:=aA (aE Do [(2,L0),(3,V0),(4,Vf)]) (aA (aE [gR,cg,dC 50 [L1,v (.fn 13 [] []),E1],lS,lA] [(3,L3),(4,L4)]) .ret)
def auG:br:=⟨5,2,.pure,[.env 3,.env 4],afI⟩
def aiZ:az:=aA (aE AA [(1,L0),(2,kE)]) (aA (aA (aE [yH,cg,my L1 kE] xF) (dq E3 Sc .skip)) (aA (aE [yH,cg] oX) .ret))
def as5:br:=⟨4,1,.pure,[.env 2],aiZ⟩
def apB:az:=aA (aE [] [(0,v .nilm)]) (aA (aE [uD,i (.mput L0 fY V1),i (.mput L0 A8 eZ),i (.mput L0 (v (.int .i64 9)) fY),i (.mput L0 D9 lF),i (.mput L0 LZ jw)] [(0,L0)]) .ret)
def au0:br:=⟨1,0,.pure,[.env 0],apB⟩
def akW:az:=aA Np (aA (aE [gR,mu,dU,i (.mkfn 157 [] [E1]),dC 155 [L2,L3]] D2) .ret)
def atS:br:=⟨4,2,.pure,[.env 3],akW⟩
def agU:az:=aA lg (aA (aE [dC 156 [E0,E1],yP] oX) .ret)
def atn:br:=⟨3,2,.pure,[.env 2],agU⟩
def aiu:az:=aA (aE [pc 9 E0] PE) (aA (aE [fP,gR,dU,T8,Gt L3 V0] D2) .ret)
def as3:br:=⟨4,2,.pure,[.env 3],aiu⟩
def aga:az:=aA lg (aA (aE [dC 153 [E0,E1],yP] oX) .ret)
def atA:br:=⟨3,2,.pure,[.env 2],aga⟩
def xB:az:=aA Jh (aA Jk (aA (ed 1 (aA (aE [jk 1 E9 qX,oG,gp,lV] pZ) (aA (aE [Be,GO] sH) (aA (aE xW BD) (dq tR (aA (aE DD [(4,E6)]) .ret) .skip))))) Ij))
def J9:az:=aA (aE Gn G7) (aA (aA (aE Bb [(9,E1),(10,L0),(11,V0)]) (ed 0 (.loop [4,5,6,12,13] xB))) (aA (aE [lq 8 E2,dC 84 [L0,E1],gp,lV] o6) (aA (aA (aE [xI E7,GO] vY) (aA (aE Hq zi) (dq yt (aA (aE DD [(4,E8)]) .ret) .skip))) (aA (aE [xI E7,Lr] [(4,V0)]) .ret))))
def arX:br:=⟨15,2,.pure,[.cell true 1 3,.env 4],J9⟩
def afm:az:=aA (aE Gn Li) (aA (aE [lq 8 E1,dC 101 [L0],ng,nq,Ga] sG) .ret)
def aua:br:=⟨4,1,.pure,[.cell true 1 2,.env 3],afm⟩
def aeQ:az:=aA vX (aA (aA (aE [] [(3,E0)]) (dq E3 (aA (aE [fP,uI,eJ 23 L1,dT] vM) .ret) .skip)) (aA (aE [fP,uI,eJ 22 L1,dT] vM) .ret))
def atY:br:=⟨4,2,.keep,[.env 2],aeQ⟩
def p7:az:=aA (aE [rK E29 eZ] [(30,L0)]) (aA (dq E30 .skip pX) (aA (ed 1 (aA (aE [i (.idxv false 2 1 E28 E29)] xV) (aA (aA (aE [rK EU V0] [(31,L0)]) (dq E31 pX .skip)) (aA (aE [qV E6,g E1 true (.mov tR),g E1 true (.bin .eql L1 V0),gS E1 L2 Vf,i (.callv L0 [EU,L3]),uk,ux,gp,Gl] [(16,L7),(17,L6)]) (aA (aA (aE [sy Ki V0] [(32,L0)]) (dq E32 (aA (aE [xI GQ,F8] [(9,Ki)]) .ret) .skip)) (aE [xI GQ,C2,rB 1 yt L1] [(14,L2)])))))) (aE [wg E29 V1] [(29,L0)])))
def CG:az:=aA (aE BK [(8,L0),(9,V0)]) (aA (aE Vu [(10,L4)]) (aA (aA (aE [wW,cg,Is] [(23,L2)]) Uz) (aA (aA (aE [wW,cg,F9] [(24,L2)]) U1) (aA (aE TN [(13,L3)]) (aA (aE Dq zi) (aA (aA (aE [eJ 1 oN,cg,eJ 2 oN,dT,pi [n0,n0] [(0,1,L1),(1,1,L3)]] [(28,L4),(29,V0)]) (ed 0 (.loop [9999,9,15,16,17,30,31,32] p7))) (aA (ed 2 (aA (aE [Gt tR V0,g L0 true (.mov E1),MB,rt] [(33,L3)]) (dq E33 (aA (aE B5 [(9,v (.int .i64 224))]) .ret) (aA (aE [Gt tR V0] [(34,L0)]) (dq E34 (aA (aE [pi [n0,.ai] [(0,1,tR)],Dg,zy] [(18,L1)]) (aA (aA (aE [v6 yt,Gt L0 V0] [(35,L1)]) (dq E35 (aE [Gh,oG,eJ 1 QC,lV] []) .skip)) (aA (aE [qV E4,lq 2 QC,dC 205 [L0,L1],lS,lA] [(19,L3),(20,L4)]) (aA (aA (aE [sy E20 V0] [(36,L0)]) (dq E36 (aA (aE B5 [(9,E20)]) .ret) .skip)) (aA (aE [qV E3,pi [n0,n0,n0,n0,n0,n0,.int .u64 0,.str []] [(0,1,eZ),(3,1,PT)],CO,lS,lA,fL 1 E8 L3] [(9,L4)]) .ret))))) .skip))))) (aA (AW TQ [(21,L7),(22,L6)] [(0,8),(1,8),(2,8),(3,8),(4,8)]) (aA (aA (aE [v6 yt,my L0 eZ] [(37,L1)]) Tm) (aA (aA (aE [my Py V0] [(38,L0)]) SS) (aA (aE [xI PK,F8] [(9,Py)]) .ret)))))))))))
def arx:br:=⟨39,8,.keep,[.cell true 1 8,.env 9],CG⟩
def tc:az:=aA pn (aA qN (aA (ed 1 (aA tp (aA (aE [zg,cg,my E1 L1] o6) tL))) sB))
def XH:az:=aA mn (aA (aA pp (ed 0 (.loop [2,3,6,7] tc))) pr)
def aso:br:=⟨8,2,.pure,[.env 2],XH⟩
def apV:az:=aA (aE C4 Ey) (aA (aE [] [(5,eZ)]) (aA (aA (aE [gR,cg,sy L1 V1] zd) TS) (aA (aE Va [(8,L5)]) (aA (aA (aE [rK E8 V0] yT) Ua) (aA (aA (aE [ct,py,xg,dT,sN,Gt L4 Aq] [(13,L5)]) UU) (aA (aE Ui [(3,L5),(4,V0)]) .ret))))))
def arH:br:=⟨14,2,.keep,[.env 3,.env 4],apV⟩
def ae9:az:=aA (aE [pv,gp] G7) (aA (aE [UZ,rV,yL,dC 83 [L0,L2],IM,Ho,fL 1 E3 L4] [(4,L5)]) .ret)
def auu:br:=⟨5,2,.pure,[.cell true 1 3,.env 4],ae9⟩
def ago:az:=aA (aE [pv,pc 1 E2,gp] [(3,L0),(4,L1),(5,L2),(6,V0)]) (aA (aE [UZ,vS,AP,nY 1 [L1,L2],dC 83 [L0,L3],uk,ux,fL 1 E5 L5] [(6,L6)]) .ret)
def atF:br:=⟨7,3,.pure,[.cell true 1 5,.env 6],ago⟩
def xH:az:=aA ac8 (aA Vi (aA (ed 3 (aA (aE [jk 1 PT PK,cg] [(12,PK),(13,L1)]) (AW [jk 1 E4 tR,cg,i (.mins qX [L1]),iIa 2 1 oN sV,fL 1 L3 tR] JN [(0,5),(1,5)]))) UK))
def jG:az:=aA (aE [rK GQ EU] FU) (aA (dq Ki .skip pX) (aA (ed 1 (aA (aE [jk 8 yt GQ,F4,LC,Lx] [(7,L2),(6,GQ)]) (aA (aE [yE,cg,dC 2 [L1]] [(8,L2)]) (aA (aA (aE [rK E8 V0,UJ,U7,Lw,Tj,Md,g L5 false (.load true 8 E7),g L5 false (.call 7 [L6] false),Td,gS L5 Vt L8] [(18,L9)]) TP) (aA (aE [v6 E5,D3 L0 E8,i (.slice 1 E5 (some L1) none)] zd) (aA (aE Ud IR) (aA (aE [] [(11,E6)]) (aA (aA (aE [v6 E9] [(19,E9),(20,L0),(21,V0)]) (ed 2 (.loop [12,13,22] xH))) (aA (aA (aE [lq 2 oN,eJ 1 E7,dU,eJ 2 E7,gd,pi [n0,n0] [(0,1,L2),(1,1,L4)],i (.eqa true [0,0] L0 L5)] [(23,L6)]) (dq E23 Mn .skip)) (aA (aE [nY 1 [qX],rB 1 E4 L0] yy) (aE [v6 E5,D3 L0 E8,i (.slice 1 E5 none (some L1)),nY 1 [E6],rB 1 L2 L3] [(5,L4)]))))))))))) (aE [wg GQ V1] Fj)))
def Tr:az:=aA (aE Es [(1,L0),(2,L1),(3,Vf)]) (aA (aE [iMn 1,iMn 1] [(4,L0),(5,L1)]) (aA (aA (aE DH [(14,L1),(15,L2),(16,V0)]) (ed 0 (.loop [2,3,6,7,8,9,10,11,12,13,17,18,19,20,21,22,23] jG))) (aA (aE [v6 E5,my L0 V1,g L1 true (.mov E4),g L1 true (.len L2),g L1 true (.bin .leq L3 (v (.int .i64 1000))),R4] [(2,E4),(3,L5)]) .ret)))
def asa:br:=⟨24,1,.pure,[.env 2,.env 3],Tr⟩
def agF:az:=aA vX (aA (aE [fP,fP,gz,D3 L2 E0,i (.slice 1 L0 (some L3) none),So] [(3,L5)]) (aA (aE [fP,fP,gz,D3 L2 E0,i (.slice 1 L0 none (some L3)),fL 1 E1 L4] []) LR))
def aun:br:=⟨4,2,.keep,[.env 2],agF⟩
def FH:az:=aA qU (aA (ed 0 (aA (aE [my E0 V1,rP,T1,AV] vM) (dq E2 zU (aA (aE [PR E0 lF,zm,g L0 true (.bin .leq L1 DM),rt] sG) (dq E3 LB (aA (aE [PR E0 Aq,zm,g L0 true (.bin .leq L1 Gi),rt] [(4,L3)]) Up)))))) (aA (aE [] [(1,kh)]) .ret))
def arD:br:=⟨5,1,.pure,[.env 1],FH⟩
def ah2:az:=aA (aE Es G7) (aA (aA (aE RN xJ) (aA (aE [sy E5 V0] lI) (dq E6 (aA (aE uf [(3,L0),(4,E5)]) .ret) .skip))) (aA (aA (aE [i (.mkfn 176 [] [E2]),dC 74 [E1,L0]] xt) (dq E7 (aA (aE uf [(3,L0),(4,lF)]) .ret) .skip)) (aA (aE [rV,dC 177 [L0,E1]] [(3,L1),(4,V0)]) .ret)))
def asS:br:=⟨8,2,.pure,[.env 3,.env 4],ah2⟩
def agu:az:=aA (aE [zv,gp] Li) (aA (aE [lq 12 E1,dC 104 [L0,Vn],ng,nq,Ga] sG) .ret)
def auQ:br:=⟨4,1,.pure,[.cell true 1 2,.env 3],agu⟩
def ahe:az:=aA nX (aA (aE [dC 40 [E0],zw] uy) .ret)
def auo:br:=⟨2,1,.pure,[.env 1],ahe⟩
def aeX:az:=aA nX (aA (aE [my E0 V1,rP,T1,AV,Sn,g L3 false (.bin .eql L4 fY),GW] [(1,L6)]) .ret)
def auv:br:=⟨2,1,.pure,[.env 1],aeX⟩
def agV:az:=aA lg (aA (aE [dC 75 [E0,E1],yP] oX) .ret)
def aug:br:=⟨3,2,.pure,[.env 2],agV⟩
def vF:az:=aA Mh (aA Q9 (aA (ed 3 (aA (aE [jk 1 qX tR,cg] xJ) (aE [rB 1 E4 E5] jn))) Lt))
def F5:az:=aA ze (aA zk (aA (ed 1 (aA (aE [jk 1 E6 E8,cg] xy) (aA (aE [v6 E3,wg E2 L0] oX) (aA (aE [rK E2 V0] vN) (dq oN (aE [i .bad,i .bad] []) .skip))))) xp))
def Ys:az:=aA mj (aA mn (aA (aA SD (ed 0 (.loop [3,9,10] F5))) (aA (aE [dC 271 [Vn,E2]] jn) (aA (aA (aE D5 [(11,E0),(12,L0),(13,V0)]) (ed 2 (.loop [5,14] vF))) LW))))
def asW:br:=⟨15,1,.pure,[.env 1],Ys⟩
def ahf:az:=aA YL (aA (aE [rV,dC 41 [L0,E1],ng,nq] [(4,L2),(5,L3)]) (aA (aE [my E5 V0,R1,g L0 true (.bin .eql L1 V1),g L0 true (.mov L2),g L3 false (.mov E4),M7,Uj,QB] [(3,L7)]) .ret))
def atI:br:=⟨6,2,.pure,[.env 3],ahf⟩
def afe:az:=aA (aE [pv] PE) (aA (aE [i (.mkfn 272 [] [E2]),dC 74 [E0,L0],xr] xF) .ret)
def at5:br:=⟨4,2,.pure,[.env 3],afe⟩
def KC:az:=aA (aE AA [(2,L0),(3,V0),(4,Vf)]) (aA (aA (aE [gR,cg,Is] o6) (dq E7 (aA (aE [gA,mu,dU,Bk,my L3 V0] [(3,eZ),(4,L4)]) .ret) .skip)) (aA (aE [gA,oG,dC 41 [L1,E1],lS,lA] [(5,L3),(6,L4)]) (aA (aA (aE [gR,cg] vY) (ed 0 (aA (aE [my E8 eZ] qM) (dq E9 (aA (aE Gr [(3,eZ),(4,L0)]) .ret) (aA (aE [my E8 fY] vN) (dq oN (aA (aE [my E6 V0,g L0 true (.mov E5),g L0 true (.bin .eql L1 eZ),g L0 true (.mov L2),g L3 false (.mov E5),M7,Uj,QB] [(3,eZ),(4,L7)]) .ret) (aA (aA (aE [my E8 lF] xU) (dq qX .skip (aE [my E8 jw] xU))) (dq qX (aA (aE Gr [(3,E5),(4,L0)]) .ret) .skip)))))))) (aA (aE [] [(3,V0),(4,Vf)]) .ret))))
def arR:br:=⟨12,2,.pure,[.env 3,.env 4],KC⟩
def agB:az:=aA Np (aA (aE [gR,cg,rK L1 V0,U8,I2,g L2 false (ld E1),aaz,g L2 false (.bin .geq L4 L6),gS L2 Vt L7] [(3,L8)]) .ret)
def aub:br:=⟨4,2,.pure,[.env 3],agB⟩
def aeK:az:=aA lg (aA (aE [dC 161 [E0,E1],yP] oX) .ret)
def atq:br:=⟨3,2,.pure,[.env 2],aeK⟩
def agO:az:=aA qU (aA (aA (aE [] [(2,E0)]) (ed 0 (aA (aE [my E2 V1] kI) (dq E3 zU (aA (aA (aE [my E2 eZ] jn) (dq E4 .skip (aE [my E2 DM] jn))) Up))))) LB)
def auR:br:=⟨5,1,.pure,[.env 1],agO⟩
def afx:az:=aA mn (aA (aE [dC 25 [E0,E1]] iO) .ret)
def auM:br:=⟨3,2,.pure,[.env 2],afx⟩
def mA:az:=aA (aA (aE [yM,rK E5 L0] sH) qN) (aA (ed 1 (ed 2 (aA (aE [i (.idxt E0 E5),sy L0 KV] xt) (dq E7 (aE [i (.idxt E0 E5),C2,rB 1 E4 L1] pR) (aA (aE [LI,yM,rK L0 L1,g L2 true (.mov E0),g L2 true (.mov E5),g L2 true (.bin .add L4 V1),g L2 true (.idxt L3 L5),g L2 true (.bin .eql L6 KV),gS L2 L7 Vf] [(8,L8)]) (dq E8 (aA (aE [i (.idxt E0 E5),C2,rB 1 E4 L1] pR) sB) (aA (aE [i (.b2s E4),LI,i (.b2s E4),dC 279 [L2]] [(1,L0),(2,L1),(3,L3)]) .ret))))))) sB)
def YI:az:=aA (aE [] [(1,kE),(2,V0),(3,Vf)]) (aA Rj (aA (aA (aE [] [(5,V1)]) (ed 0 (.loop [1,2,3,6,7,8] mA))) (aA (aE [] [(1,kE),(2,V0),(3,Vf)]) .ret)))
def asU:br:=⟨9,1,.pure,[.env 1,.env 2,.env 3],YI⟩
def Z9:az:=aA qU (aA (aA (aE [dC 57 [E0,v (.fn 14 [] [])]] iO) (aA (aE [PR E2 V0] kI) (dq E3 D4 .skip))) (aA (aE [yM] mw) .ret))
def asT:br:=⟨4,1,.pure,[.env 1],Z9⟩
def tx:az:=aA pn (aA qN (aA (ed 1 (aA tp (aA (aE [zg,cg,wX] o6) tL))) sB))
def Zo:az:=aA mn (aA (aA pp (ed 0 (.loop [2,3,6,7] tx))) pr)
def asw:br:=⟨8,2,.pure,[.env 2],Zo⟩
def af3:az:=aA lg (aA (aE [fP,dC 61 [L0,E0]] oX) .ret)
def aur:br:=⟨3,2,.pure,[.env 2],af3⟩
def afp:az:=aA lg (aA (aE [dC 62 [E0,E1]] iO) .ret)
def atH:br:=⟨3,2,.pure,[.env 2],afp⟩
def zX:az:=ed 1 (aA (aA (aE [dC 4 [E0,E1,Vn],zw] vY) (dq E8 (aA (aE [] [(4,E5)]) .ret) .skip)) (aA (aE [ct,mu,dU,LD,Nj,xw,i (.lookk [] (.int .i64 0) true E2 L5),Bj,Bz] [(6,L7),(7,L8)]) (aA (aA (aE [i (.una .not E7)] qM) (dq E9 (aA (aE [] [(4,E5)]) .ret) .skip)) (aA BW (aE [i (.callv E3 []),nY 1 [E5,L0],dC 165 [E6,L1]] pZ)))))
def agm:az:=aA (aE uf jn) (aA (aE [i (.callv E3 [])] nP) (ed 0 (.loop [4,6,7,8,9] zX)))
def auL:br:=⟨10,4,.trunc,[.env 4],agm⟩
def afz:az:=aA mj (aA (aE [uD,i (.mputk [] L0 (v (.str [65,78,68])) (v (.int .i64 22))),i (.mkfn 111 [E0] []),TX] sD) .ret)
def auS:br:=⟨2,1,.trunc,[.env 1],afz⟩
def I0:az:=aA ac8 (aA Vi (aA (ed 3 (aA (aE [jk 1 PT PK,cg] [(12,L1)]) (AW [eJ 0 qX,cg,jk 2 E4 sV,Co,gd,i (.mins L1 [L4]),eJ 1 qX,qV L6,jk 2 E4 sV,eJ 1 L8,qV L9,wg mC V1,i (.maxs L7 [oo]),eJ 0 qX,fL 1 rl L5,eJ 1 qX,fL 1 F3 v8] [] [(8,15),(9,15),(10,15)]))) UK))
def gc:az:=aA Jf (aA (dq GQ .skip pX) (aA (ed 1 (aA (aE Vs [(7,L2),(6,EU)]) (aA (aE [yE,cg,dC 66 [L1]] [(8,L2)]) (aA (aA (aE [rK E8 V0,UJ,U7,Lw,Tj,Md,g L5 false (.load true 9 E7),g L5 false (.call 67 [L6] false),Td,gS L5 Vt L8] [(17,L9)]) (dq Ki Mn .skip)) (aA (aE [v6 E5,D3 L0 E8,i (.slice 1 E5 (some L1) none)] zd) (aA (aE [i (.mksl 1 [kh,kh])] vN) (aA (aE [i (.copy 1 oN E9)] []) (aA (aA (aE [eJ 1 E7,cg,jk 1 oN V0,dT,sy L1 L3,g L4 false (.fld 2 E7),g L4 false (ld L5),g L4 false (.mov oN),g L4 false (.idxs 1 L7 V1),g L4 false (ld L8),g L4 false (.bin .neq L6 L9),gS L4 Vt mC] [(18,oo)]) TP) (aA (aE [pi [n0,n0] [(0,1,E6),(1,1,V1)],pc 2 (v (.agg [n0,n0])),zy] [(11,L1)]) (aA (aA (aE [v6 E9] [(19,E9),(20,L0),(21,V0)]) (ed 2 (.loop [12,22] I0))) (aA (aE [lq 2 qX,nY 2 [L0],rB 2 E4 L1] pR) (aE [v6 E5,D3 L0 E8,i (.slice 1 E5 none (some L1)),nY 1 [E6],rB 1 L2 L3] [(5,L4)])))))))))))) IU))
def aaL:az:=aA (aE Es [(1,L0),(2,L1),(3,Vf)]) (aA (aE [iMn 2] jn) (aA (aE Dq nP) (aA (aA (aE DH Mq) (ed 0 (.loop [2,3,6,7,8,9,10,11,12,16,17,18,19,20,21,22] gc))) (aA (aE [v6 E5,my L0 V1,g L1 true (.mov E4),g L1 true (.len L2),g L1 true (.bin .leq L3 (v (.int .i64 300))),R4,g L5 true (.mov E4),g L5 true (.mov E4),g L5 true (.len L7),g L5 true (.bin .sub L8 V1),g L5 true (.idxs 2 L6 L9),g L5 true (.fld 1 mC),g L5 true (ld oo),g L5 true (.bin .leq v8 (v (.int .i64 20))),gS L5 rl Vf] [(2,E4),(3,BI)]) .ret))))
def ars:br:=⟨23,1,.pure,[.env 2,.env 3],aaL⟩
def ta:az:=aA pn Gx
def Xr:az:=aA mn (aA (aA pp (ed 0 (.loop [2,3,6,7] ta))) pr)
def asH:br:=⟨8,2,.pure,[.env 2],Xr⟩
def afN:az:=aA (aE AA Ji) (aA (AW [fP,lq 2 E3,CO,qV E2,my L2 L3] [(4,L4)] [(3,0)]) .ret)
def atr:br:=⟨5,3,.pure,[.env 4],afN⟩
def tP:az:=aA pn (aA qN (aA (ed 1 (aA tp (aA (aE [zg,oG,wX] o6) tL))) sB))
def ZV:az:=aA mn (aA (aA pp (ed 0 (.loop [2,3,6,7] tP))) pr)
def as1:br:=⟨8,2,.pure,[.env 2],ZV⟩
def tS:az:=aA pn (aA qN (aA (ed 1 (aA tp (aA (aE [jk 9 E0 E3,Wo,wX] o6) tL))) sB))
def aae:az:=aA mn (aA (aA pp (ed 0 (.loop [2,3,6,7] tS))) pr)
def as2:br:=⟨8,2,.pure,[.env 2],aae⟩
def tN:az:=aA pn Gx
def Y6:az:=aA mn (aA (aA pp (ed 0 (.loop [2,3,6,7] tN))) pr)
def asY:br:=⟨8,2,.pure,[.env 2],Y6⟩
def CZ:az:=aA LN (aA MP (aA (ed 1 (aA (aE TD [(7,L2),(6,oN)]) (aA (aE [xI E7,dC 102 [E4,L0]] yy) (aE [v6 E4,D3 L0 V1,iIa 2 1 E5 E6,lV] [])))) Lh))
def agi:az:=aA (aE Gn Ng) (aA (aE [iMn 8] jn) (aA (aE Ud xJ) (aA (aA (aE Bb [(8,E1),(9,L0),(10,V0)]) (ed 0 (.loop [6,7,11] CZ))) (aA (AW [iIa 2 1 E5 V0,cg,iIa 2 1 E5 V1,dT,gA,Qd,o5,fL 1 L6 L3] [] [(2,6),(3,6)]) (aA (aE [lq 8 E2,nY 8 [L0],rB 8 E4 L1,aax,fL 1 E3 L3] []) .ret)))))
def auh:br:=⟨12,2,.pure,[.cell true 1 3],agi⟩
def tM:az:=aA pn Gx
def Zz:az:=aA mn (aA (aA pp (ed 0 (.loop [2,3,6,7] tM))) pr)
def asZ:br:=⟨8,2,.pure,[.env 2],Zz⟩
def ahL:az:=aA Np (aA (aE [gR,cg,uH,dT,my L1 L3,RB,g L4 true (lt L5),g L4 true (.fld 1 E1),g L4 true (lt L7),TW,MW] [(3,mC)]) .ret)
def asP:br:=⟨4,2,.pure,[.env 3],ahL⟩
def Uw:az:=aA (aE [pc 8 E0] BX) (aA (aA LF (ed 0 (aA Nl (dq E4 (aA (aE [Ds,C7,dC 26 [L1],g L2 true (.fld 3 E1),zo,g L2 true (.bin .eql L4 V0),zN] zC) .ret) (aA Ls (dq E5 (aA (aE [Ds,C7,Gd,Vd,T5,xo,g L3 true (.bin .geq L5 V0),Ep,g L7 true (.fld 3 E1),Ii,g L7 true (.bin .lss L9 Dr),gS L7 mC Vf] [(2,oo)]) .ret) .skip)))))) (aA (aE [Ds,C7,Gd,Vd,T5,xo,g L3 true (.bin .eql L5 V0),Ep] [(2,L7)]) .ret))
def asc:br:=⟨6,1,.pure,[.env 2],Uw⟩
def amv:az:=aA lg (aA (aE [rK E0 V0,rP,aar,Q4,RI,aby,LY] zC) .ret)
def auc:br:=⟨3,2,.pure,[.env 2],amv⟩
def Hz:az:=aA Mh (aA Q9 (aA (ed 3 (aA (aE MJ uE) (aE [eJ 1 E6,cg,yL,rB 1 E4 L2] [(4,L3)]))) Lt))
def Mo:az:=aA En (aA Bo (aA (ed 1 (aA (aE [Nt,cg] xJ) (aA (aE [gR,cg,jk 3 L1 E5,eJ 1 L2,gd,Au] [(11,L4),(12,L5),(13,V0)]) (ed 2 (.loop [6,14] Hz))))) zl))
def aj4:az:=aA (aE Es Ng) (aA Rj (aA (aA (aE Bb [(7,E1),(8,L0),(9,V0)]) (ed 0 (.loop [5,6,10,11,12,13,14] Mo))) HR))
def auk:br:=⟨15,2,.pure,[.env 3],aj4⟩
def tf:az:=aA pn (aA qN (aA (ed 1 (aA tp (aA (aE [zg,cg,wX] o6) tL))) sB))
def abg:az:=aA mn (aA (aA pp (ed 0 (.loop [2,3,6,7] tf))) pr)
def atd:br:=⟨8,2,.pure,[.env 2],abg⟩
def XP:az:=aA vX (aA (aA (aE [rK E1 V0] kI) (dq E3 (aE [i .bad,i .bad] []) .skip)) (aA (aA (aE [i (.cap E0),vL,D3 L0 L1,D3 E1 L2] sD) (aA (aE [Gt E1 V0] jn) (dq E4 (aE [i (.cap E0),i (.slice 1 E0 none (some L0)),i (.appz 1 (.int .i64 0) L1 E1),vL,i (.slice 1 L2 none (some L3))] [(0,L4)]) .skip))) (aA (aE [] [(2,E0)]) .ret)))
def as6:br:=⟨5,2,.keep,[.env 2],XP⟩
def aeC:az:=aA lg (aA (aE [rK E0 V0,rP,g L0 false (ld E1),Lw,g L0 false (.bin .geq L1 L3),Md] [(2,L5)]) .ret)
def atU:br:=⟨3,2,.pure,[.env 2],aeC⟩
def tQ:az:=aA pn Gx
def aaW:az:=aA mn (aA (aA pp (ed 0 (.loop [2,3,6,7] tQ))) pr)
def asv:br:=⟨8,2,.pure,[.env 2],aaW⟩
def agn:az:=aA nX (aA (aE [Vp (v (.fn 282 [] []))] iO) (aA (aE [yM,iLq L0 (v (.int .i64 40)),g L1 true (.mov E0),g L1 true (.mov E2),g L1 true (.call 57 [L2,L3] false),g L1 true (.bin .lss L4 V0),gS L1 L5 Vf] [(1,L6)]) .ret))
def aum:br:=⟨3,1,.pure,[.env 1],agn⟩
def ae4:az:=aA mn (aA (aE [dC 58 [E0,E1,Vt]] iO) .ret)
def atG:br:=⟨3,2,.pure,[.env 2],ae4⟩
def afi:az:=aA nX (aA (aE [dC 15 [E0],zw] uy) .ret)
def atm:br:=⟨2,1,.pure,[.env 1],afi⟩
def afr:az:=aA nX (aA (aE [dC 3 [E0],rP,g L0 false (.call 1 [L1] false),AV,Sn,g L3 false (.call 19 [L4] false),GW,TO,g L6 false (.bin .eql L7 (v (.int .i32 95))),gS L6 Vt L8] [(1,L9)]) .ret)
def atz:br:=⟨2,1,.pure,[.env 1],afr⟩
def Yd:az:=aA lg (aA (aE [yM,iLt E1,PR L0 L1,g L2 true (.mov E0),g L2 true (.mov E1),g L2 true (.lent L4),g L2 true (.slicet L3 none (some L5)),g L2 true (.mov E1),g L2 true (.bin .eql L6 L7),gS L2 L8 Vf] [(2,L9)]) .ret)
def ata:br:=⟨3,2,.pure,[.env 2],Yd⟩
def Dd:az:=aA Jf (aA Q3 (aA (ed 3 (aA (aE Vs [(8,L2)]) (aA (aA (aE [eJ 1 E8,cg,BN] [(17,L2)]) (dq Ki (aE [eJ 1 E8,cg,wg L1 E7,eJ 1 E8,yG] []) .skip)) (aA (aA (aE [eJ 2 E8,cg,BN] [(18,L2)]) (dq QC (aE [eJ 2 E8,cg,wg L1 E7,eJ 2 E8,yG] []) .skip)) (aE [lq 9 E8,nY 9 [L0],rB 9 E4 L1] pR))))) IU))
def CN:az:=aA Jh (aA Jk (aA (ed 1 (aA (aE [jk 1 E9 qX,cg] [(5,qX),(6,L1)]) (aA (aE [v6 E4] nS) (aA (aA (aE [v6 E6] [(13,E6),(14,L0),(15,V0)]) (ed 2 (.loop [8,16,17,18] Dd))) (aA (aE [my E5 V0] [(19,L0)]) (dq PT (aE [v6 E4,D3 L0 V1,EE,lV] []) (aE [v6 E4,D3 L0 V1,eJ 2 E3,lV] []))))))) Ij))
def ae7:az:=aA vX (aA (aE [pi [n0,n0,n0,n0,n0,.int .u64 0,.str [],.str [],.str []] [(0,1,E0),(1,1,kh),(2,1,kh)],LL,fL 9 L1 L0] xy) (aA (aE [iMn 9] jn) (aA (aA (aE Bb [(9,E1),(10,L0),(11,V0)]) (ed 0 (.loop [5,6,7,8,12,13,14,15,16,17,18,19] CN))) (aA (aE [lq 9 E3,nY 9 [L0],rB 9 E4 L1] rI) .ret))))
def atN:br:=⟨20,2,.pure,[.env 2],ae7⟩
def YE:az:=aA mj (aA (aA (aE [dC 18 [E0,V1,v (.str [78,79,84])]] iO) (dq E2 (aA (aE [dC 111 [E0],C2,dC 165 [jw,L1]] DT) .ret) .skip)) (aA (aE [dC 112 [E0]] mw) .ret))
def asV:br:=⟨3,1,.trunc,[.env 1],YE⟩
def anJ:az:=aA qU (aA (ed 0 (aA (aE [rK E0 V1,rP,g L0 false (.bin .gtr L1 Gi),AV] vM) (dq E2 (aA (aE [] [(1,kh)]) .ret) (aA (aE [iLq E0 fY] kI) (dq E3 zU (aA (aE [iLq E0 LZ] jn) (dq E4 LB .skip))))))) (aA (aE [] [(1,eZ)]) .ret))
def arv:br:=⟨5,1,.pure,[.env 1],anJ⟩
def ac3:az:=aA Gm (aA (aE [C8,cg,sy L1 kE,g L2 false (.fld 8 E1),I2,g L2 false (.bin .neq L4 kE),Ml,vv,lq 4 L7,Gd,i (.eqa true [0,0,0,2] L8 L9)] [(3,L6),(4,mC)]) (aA (aA (aE QS xJ) (ed 0 (aA (aE [my E5 V1] lI) (dq E6 (aA (aE [EK,g L0 true (.fld 3 E1),g L0 true (.load true 4 L1),g L0 true (.call 26 [L2] false),gS L0 L3 Vf,g L4 true (.fld 3 E1),g L4 true (.fld 1 L5),g L4 true (ld L6),g L4 true (.bin .geq L7 V0),gS L4 L8 Vf,g L9 true (.fld 3 E1),g L9 true (.fld 3 mC),g L9 true (ld oo),g L9 true (.call 133 [v8] false),gS L9 rl Vf] [(2,BI)]) .ret) (aA (aE [my E5 eZ] nS) (dq E7 (aA (aE [i (.una .not E4),g L0 true (.fld 8 E1),g L0 true (ld L1),g L0 true (.call 11 [L2] false),gS L0 L3 Vf,g L4 true (.fld 7 E1),Ie,TV,LU] [(2,L8)]) .ret) .skip)))))) (aA (aE [EK,R1,MB,rt] vM) .ret)))
def arp:br:=⟨8,1,.pure,[.env 2],ac3⟩
def Gs:az:=aA ze (aA zk (aA (ed 1 (aA (aE Tb pZ) (aA (aA (aE [DY,cg,BN] [(10,L2)]) (dq oN (aE [DY,cg,wg L1 E4,DY,yG] []) .skip)) (aA (aA (aE [Lj,cg,BN] JN) (dq qX (aE [Lj,cg,wg L1 E4,Lj,yG] []) .skip)) (aE [lq 8 E5,nY 8 [L0],rB 8 E0 L1] [(0,L2)]))))) xp))
def agY:az:=aA (aE [pv,Vp Vn] Ng) (aA (aE D5 jn) (aA (aA (aE T3 Si) (ed 0 (.loop [5,9,10,11] Gs))) (aA (aE [] [(3,E0)]) .ret)))
def auH:br:=⟨12,2,.keep,[.env 3],agY⟩
def aeS:az:=aA (aE [pc 4 E0] BX) (aA (aE [lq 4 E1,dC 27 [L0],Nm,g L2 true (.fld 0 E1),zo,g L2 true (.bin .neq L4 lF),zN] zC) .ret)
def auN:br:=⟨3,1,.pure,[.env 2],aeS⟩
def ag4:az:=aA nX (aA (aE [rK E0 (v (.int .i32 32)),rP,g L0 false (.bin .gtr L1 (v (.int .i32 126))),AV] sD) .ret)
def atL:br:=⟨2,1,.pure,[.env 1],ag4⟩
def rN:az:=aA (aE [i (.nexts E6),Eo] [(7,L0),(8,L1)]) (aA Mk (ed 1 (aA (aE [FB 1 E7,FB 2 E7] [(4,L0),(5,L1)]) (aA (aE [i (.callv E1 [E5]),i (.eqb false L0 E2)] [(9,L1)]) (dq E9 HR .skip)))))
def Ya:az:=aA Q7 (aA (aA (aE [i (.rngs E0)] lI) (ed 0 (.loop [3,4,5,7,8,9] rN))) (aA (aE [] [(3,kh)]) .ret))
def atb:br:=⟨10,3,.pure,[.env 3],Ya⟩
def afH:az:=aA nX (aA (aE [PR E0 (v (.int .i32 65)),zm,g L0 true (.bin .leq L1 (v (.int .i32 90))),rt] sD) .ret)
def aui:br:=⟨2,1,.pure,[.env 1],afH⟩
def Fq:az:=aA mj (aA (aE [dC 95 [E0]] iO) (aA (aE [uD,i (.mputk [] L0 (v (.str [61])) Dr),i (.mputk [] L0 (v (.str [60,62])) (v (.int .i64 17))),i (.mputk [] L0 (v (.str [60])) (v (.int .i64 18))),i (.mputk [] L0 (v (.str [60,61])) (v (.int .i64 19))),i (.mputk [] L0 (v (.str [62])) (v (.int .i64 20))),i (.mputk [] L0 (v (.str [62,61])) (v (.int .i64 21)))] kI) (aA (aA (aE [dC 4 [E0,jw,Vn]] nS) (dq E7 (aA (aE [ct,mu,dU,LD,Nj,xw,i (.lookk [] (.int .i64 0) true E3 L5),Bj,Bz] [(4,L7),(5,L8)]) (aA (aE [] [(8,E5)]) (dq E8 (aA BW (aA (aE [dC 95 [E0],nY 1 [E2,L0],dC 165 [E4,L1]] DT) .ret)) .skip))) .skip)) (aA (aA (aE [dC 18 [E0,V1,v (.str [73,83])],zw] [(9,L1)]) (dq E9 D4 .skip)) (aA (aE [] [(6,wO)]) (aA (aA (aE [dC 18 [E0,V1,v (.str [78,79,84])]] vN) (dq oN (aE [] [(6,DM)]) .skip)) (aA (aE [nY 1 [UH],sQ] []) (aA (aE [nY 1 [E2],dC 165 [E6,L0]] uy) .ret))))))))
def arI:br:=⟨11,1,.trunc,[.env 1],Fq⟩
def vK:az:=aA (aE [rK E4 E3] nP) (aA K3 (aA (ed 1 (aA (aE [] [(2,E4)]) (aA (aE [i (.idxt E0 E2),rK L0 (v (.int .u8 32)),Xl,Y1,g L1 false (.idxt L2 L3),g L1 false (.bin .gtr L4 (v (.int .u8 126))),gS L1 Vt L5] [(6,L6)]) (dq E6 PZ .skip)))) Sr))
def ahV:az:=aA nX (aA (aA (aE [yM] [(3,L0),(4,V0)]) (ed 0 (.loop [1,2,5,6] vK))) (aA (aE [] [(1,Vt)]) .ret))
def asB:br:=⟨7,1,.pure,[.env 1],ahV⟩
def Kr:az:=aA (aE [pc 4 E0] [(1,L0),(2,V0)]) (aA (aA (aE [lq 4 E1,dC 28 [L0],Gd,i (.eqa true [0,0,0,2] L1 L2)] sG) (dq E3 (aA (aE [] [(2,v (.int .i64 120))]) .ret) .skip)) Dz)
def arY:br:=⟨4,1,.pure,[.env 2],Kr⟩
def aeD:az:=aA mj (aA (aE [uD,i (.mputk [] L0 (v (.str [43])) Aq),i (.mputk [] L0 (v (.str [45])) (v (.int .i64 13))),i (.mkfn 96 [E0] []),S0] [(1,L4)]) .ret)
def auB:br:=⟨2,1,.trunc,[.env 1],aeD⟩
def A3:az:=aA (aE [pc 4 E0,pc 4 (v (.agg [n0,n0,.int .u64 0,.str []]))] HU) (aA (aA LF (ed 0 (aA (ed 5 (aA (ed 4 (aA (ed 3 (aA (ed 2 (aA (ed 1 (aA (aA (aA Nl (dq E4 (.exit 1) .skip)) (aA (aA Ls (dq E5 vQ .skip)) (aA (aA (aE [my E3 V0] lI) (dq E6 (.exit 3) .skip)) (aA (aA (aE [my E3 fY] nS) (dq E7 (.exit 4) .skip)) (aA (aE [my E3 lF] xG) (dq E8 (.exit 5) .skip)))))) pX)) (aA (aE [yH,cg,M0,Lu,zo,g L2 true (.bin .neq L4 V1),zN] [(9,L6)]) (dq E9 pX .skip)))) (aE [yH,Dj] []))) (aA (aE [uH,Dj] []) pX))) (aA (aA (aE [vv,cg,iLt L1,iLq L2 (v (.int .i64 40))] [(10,L3)]) (dq oN (aE [uH,Dj,vv,fL 1 L2 kE] []) .skip)) pX))) (aA (aE [uH,Dj,yH,fL 1 L2 V0,Nr,fL 1 L4 (v (.int .u64 0))] []) pX)))) (aA (aE [lq 4 E1,Ap] []) .ret))
def arz:br:=⟨11,1,.pure,[.cell true 4 2],A3⟩
def aeE:az:=aA mj (aA (aE [uD,i (.mputk [] L0 K4 (v (.int .i64 14))),i (.mputk [] L0 (v (.str [47])) (v (.int .i64 15))),i (.mkfn 97 [E0] []),S0] [(1,L4)]) .ret)
def aut:br:=⟨2,1,.trunc,[.env 1],aeE⟩
def abF:az:=aA mj (aA (aA (aE [dC 18 [E0,jw,v (.str [45])]] iO) (dq E2 (aA (aE [dC 97 [E0],C2,dC 165 [lF,L1]] DT) .ret) .skip)) (aA (aE [dC 98 [E0]] mw) .ret))
def asD:br:=⟨3,1,.trunc,[.env 1],abF⟩
def CQ:az:=aA mj (aA (ed 0 (aA (aE [dC 4 [E0,fY,Vn]] jn) (dq E4 (aA (aE [Ed,abv,i (.conv .i64 L1),dC 164 [eZ,L2,kE]] sD) .ret) (aA (aE [dC 4 [E0,lF,Vn]] nP) (dq E5 (aA (aE [Ed,A5,dC 164 [fY,V0,L1]] DT) .ret) (aA (aE [dC 18 [E0,V1,v (.str [84,82,85,69])]] lI) (dq E6 (aA (aE [dC 164 [V1,V1,kE]] mw) .ret) (aA (aE [dC 18 [E0,V1,v (.str [70,65,76,83,69])]] nS) (dq E7 (aA (aE [dC 164 [V1,V0,kE]] mw) .ret) (aA (aE [dC 18 [E0,V1,UH]] xG) (dq E8 (aA (aE [dC 164 [V0,V0,kE]] mw) .ret) (aA (aE [nY 1 [Mt,v (.str [83,85,77]),v (.str [77,73,78]),v (.str [77,65,88])],QF] [(9,L1)]) (dq E9 (aA (aE [Ed,A5,dC 215 [E0,L1]] DT) .ret) (aA (aE [dC 18 [E0,jw,v (.str [40])]] vN) (dq oN (aA (aE [dC 109 [E0]] iO) (aA Mz D4)) .skip))))))))))))))) (aA (aE [dC 113 [E0],xx,zy] xy) (aA (aE [pu,cg,EE,dT,pi [n0,n0,n0,n0,n0,.int .u64 0,.str [],.str [],.str []] [(0,1,eZ),(7,1,L1),(8,1,L3)],dC 99 [L4]] [(1,L5)]) .ret)))
def arC:br:=⟨11,1,.trunc,[.env 1],CQ⟩
def ahi:az:=aA Ld (aA (aE [pi [n0,n0,.int .u64 0,.str []] [(0,1,E0),(1,1,E1),(3,1,E2)],pi [n0,n0,n0,n0,n0,.int .u64 0,.str [],.str [],.str []] [(0,1,V1),(3,4,L0)],dC 99 [L1]] xF) .ret)
def atD:br:=⟨4,3,.pure,[.env 3],ahi⟩
def SV:az:=aA vX (aA (aE [uD,i (.mputk [] L0 Mt A8),i (.mputk [] L0 (v (.str [83,85,77])) (v (.int .i64 9))),i (.mputk [] L0 (v (.str [77,73,78])) D9),i (.mputk [] L0 (v (.str [77,65,88])) LZ)] kI) (aA (aE [nY 1 [v (.str [40])],SU] []) (aA (aA (aE [my E1 Mt,zm,g L0 true (.call 18 [L1,jw,K4] false),rt] [(5,L3)]) (dq E5 (aA Mz (aA (aE [pi [n0,n0,n0,n0,n0,.int .u64 0,.str [],.str [],.str []] [(0,1,fY)],dC 99 [L0]] oX) .ret)) .skip)) (aA (aE [dC 109 [E0]] jn) (aA Mz (aA (aE [i (.lookk [] (.int .i64 0) false E3 E1),nY 1 [E4],dC 165 [L0,L1]] rI) .ret))))))
def asb:br:=⟨6,2,.trunc,[.env 2],SV⟩
def afM:az:=aA (aE [pc 9 E0,Vp Vn] HU) (aA (aE [yH,fL 1 L0 kh,Nr,fL 1 L2 kh] []) (aA (aE [lq 9 E1,nY 9 [L0]] oX) .ret))
def atp:br:=⟨3,1,.pure,[.env 2],afM⟩
def mT:az:=aE UF Tx
def mU:az:=aE Mx vY
def mY:az:=aE [Dp,fL 1 L0 (v (.fn 100 [] []))] qM
def mR:az:=aE TH IR
def mZ:az:=aE [Dp] xU
def mX:az:=aE [i (.mkfn 82 [] [E4,E9,E3,E8,qX,oN]),fL 1 qX L0] []
def kz:az:=aE SZ [(12,L8),(13,L7)]
def fZ:az:=aA (aE [sy tR V0] xV) S7
def gv:az:=AW UW [(14,L4),(13,L5)] [(0,3)]
def mV:az:=aE [xI sV,fL 1 E5 L0] [(6,yt),(7,tR)]
def mb:az:=.ret
def gx:az:=aA mV mb
def yg:az:=aA gv gx
def yn:az:=aA fZ yg
def kx:az:=aA kz yn
def yk:az:=aA mX kx
def yo:az:=aA mZ yk
def yp:az:=aA mR yo
def yf:az:=aA mY yp
def rh:az:=aA mU yf
def HO:az:=aE MJ o6
def IA:az:=aE F7 [(8,L3)]
def Cw:az:=AW SX [] [(0,13),(1,13),(2,13),(3,13),(4,13)]
def IV:az:=aE Vg []
def HX:az:=aE Vz []
def lL:az:=aE C4 [(2,L0),(3,V0)]
def lG:az:=aE Ur [(4,L6),(5,L7)]
def lH:az:=aE [Ao,dC 145 [L0]] sH
def lW:az:=ed 0 (aA (aE [i (.una .not E5)] qM) (dq E9 (aA (aE [] [(3,v (.int .i64 220))]) .ret) (aA (aE [ct,eJ 19 L0,dU,i (.lookk [] (.bool false) false L2 E6)] [(10,L3)]) (dq oN (aA (aE [] [(3,v (.int .i64 221))]) .ret) .skip))))
def lU:az:=aE Tv []
def lO:az:=aE UM []
def lD:az:=aA (aE [ct,mu,w8,dT,jk 3 L3 E4,Ib,sM,v6 L6] [(11,L6),(12,L7),(13,V0)]) (ed 1 (.loop [9999,7,8,14] xz))
def pS:az:=aE [] [(3,V0)]
def pU:az:=.ret
def pT:az:=aA pS pU
def mh:az:=aE [] [(1,V0)]
def mB:az:=aE TG []
def mx:az:=aE Ux []
def fR:az:=aA (aE [ct,jm,DS,dT,g L3 true (.mov E0),g L3 true (.nilck L4),g L3 true (.fld 10 L5),g L3 true (.fld 4 L6),g L3 true (ld L7),gS L3 L8 Vf] [(8,L9)]) UD
def fS:az:=aA (aE SP [(9,L3)]) (dq E9 (aA (aE F7 [(10,L3),(11,V0)]) (ed 0 (.loop [9999,1,2,3,4,12,13] wQ))) .skip)
def gW:az:=aA (aE RV [(14,L3),(15,L4),(16,V0)]) (ed 2 (.loop [9999,1,5,6,7,17,18] w9))
def qQ:az:=aE [] [(1,V0)]
def qC:az:=.ret
def jC:az:=aA qQ qC
def xa:az:=aA gW jC
def xf:az:=aA fS xa
def jz:az:=aA fR xf
def mq:az:=aA mx jz
def ou:az:=aE C4 Ey
def oF:az:=aE [] [(5,eZ)]
def eh:az:=aA (aE [gR,cg,sy L1 V1] zd) TS
def kM:az:=aE Va [(8,L5)]
def gP:az:=aA (aE [rK E8 V0] yT) Ua
def gN:az:=aA (aE [ct,py,xg,dT,sN,Gt L4 Aq] [(13,L5)]) UU
def nZ:az:=aE Ui [(3,L5),(4,V0)]
def oc:az:=.ret
def gO:az:=aA nZ oc
def zt:az:=aA gN gO
def zj:az:=aA gP zt
def sr:az:=aA kM zj
def zF:az:=aE Y4 [(11,L2),(10,Py)]
def Ay:az:=aE Yc [(12,L6)]
def vl:az:=aA abM (aA (aE [sy tR V0] [(24,L0)]) (dq E24 (aA (AW [HQ,iMu D9 oN,PB sV,eJ 24 L2,gd,wg L1 L4,Ee] [(5,L5),(6,tR)] [(2,7),(3,7),(4,7)]) .ret) .skip))
def nF:az:=aA (aE [dC 169 [sV]] zi) (aA (aE [my oN V0] [(25,L0)]) (dq E25 (aE [dC 170 [sV],eJ 1 E9,me,eJ 2 E9,fL 1 L3 yt] []) (aA (aE [eJ 2 E9,cg,dC 190 [L1,yt],He] [(26,L3)]) (dq E26 (aA (aE [HQ,iMu D9 oN,wg L1 wO,Ee] [(5,L2),(6,v (.int .i64 229))]) .ret) .skip))))
def vp:az:=aE abL []
def lB:az:=aE BK [(8,L0),(9,V0)]
def iW:az:=aE Vu [(10,L4)]
def gK:az:=aA (aE [wW,cg,Is] [(23,L2)]) Uz
def gM:az:=aA (aE [wW,cg,F9] [(24,L2)]) U1
def ei:az:=aE TN [(13,L3)]
def je:az:=aE Dq zi
def jh:az:=aA (aE [eJ 1 oN,cg,eJ 2 oN,dT,pi [n0,n0] [(0,1,L1),(1,1,L3)]] [(28,L4),(29,V0)]) (ed 0 (.loop [9999,9,15,16,17,30,31,32] p7))
def dB:az:=ed 2 (aA (aE [Gt tR V0,g L0 true (.mov E1),MB,rt] [(33,L3)]) (dq E33 (aA (aE B5 [(9,v (.int .i64 224))]) .ret) (aA (aE [Gt tR V0] [(34,L0)]) (dq E34 (aA (aE [pi [n0,.ai] [(0,1,tR)],Dg,zy] [(18,L1)]) (aA (aA (aE [v6 yt,Gt L0 V0] [(35,L1)]) (dq E35 (aE [Gh,oG,eJ 1 QC,lV] []) .skip)) (aA (aE [qV E4,lq 2 QC,dC 205 [L0,L1],lS,lA] [(19,L3),(20,L4)]) (aA (aA (aE [sy E20 V0] [(36,L0)]) (dq E36 (aA (aE B5 [(9,E20)]) .ret) .skip)) (aA (aE [qV E3,pi [n0,n0,n0,n0,n0,n0,.int .u64 0,.str []] [(0,1,eZ),(3,1,PT)],CO,lS,lA,fL 1 E8 L3] [(9,L4)]) .ret))))) .skip))))
def fH:az:=AW TQ [(21,L7),(22,L6)] [(0,8),(1,8),(2,8),(3,8),(4,8)]
def fF:az:=aA (aE [v6 yt,my L0 eZ] [(37,L1)]) Tm
def fw:az:=aA (aE [my Py V0] [(38,L0)]) SS
def fh:az:=aE [xI PK,F8] [(9,Py)]
def fj:az:=.ret
def fu:az:=aA fh fj
def fp:az:=aA fw fu
def fI:az:=aA fF fp
def fE:az:=aA fH fI
def bv:az:=aA dB fE
def wo:az:=aA jh bv
def wC:az:=aA je wo
def gH:az:=aA ei wC
def wt:az:=aA gM gH
def lP:az:=aA gK wt
def pV:az:=aA iW lP
def jR:az:=aE [MU] mw
def jZ:az:=aE [nY 1 [v (.str [83,69,76,69,67,84])],sQ] []
def jU:az:=aE ZD rI
def gZ:az:=aA (aE [dC 18 [E0,jw,K4],gA,me] []) (aA (aE [gA,cg,xr] xF) (dq E3 (aE [i (.mkfn 130 [E0] []),dC 129 [E0,wO,L0],o5,lV] []) .skip))
def jY:az:=aE [nY 1 [v (.str [70,82,79,77])],sQ] []
def jS:az:=aE aa9 []
def kf:az:=aE aaV []
def ic:az:=aA (aE [dC 18 [E0,V1,v (.str [87,72,69,82,69])]] jn) (dq E4 (aE [Eh,Bv,me] []) .skip)
def gY:az:=aA (aE [dC 18 [E0,V1,v (.str [71,82,79,85,80])]] nP) (dq E5 (aA (aE [nY 1 [v (.str [66,89])],sQ] []) (aE [i (.mkfn 113 [E0] []),dC 197 [E0,fY,L0],BF,lV] [])) .skip)
def hY:az:=aA (aE [dC 18 [E0,V1,v (.str [72,65,86,73,78,71])]] lI) (dq E6 (aE [Eh,Et,me] []) .skip)
def jx:az:=aE [lq 9 E2,fL 9 E1 L0] []
def jD:az:=.ret
def zT:az:=aA (aE [dC 4 [E0,fY,Vn]] kI) aab
def Aj:az:=aA (aA (aE [dC 18 [E0,V1,v (.str [68,69,83,67])],o5,me] []) (aA (aE [o5,cg,xr] pR) (dq E4 (aE [dC 18 [E0,V1,v (.str [65,83,67])]] []) .skip))) P7
def yx:az:=aE I8 mw
def yD:az:=aE Y0 vM
def vG:az:=aA (aE [dC 18 [E0,V1,v (.str [79,82,68,69,82])]] nP) (dq E5 (aA (aE [nY 1 [v (.str [66,89])],sQ] []) (aE [i (.mkfn 194 [E0] []),dC 195 [E0,fY,L0],gA,lV] [])) .skip)
def vj:az:=aA (aE [dC 18 [E0,V1,v (.str [76,73,77,73,84])]] lI) (dq E6 (aE [dC 193 [E0],o5,me] []) .skip)
def Fm:az:=aA (aE [lq 3 E2,fL 3 E1 L0] []) .ret
def jc:az:=aE Xq IP
def iZ:az:=aA Mj (aA (aE xW xV) (dq EU (aA (aE Jd [(5,E6)]) .ret) .skip))
def jg:az:=aA (aE [pu,cg,gz,rK L2 V1,g L3 false (.fld 0 E3),D1,QM,g L3 false (.bin .gtr L6 fY),gS L3 Vt L7] [(16,L8)]) Zp
def nu:az:=aE XA D8
def nr:az:=aE [i (.mkfn 182 [] [E7])] xG
def nD:az:=aA (aE Mp HW) (ed 0 (.loop [5,9,10,11,12,20,21] ny))
def iT:az:=aE aaN []
def iX:az:=aE Zx [(13,L5),(14,L6)]
def iY:az:=aA (aE [qV E7,uI,eJ 11 L1,dT,g L3 false (.mov yt),g L3 false (.bin .neq L4 V0),GW,g L6 false (.mov tR),g L6 false (.len L7),g L6 false (.fld 1 E3),g L6 false (ld L9),g L6 false (.len mC),g L6 false (.bin .neq L8 oo),gS L6 Vt v8,g rl false (.mov tR),g rl false (.fld 2 E3),g rl false (ld F3),g rl false (.call 184 [BI,AD] false),g rl false (.una .not zS),gS rl Vt Tp] [(22,PN)]) Y7
def ja:az:=aE Ze [(5,V0)]
def iH:az:=.ret
def qT:az:=aA ja iH
def Du:az:=aA iY qT
def Cv:az:=aA iX Du
def qI:az:=aA iT Cv
def nk:az:=aA nD qI
def nB:az:=aA nr nk
def nh:az:=aA nu nB
def iV:az:=aA jg nh
def iS:az:=aA iZ iV
def tbl:List li:=[
.none,
.fn atM,
.fn arD,
.fn atQ,
.fn arS,
.fn auq,
.fn ar0,
.fn asc,
.prim 4,
.fn auO,
.fn aue,
.fn arG,
.nilfn atP,
.fn auI,
.fn atm,
.fn atz,
.fn atE,
.fn asa,
.fn atf,
.fn aui,
.fn aun,
.fn atK,
.fn atr,
.fn ato,
.fn auM,
.prim 6,
.fn auN,
.fn arY,
.fn arz,
.fn asu,
.fn auK,
.fn arF,
.fn arB,
.fn ary,
.fn auR,
.round qK,
.fn auU,
.fn asH,
.fn atZ,
.fn auo,
.fn auv,
.fn arZ,
.fn atC,
.prim 2,
.none,
.none,
.none,
.none,
.fn asn,
.fn atj,
.fn asp,
.fn auL,
.fn aus,
.fn ar1,
.fn as8,
.fn arw,
.fn asT,
.fn atG,
.fn atb,
.round p8,
.fn aur,
.fn atH,
.fn ata,
.fn aul,
.nilfn atl,
.prim 8,
.fn arv,
.fn arp,
.fn arn,
.fn ar3,
.nilfn auC,
.nilfn auj,
.nilfn atX,
.fn as9,
.fn aug,
.fn atd,
.fn auA,
.fn ar2,
.fn atT,
.fn asq,
.fn arV,
.fn au0,
.fn arx,
.fn arX,
.fn auh,
.fn as7,
.fn asR,
.fn aty,
.fn asG,
.fn art,
.fn ars,
.fn auE,
.fn atI,
.fn arK,
.fn arQ,
.fn auB,
.fn aut,
.fn asD,
.fn arC,
.fn atp,
.fn aua,
.fn asF,
.fn auH,
.fn atY,
.fn ar7,
.fn auw,
.fn asm,
.fn ash,
.fn asO,
.fn auP,
.fn auS,
.fn asV,
.fn arI,
.fn asJ,
.fn auy,
.fn ats,
.fn as1,
.fn auz,
.fn asL,
.fn atW,
.fn auY,
.fn auW,
.fn asA,
.fn ar4,
.fn asX,
.fn atJ,
.fn asC,
.fn arU,
.fn arO,
.fn auF,
.fn ass,
.fn atk,
.fn auJ,
.fn asB,
.fn arP,
.fn arq,
.fn atB,
.fn asz,
.fn aro,
.fn atg,
.fn att,
.fn aup,
.fn atv,
.fn arJ,
.fn auG,
.fn as5,
.fn asE,
.fn ath,
.fn auu,
.fn asM,
.fn arA,
.fn asg,
.fn atA,
.fn asY,
.fn atS,
.fn atn,
.fn as2,
.fn as3,
.fn asr,
.fn arW,
.fn atq,
.fn asv,
.fn au4,
.fn asw,
.fn atD,
.fn atN,
.fn asd,
.fn atF,
.fn ast,
.fn atc,
.fn asN,
.fn arT,
.fn as0,
.fn ar5,
.fn asx,
.fn asS,
.fn auc,
.fn auk,
.fn auQ,
.fn ati,
.fn arE,
.fn asQ,
.fn as4,
.fn ate,
.fn asi,
.fn au7,
.fn au2,
.none,
.none,
.fn arM,
.fn asj,
.fn aux,
.fn asI,
.fn asK,
.fn arL,
.fn aud,
.fn aru,
.fn auT,
.fn aso,
.fn atw,
.fn arN,
.fn atu,
.fn asy,
.fn aub,
.fn asU,
.fn arH,
.none,
.none,
.none,
.none,
.none,
.none,
.none,
.none,
.none,
.fn asb,
.none,
.none,
.none,
.fn auV,
.none,
.none,
.fn atx,
.none,
.fn ar8,
.fn ase,
.fn asf,
.none,
.none,
.none,
.none,
.none,
.none,
.none,
.none,
.none,
.none,
.none,
.none,
.none,
.none,
.none,
.none,
.none,
.none,
.none,
.none,
.none,
.none,
.none,
.none,
.none,
.none,
.none,
.none,
.none,
.none,
.none,
.none,
.none,
.none,
.none,
.none,
.none,
.none,
.none,
.fn asW,
.fn arR,
.fn at5,
.none,
.none,
.fn as6,
.fn atU,
.none,
.none,
.fn asP,
.fn asZ,
.none,
.none,
.fn aum,
.fn auf,
.fn ar6,
.fn atL,
.none,
.none,
.none,
.none,
.none,
.none,
.none,
.fn au6,
.none,
.none,
.none,
.none,
.none,
.none,
.none,
.none,
.none,
.none,
.none,
.none,
.none,
.none,
.none,
.none,
.none,
.none,
.none,
.none,
.none,
.none,
.none,
.none,
.none,
.none,
.none,
.none,
.none,
.none,
.none,
.none,
.none,
.none,
.none,
.none,
.none,
.none,
.none,
.none,
.none,
.none,
.none,
.none,
.none,
.none,
.none,
.none,
.none,
.none,
.none,
.none,
.none,
.none,
.none,
.none,
.none,
.none,
.none,
.none,
.none,
.none,
.none,
.none,
.none,
.none,
.none,
.none,
.none,
.none,
.none,
.none,
.none,
.none,
.none,
.none,
.none,
.none,
.none,
.none,
.none,
.none,
.none,
.none,
.none,
.none,
.none,
.none,
.none,
.none,
.none,
.none,
.none,
.none,
.none,
.none,
.none,
.none,
.none,
.none,
.none,
.none,
.none,
.none,
.none,
.none,
.none,
.fn auD,
.fn atV,
.fn ar9,
.fn au9,
.fn auX,
.fn au1,
.fn au3,
.fn au5,
.fn auZ,
.fn ava,
.fn au8]
end Go.AM.P
namespace Go.AM
def code:Code:=⟨fun n=>P.tbl.getD n .none,prims⟩
end Go.AM
namespace Go.AM.I
abbrev qcw:Nat:=1
abbrev qce:Nat:=2
abbrev qcn:Nat:=3
abbrev qfd:Nat:=4
abbrev qgn:Nat:=5
abbrev qhg:Nat:=6
abbrev qbx:Nat:=7
abbrev strings_ToUpper:Nat:=8
abbrev qci:Nat:=9
abbrev qbf:Nat:=10
abbrev qch:Nat:=11
abbrev qgd:Nat:=12
abbrev qbm:Nat:=13
abbrev qcv:Nat:=14
abbrev qcq:Nat:=15
abbrev qbo:Nat:=16
abbrev qby:Nat:=17
abbrev qfv:Nat:=18
abbrev qcm:Nat:=19
abbrev qcd:Nat:=20
abbrev qbr:Nat:=21
abbrev qbh:Nat:=22
abbrev qhi:Nat:=23
abbrev qcg:Nat:=24
abbrev internal_bytealg_IndexByteString:Nat:=25
abbrev qhm:Nat:=26
abbrev qhl:Nat:=27
abbrev qhn:Nat:=28
abbrev qhb:Nat:=29
abbrev qbj:Nat:=30
abbrev qdg:Nat:=31
abbrev qee:Nat:=32
abbrev qdj:Nat:=33
abbrev qdx:Nat:=34
abbrev qbg:Nat:=36
abbrev qgw:Nat:=37
abbrev qbn:Nat:=38
abbrev qds:Nat:=39
abbrev qea:Nat:=40
abbrev qbq:Nat:=41
abbrev qbp:Nat:=42
abbrev slices_Sort_int_int:Nat:=43
abbrev qge:Nat:=48
abbrev qcc:Nat:=49
abbrev qbi:Nat:=50
abbrev qfb:Nat:=51
abbrev qbd:Nat:=52
abbrev qbc:Nat:=53
abbrev qbk:Nat:=54
abbrev qco:Nat:=55
abbrev qcu:Nat:=56
abbrev qhj:Nat:=57
abbrev qhk:Nat:=58
abbrev lex_Tokens_r0:Nat:=59
abbrev qcp:Nat:=60
abbrev qhh:Nat:=61
abbrev qcf:Nat:=62
abbrev qfj:Nat:=63
abbrev qga:Nat:=64
abbrev lex_number:Nat:=65
abbrev qh:Nat:=66
abbrev qd:Nat:=67
abbrev qf:Nat:=68
abbrev qdu:Nat:=69
abbrev qgc:Nat:=70
abbrev qfz:Nat:=71
abbrev qgb:Nat:=72
abbrev qfh:Nat:=73
abbrev qgm:Nat:=74
abbrev qhd:Nat:=75
abbrev qbw:Nat:=76
abbrev qdw:Nat:=77
abbrev qdh:Nat:=78
abbrev qdr:Nat:=80
abbrev qt:Nat:=81
abbrev qad:Nat:=82
abbrev qcb:Nat:=83
abbrev qbz:Nat:=84
abbrev qcx:Nat:=85
abbrev qbb:Nat:=86
abbrev qgk:Nat:=87
abbrev qbl:Nat:=88
abbrev qb:Nat:=89
abbrev qe:Nat:=90
abbrev qdl:Nat:=91
abbrev qed:Nat:=92
abbrev qaa:Nat:=93
abbrev qae:Nat:=94
abbrev qfu:Nat:=95
abbrev qfp:Nat:=96
abbrev qfs:Nat:=97
abbrev qfo:Nat:=98
abbrev qeu:Nat:=99
abbrev qab:Nat:=100
abbrev qbs:Nat:=101
abbrev qca:Nat:=102
abbrev qac:Nat:=103
abbrev qdv:Nat:=104
abbrev qep:Nat:=105
abbrev qdq:Nat:=106
abbrev qfx:Nat:=107
abbrev qfn:Nat:=108
abbrev qfm:Nat:=109
abbrev qez:Nat:=110
abbrev qfk:Nat:=111
abbrev qfw:Nat:=112
abbrev qfi:Nat:=113
abbrev qk:Nat:=114
abbrev qgl:Nat:=115
abbrev qhc:Nat:=116
abbrev ql:Nat:=117
abbrev qel:Nat:=118
abbrev qda:Nat:=119
abbrev qes:Nat:=122
abbrev qfy:Nat:=123
abbrev qcj:Nat:=124
abbrev qck:Nat:=125
abbrev qcl:Nat:=126
abbrev qfq:Nat:=127
abbrev qfr:Nat:=128
abbrev qev:Nat:=129
abbrev qfe:Nat:=130
abbrev qft:Nat:=131
abbrev qff:Nat:=132
abbrev qm:Nat:=133
abbrev qn:Nat:=134
abbrev qa:Nat:=135
abbrev qgj:Nat:=136
abbrev qha:Nat:=137
abbrev qc:Nat:=138
abbrev qi:Nat:=139
abbrev qj:Nat:=140
abbrev qz:Nat:=141
abbrev qaf:Nat:=142
abbrev qam:Nat:=143
abbrev qbe:Nat:=144
abbrev qu:Nat:=145
abbrev qak:Nat:=146
abbrev qao:Nat:=147
abbrev qbt:Nat:=148
abbrev qag:Nat:=149
abbrev qaj:Nat:=150
abbrev qq:Nat:=151
abbrev qgg:Nat:=152
abbrev qgx:Nat:=153
abbrev qr:Nat:=154
abbrev qgh:Nat:=155
abbrev qgy:Nat:=156
abbrev qs:Nat:=157
abbrev qeq:Nat:=158
abbrev qdo:Nat:=159
abbrev qgi:Nat:=160
abbrev qgz:Nat:=161
abbrev qaz:Nat:=162
abbrev qhe:Nat:=163
abbrev qey:Nat:=164
abbrev qet:Nat:=165
abbrev qan:Nat:=166
abbrev qbv:Nat:=167
abbrev qah:Nat:=168
abbrev qai:Nat:=169
abbrev qal:Nat:=170
abbrev qef:Nat:=171
abbrev qer:Nat:=172
abbrev qen:Nat:=173
abbrev qeo:Nat:=174
abbrev qo:Nat:=175
abbrev qp:Nat:=176
abbrev qw:Nat:=177
abbrev qcz:Nat:=178
abbrev qej:Nat:=179
abbrev qek:Nat:=180
abbrev qem:Nat:=181
abbrev qeg:Nat:=182
abbrev qcy:Nat:=183
abbrev qgt:Nat:=184
abbrev qv:Nat:=189
abbrev qap:Nat:=190
abbrev qde:Nat:=191
abbrev qfc:Nat:=192
abbrev qfl:Nat:=193
abbrev qfg:Nat:=194
abbrev qew:Nat:=195
abbrev qg:Nat:=196
abbrev qex:Nat:=197
abbrev qhf:Nat:=198
abbrev qdn:Nat:=199
abbrev qdm:Nat:=200
abbrev qdk:Nat:=201
abbrev qdt:Nat:=202
abbrev qdp:Nat:=203
abbrev qct:Nat:=204
abbrev qx:Nat:=205
abbrev qfa:Nat:=215
abbrev qay:Nat:=222
abbrev qat:Nat:=224
abbrev qav:Nat:=225
abbrev qau:Nat:=226
abbrev qgf:Nat:=266
abbrev qdf:Nat:=267
abbrev qdy:Nat:=268
abbrev qgu:Nat:=271
abbrev qdz:Nat:=272
abbrev qy:Nat:=275
abbrev qgv:Nat:=276
abbrev qcr:Nat:=279
abbrev qbu:Nat:=280
abbrev qgr:Nat:=281
abbrev qcs:Nat:=282
abbrev row_right:Nat:=294
abbrev slices_Clone_api_Row_api_Value:Nat:=299
abbrev qdd:Nat:=398
abbrev qgs:Nat:=399
abbrev qaq:Nat:=400
end Go.AM.I
