/- Part of the proof. -/
import Derived.Test.YtchifcbclnonbaaGreatDoorAm06
set_option linter.unusedVariables false
set_option linter.unusedSimpArgs false
set_option linter.unusedSectionVars false
namespace Go.AM.P
abbrev pZ(x y:cB):bC:=i (.bin .add x y)
abbrev oE(n:Nat)(x y:cB):bC:=i (.app n x y)
abbrev dg:=av.blk
abbrev mz(n:Nat)(x:cB):bC:=i (.box n x)
abbrev mD(x:List ap)(y:List (Nat×Nat×cB)):bC:=i (.build x y)
abbrev cW(f:Nat)(x:List cB):bC:=i (.call f x false)
abbrev co:=av.cond
abbrev gr(x y:cB):bC:=i (.bin .eql x y)
abbrev xK(n:Nat)(x:cB):bC:=i (.ext n x)
abbrev ei(n:Nat)(x:cB):bC:=i (.fld n x)
abbrev KQ(x y:cB):bC:=i (.bin .geq x y)
abbrev JO(x y:cB):bC:=i (.bin .gtr x y)
abbrev iIa(m n:Nat)(x y:cB):bC:=i (.idxa m n x y)
abbrev fr(n:Nat)(x y:cB):bC:=i (.idxs n x y)
abbrev uV(x:cB):bC:=i (.len x)
abbrev iLt(x:cB):bC:=i (.lent x)
abbrev iLq(x y:cB):bC:=i (.bin .leq x y)
abbrev iz(n:Nat)(x:cB):bC:=i (.load true n x)
abbrev jW(x y:cB):bC:=i (.bin .lss x y)
abbrev lX(n:Nat)(x:List cB):bC:=i (.mkl n x)
abbrev Tw(n:Nat):bC:=i (.mknil n)
abbrev iMv(x:cB):bC:=i (.mov x)
abbrev iMu(x y:cB):bC:=i (.bin .mul x y)
abbrev pT(x y:cB):bC:=i (.bin .neq x y)
abbrev Mq(x:cB):bC:=i (.nilck x)
abbrev eI(x y z:cB):bC:=i (.pick x y z)
abbrev ax:=av.reg
abbrev xW:=av.regd
abbrev au:=av.seq
abbrev ez(n:Nat)(x y:cB):bC:=i (.store n x y)
abbrev CT(x y:cB):bC:=i (.bin .sub x y)
abbrev so(x:cB):bC:=i (ld x)
abbrev t8(x:cB):bC:=i (lt x)
abbrev Mn:bC:=iz 9 L0
abbrev SG:bC:=mz 9 (v (.agg [.ai,.ai,.ai,.ai,nf,nf,.ai,.ai,.ai]))
abbrev Ph:bC:=ez 9 L2 L1
abbrev GS:bC:=t8 E4
abbrev sq:bC:=xK 0 L2
abbrev mm:bC:=xK 1 L2
abbrev fG:bC:=mz 1 (v (.agg [.ai]))
abbrev zo:bC:=ez 1 L5 L3
abbrev Ut:cB:=v (.int .i64 240)
abbrev Q8:bC:=g L0 true (.mov L2)
abbrev Cm:bC:=g L3 false (ld L4)
abbrev Qb:bC:=g L3 false (.len L5)
abbrev TK:av:=ax [] [(3,Vf)]
abbrev CG:av:=au TK .ret
abbrev R0:av:=ax [jW KR Ur] [(22,L0)]
abbrev gZ:av:=.exit 0
abbrev HR:bC:=mz 5 (v (.agg [.ai,.ai,.ai,.ai,n0]))
abbrev vP:cB:=v (.int .i64 6)
abbrev Mb:List (Nat×cB):=[(23,L0)]
abbrev Ii:List (Nat×cB):=[(8,L2)]
abbrev wE:bC:=xK 0 L3
abbrev wy:bC:=xK 1 L3
abbrev Qc:bC:=ez 1 L6 L4
abbrev abK:bC:=g L0 false (.fld 0 E9)
abbrev QJ:bC:=g L0 false (ld L1)
abbrev Le:bC:=g L0 false (.len L2)
abbrev ab2:bC:=g L0 false (.bin .neq L3 V0)
abbrev Im:bC:=eI L0 Vt L4
abbrev LH:av:=.exit 1
abbrev Qg:bC:=ei 0 E8
abbrev aS:bC:=so L0
abbrev eR:bC:=uV L1
abbrev RY:av:=ax [pZ KR V1] [(21,L0)]
abbrev sh:bC:=mz 1 E0
abbrev wD:List bC:=[sh]
abbrev HX:List (Nat×cB):=[(2,L0),(3,Vf)]
abbrev Xf:av:=ax wD HX
abbrev zZ:bC:=i (.una .not L0)
abbrev jI:bC:=t8 E2
abbrev mC:bC:=ez 1 L2 L1
abbrev sI:List (Nat×cB):=[(4,L2)]
abbrev vj:List (Nat×cB):=[(5,L1)]
abbrev HC:bC:=uV E1
abbrev CH:List bC:=[HC]
abbrev lw:bC:=xK 0 L1
abbrev lq:bC:=xK 1 L1
abbrev Lr:bC:=xK 2 L1
abbrev Um:bC:=mz 2 (v (.agg [.ai,.ai]))
abbrev Ik:List (Nat×cB):=[(4,L4)]
abbrev UO:bC:=g L0 true (.mov E2)
abbrev aaf:bC:=g L0 true (.bin .eql L1 V0)
abbrev tQ:bC:=eI L0 L2 Vf
abbrev fT:cB:=v (.int .i64 3)
abbrev ig:cB:=v (.int .i64 5)
abbrev xR:cB:=v (.int .i64 8)
abbrev abt:bC:=g ml true (.fld 1 E1)
abbrev Xd:bC:=g ml true (ld lT)
abbrev LL:bC:=g pO true (ld AU)
abbrev sd:List (Nat×cB):=[(9,L0)]
abbrev Af:av:=ax [jW E8 E7] sd
abbrev rW:av:=co E9 .skip gZ
abbrev Ju:bC:=iz 3 L0
abbrev PC:bC:=ez 3 L2 L1
abbrev WX:List bC:=[fr 3 E6 E8,Ju,mz 3 (v (.agg [.str [],.ai,.ai])),PC]
abbrev iA:bC:=ei 0 E3
abbrev dL:bC:=so L2
abbrev wI:bC:=ei 1 E5
abbrev lH:bC:=so L4
abbrev ET:bC:=ei 2 E5
abbrev uB:List (Nat×cB):=[(8,L0)]
abbrev rM:av:=ax [pZ E8 V1] uB
abbrev vd:List (Nat×cB):=[(1,L0),(2,L1)]
abbrev gn:bC:=ei 0 E1
abbrev OS:bC:=mD [.ai] [(0,1,L2)]
abbrev yi:bC:=ez 1 L4 L3
abbrev B4:List (Nat×cB):=[(3,L4)]
abbrev Bf:List bC:=[iA,aS,eR]
abbrev Nx:List (Nat×cB):=[(6,L1),(7,L2),(8,V0)]
abbrev tx:bC:=t8 E3
abbrev B9:bC:=ez 1 E2 L0
abbrev mX:av:=.exit 2
abbrev rR:bC:=ei 0 L2
abbrev ed:bC:=so L3
abbrev mv:bC:=so L5
abbrev Eg:bC:=ei 0 L7
abbrev yG:bC:=so L8
abbrev iE:av:=ax [] [(2,Vf)]
abbrev mR:av:=au iE .ret
abbrev gp:List (Nat×cB):=[(4,L0)]
abbrev Gi:av:=ax [pZ E4 V1] gp
abbrev By:List (Nat×cB):=[(6,L3)]
abbrev ow:av:=co E6 .skip gZ
abbrev iq:List (Nat×cB):=[(3,L0)]
abbrev Gh:av:=ax [pZ E3 V1] iq
abbrev ta:List (Nat×cB):=[(1,L0),(2,Vf)]
abbrev I9:av:=ax wD ta
abbrev gh:cB:=v (.int .i64 4)
abbrev yL:List (Nat×cB):=[(5,L3)]
abbrev yU:av:=ax [] [(3,V0)]
abbrev uE:av:=au (ax [] [(2,Vt)]) .ret
abbrev ES:av:=ax [jW E7 E6] uB
abbrev yj:av:=co E8 .skip gZ
abbrev kz:List (Nat×cB):=[(7,L0)]
abbrev EY:av:=ax [pZ E7 V1] kz
abbrev lP:bC:=ei 1 E1
abbrev Kf:cB:=v (.int .i64 20)
abbrev qb:bC:=ei 2 E1
abbrev wo:bC:=so L6
abbrev qa:bC:=ei 3 E1
abbrev za:List bC:=[gn,aS,eR]
abbrev Bj:av:=ax [jW AX Ec] [(20,L0)]
abbrev yF:bC:=mD [.ai] []
abbrev IP:bC:=ez 1 E4 L0
abbrev F9:List bC:=[yF,IP]
abbrev FR:List (Nat×cB):=[(19,L0)]
abbrev Br:av:=ax [pZ AX V1] FR
abbrev Xi:List bC:=[sh,mz 5 E1,fG]
abbrev I7:List (Nat×cB):=[(2,L0),(3,L1),(4,L2),(5,V0)]
abbrev NH:List bC:=[jI,cW 86 [L0]]
abbrev po:List (Nat×cB):=[(6,L1)]
abbrev Pj:av:=ax NH po
abbrev Ew:List bC:=[pT E6 V0]
abbrev tp:List (Nat×cB):=[(15,L0)]
abbrev Uw:bC:=g L3 false (.fld 0 E3)
abbrev TQ:bC:=g L3 false (.bin .gtr L6 fT)
abbrev Gc:bC:=eI L3 Vt L7
abbrev VA:List bC:=[iA,aS,eR,jW L2 V1,Uw,Cm,Qb,TQ,Gc]
abbrev Ni:av:=au (ax F9 [(5,Ut)]) .ret
abbrev N4:bC:=mz 1 (v .nilp)
abbrev sY:bC:=ez 1 L3 L2
abbrev uR:List (Nat×cB):=[(7,L3)]
abbrev Gt:List (Nat×cB):=[(17,L1),(18,L2),(19,V0)]
abbrev yn:bC:=ei 3 E3
abbrev dr:bC:=so L1
abbrev uS:bC:=ei 4 E3
abbrev tE:bC:=Mq L0
abbrev BY:bC:=ei 10 L1
abbrev mU:bC:=t8 L2
abbrev nX:bC:=xK 0 L4
abbrev nF:bC:=xK 1 L4
abbrev Gy:bC:=eI L3 Vt L5
abbrev Pu:bC:=ez 1 E4 L3
abbrev IE:av:=ax [jW yb xN] [(17,L0)]
abbrev NP:av:=co AJ .skip gZ
abbrev rD:List (Nat×cB):=[(7,L1)]
abbrev th:List (Nat×cB):=[(18,L0)]
abbrev ww:cB:=v (.int .i64 7)
abbrev TX:bC:=mD [n0,n0,n0,n0,.ai,nf,.ai,.ai,.ai,.ai,.ai,n0] [(0,1,ww)]
abbrev OH:bC:=lX 1 [L1,L2]
abbrev EL:List (Nat×cB):=[(16,L0)]
abbrev EB:av:=ax [pZ yb V1] EL
abbrev Uy:List (Nat×cB):=[(2,L0),(3,L1),(4,L2),(5,Vf)]
abbrev Ef:av:=au (ax F9 [(5,Vf)]) .ret
abbrev zd:List bC:=[fG]
abbrev iH:List (Nat×cB):=[(6,L0)]
abbrev Xu:av:=co AX Ef .skip
abbrev qj:bC:=uV L2
abbrev yT:bC:=xK 0 L5
abbrev yB:bC:=xK 1 L5
abbrev uM:bC:=ei 1 E3
abbrev T2:bC:=g L4 false (.una .not L8)
abbrev Kz:bC:=eI L4 Vt L9
abbrev Xz:av:=co Ur Ef .skip
abbrev fI:bC:=ei 0 E2
abbrev Gx:av:=co E7 .skip gZ
abbrev rK:av:=au (ax [] [(4,Vf)]) .ret
abbrev Pc:av:=co E8 rK .skip
abbrev iD:List (Nat×cB):=[(5,L0)]
abbrev pb:av:=ax [pZ E5 V1] iD
abbrev mS:bC:=mz 1 E1
abbrev wc:List (Nat×cB):=[(2,L0),(3,L1),(4,Vf)]
abbrev rE:bC:=uV L4
abbrev NN:av:=ax [] [(5,V0)]
abbrev Oc:av:=au (ax [] [(4,Vt)]) .ret
abbrev PJ:List bC:=[sh,mz 9 E1,fG]
abbrev lI:bC:=iz 2 L0
abbrev OG:bC:=mz 2 (v (.agg [nf,.ai]))
abbrev mT:bC:=ez 2 L2 L1
abbrev A8:bC:=ei 0 mc
abbrev dS:cB:=v (.int .i64 2)
abbrev qw:bC:=t8 E7
abbrev KL:bC:=g L0 false (.mov E6)
abbrev PP:bC:=g L0 false (.fld 0 E2)
abbrev IY:bC:=g L0 false (ld L2)
abbrev Jk:bC:=g L0 false (.len L3)
abbrev KH:bC:=g L0 false (.bin .geq L1 L4)
abbrev yO:bC:=eI L0 Vt L5
abbrev JW:bC:=g L8 false (ld L9)
abbrev Xh:bC:=g L8 false (.len fP)
abbrev tn:bC:=i (.una .not L1)
abbrev kT:bC:=g L2 true (ld L3)
abbrev J9:bC:=g L2 true (.len L4)
abbrev yf:bC:=xK 0 L6
abbrev yQ:bC:=xK 1 L6
abbrev Uo:List bC:=[uM,aS,eR]
abbrev J0:bC:=ei 2 E3
abbrev g8:bC:=ei 0 L0
abbrev FI:bC:=JO L3 V0
abbrev ij:bC:=t8 L0
abbrev PD:bC:=mD [n0,n0,n0,n0,.ai,nf,.ai,.ai,.ai,.ai,.ai,n0] [(0,1,fT),(6,1,L1)]
abbrev Fi:bC:=lX 1 [L3]
abbrev Nu:bC:=cW 233 [E8,L2,L4]
abbrev O3:bC:=ez 1 E7 L6
abbrev F7:bC:=ei 6 E3
abbrev A4:bC:=ei 7 E3
abbrev Xo:bC:=mD [n0,n0,n0,n0,.ai,nf,.ai,.ai,.ai,.ai,.ai,n0] [(0,1,gh),(7,1,L1),(8,1,L3)]
abbrev ql:bC:=mz 12 (v (.agg [n0,n0,n0,n0,.ai,nf,.ai,.ai,.ai,.ai,.ai,n0]))
abbrev VK:bC:=mD [n0,.ai] [(0,1,V1)]
abbrev Ki:bC:=lX 2 [L0]
abbrev uJ:bC:=lX 1 [L1]
abbrev Gl:bC:=ei 8 E3
abbrev Un:bC:=mD [n0,n0,n0,n0,.ai,nf,.ai,.ai,.ai,.ai,.ai,n0] [(0,1,vP)]
abbrev FE:av:=.exit 4
abbrev EE:bC:=ei 3 E2
abbrev Ei:bC:=iz 2 L2
abbrev WH:bC:=i (.eqa true [0,1] L3 L7)
abbrev Jn:av:=ax [jW vD iv] tp
abbrev fw:bC:=ei 1 E2
abbrev yh:List (Nat×cB):=[(14,L0)]
abbrev IN:av:=ax [pZ vD V1] yh
abbrev tw:List (Nat×cB):=[(11,L0)]
abbrev Uc:av:=co rh rK .skip
abbrev px:List (Nat×cB):=[(10,L0)]
abbrev Pd:av:=ax [pZ mc V1] px
abbrev Fy:bC:=ei 4 E2
abbrev Ko:bC:=pT L1 L3
abbrev BT:bC:=g L4 false (ld L5)
abbrev Ke:bC:=g L4 false (ld L8)
abbrev Wj:bC:=g Nh false (ld L29)
abbrev Vh:bC:=g Nh false (ld L31)
abbrev Bi:List bC:=[fI,aS,eR]
abbrev Xa:List bC:=[fw,aS,eR]
abbrev UV:List (Nat×cB):=[(2,L0),(3,L1),(4,V0),(5,V0)]
abbrev ve:List (Nat×cB):=[(12,L0)]
abbrev IS:List bC:=[mD [.ai,.ai] [],ez 2 E3 L0]
abbrev BD:bC:=xK 0 L0
abbrev KN:bC:=xK 1 L0
abbrev Kg:bC:=mz 3 (v (.agg [.ai,.ai,n0]))
abbrev vQ:List (Nat×cB):=[(13,L0)]
abbrev Xv:bC:=mD [.str [],n0] [(0,1,v (.str [97])),(1,1,dS)]
abbrev pc:bC:=uV E0
abbrev F0:av:=co E5 .skip gZ
abbrev wt:bC:=fr 1 E0 E3
abbrev OR:List bC:=[wt,aS,fr 1 E1 E3,dL,Ko]
abbrev Jt:av:=au (ax [pc,HC,pT L0 L1] sI) (co E4 mR .skip)
abbrev Ng:bC:=ez 12 L2 L1
abbrev tC:bC:=ei 0 E4
abbrev tD:List (Nat×cB):=[(3,L3)]
abbrev vY:bC:=iMv Vn
abbrev wG:List bC:=[sh,vY]
abbrev tG:List bC:=[Tw 1]
abbrev NZ:av:=ax tG iq
abbrev Kc:av:=au (ax [] [(2,E3)]) .ret
abbrev nO:List bC:=[vY]
abbrev gU:List (Nat×cB):=[(2,L0)]
abbrev mQ:av:=ax nO gU
abbrev F3:bC:=i (.mins L1 [E1])
abbrev AV:List (Nat×cB):=[(2,L4)]
abbrev JY:av:=au (ax [Tw 2,pc,F3,i (.slice 2 E0 none (some L2)),oE 2 L0 L3] AV) .ret
abbrev Oj:av:=au (ax [Tw 1,pc,F3,i (.slice 1 E0 none (some L2)),oE 1 L0 L3] AV) .ret
abbrev Xr:bC:=g L4 false (.idxs 1 L6 L7)
abbrev Xs:bC:=g pO true (.fld 2 E1)
abbrev TT:bC:=g pO true (.mov E6)
abbrev BZ:av:=ax [pZ E6 V1] iH
abbrev Ks:bC:=fr 2 L1 E5
abbrev BU:bC:=mz 2 (v (.agg [.str [],n0]))
abbrev I3:bC:=i (.una .not L2)
abbrev jM:cB:=v (.str [])
abbrev A2:List bC:=[mz 3 E0]
abbrev Eo:av:=ax [] [(6,V0)]
abbrev Nm:av:=co Ur .skip FE
abbrev yp:bC:=ei 8 E1
abbrev B0:av:=ax [jW xN vD] EL
abbrev Iz:av:=co yb .skip mX
abbrev NV:bC:=mz 2 (v (.agg [n0,.ai]))
abbrev uN:bC:=ei 7 E1
abbrev A5:av:=ax [pZ xN V1] tp
abbrev BL:av:=ax [jW oG mc] ve
abbrev Bw:av:=co rh .skip gZ
abbrev vf:bC:=ei 1 E4
abbrev BQ:av:=ax [pZ oG V1] tw
abbrev FP:bC:=mz 9 E0
abbrev yu:bC:=ei 6 E1
abbrev FV:bC:=so ml
abbrev Ov:List bC:=[lP,aS,eR]
abbrev Jr:List (Nat×cB):=[(13,L1),(14,L2),(15,V0)]
abbrev NB:bC:=ez 1 L8 L5
abbrev Ky:av:=ax wD [(1,L0),(2,V0)]
abbrev kx:av:=ax [] [(2,V0)]
abbrev yr:av:=au kx .ret
abbrev Kb:bC:=mz 12 E1
abbrev tk:List (Nat×cB):=[(4,L1)]
abbrev Es:bC:=iz 12 E3
abbrev cf:bC:=Mq E0
abbrev yW:av:=co mc .skip gZ
abbrev FC:bC:=ei 11 L0
abbrev wH:av:=ax [pZ E9 V1] sd
abbrev ux:bC:=ei 10 L0
abbrev Jq:List (Nat×cB):=[(1,L0),(2,L1),(3,V0)]
abbrev uy:bC:=t8 E1
abbrev W5:List bC:=[uy,cW 77 [L0],lw,lq,Lr]
abbrev Kr:List bC:=[i (.una .not E6)]
abbrev gX:bC:=ei 1 L0
abbrev ND:bC:=i (.call 12 [L4] true)
abbrev OJ:av:=ax [jW E6 E5] kz
abbrev Jv:av:=co E8 mR .skip
abbrev Fu:List bC:=[pc]
abbrev O5:av:=ax Fu [(5,L0),(6,V0)]
abbrev D9:bC:=gr L1 V0
abbrev OT:bC:=g L2 false (.fld 0 E2)
abbrev yI:bC:=g L2 false (ld L3)
abbrev B2:av:=au (ax nO [(3,L0),(4,Vf)]) .ret
abbrev Wf:List bC:=[fI,aS,fr 12 L1 E1,iz 12 L2,ql,ez 12 L4 L3]
abbrev yy:bC:=KQ L1 V0
abbrev VN:List bC:=[wI,aS,yy]
abbrev T1:List bC:=[ET,aS,yy]
abbrev lQ:bC:=ei 0 E5
abbrev Kp:bC:=g L2 true (.mov E1)
abbrev Pt:bC:=g L2 true (.len L5)
abbrev up:cB:=v (.int .i64 16)
abbrev El:bC:=ei 10 E2
abbrev Xj:av:=co oG .skip mX
abbrev uF:bC:=ei 8 E2
abbrev B3:bC:=g fP false (ld iS)
abbrev Jf:bC:=g fP false (.mov E5)
abbrev OZ:bC:=g fP false (.idxs 2 ml lT)
abbrev Oi:bC:=g fP false (.fld 1 mi)
abbrev No:bC:=g fP false (lt wu)
abbrev Nk:bC:=g fP false (ld pO)
abbrev Pz:bC:=g fP false (.idxs 2 AU CR)
abbrev PH:bC:=g fP false (.fld 1 AZ)
abbrev Po:bC:=g fP false (lt CY)
abbrev Oh:bC:=g fP false (.call 248 [sn,AT] false)
abbrev O2:bC:=g fP false (.una .not Sy)
abbrev NA:bC:=eI fP Vt L24
abbrev Xb:av:=co mc rK .skip
abbrev tj:bC:=mz 12 E0
abbrev TO:bC:=g fP false (ld lT)
abbrev Wz:bC:=g sn false (ld pO)
abbrev BP:bC:=g L6 false (ld L7)
abbrev O7:bC:=g L6 false (.len L8)
abbrev Bc:bC:=ei 6 E2
abbrev BH:bC:=g L4 true (ld L5)
abbrev UQ:List bC:=[fr 2 E6 E8,lI,BU,mT]
abbrev nN:List (Nat×cB):=[(5,L2)]
abbrev PK:bC:=ez 1 L6 L5
abbrev Bp:List (Nat×cB):=[(2,L0),(3,L1)]
abbrev Ff:av:=ax [jW iv rh] yh
abbrev JA:av:=co vD .skip mX
abbrev Bh:bC:=ei 7 E2
abbrev Vz:bC:=g fP false (.mov E6)
abbrev A7:av:=ax [pZ iv V1] vQ
abbrev B1:av:=ax [jW E9 E8] px
abbrev TC:bC:=g fP false (.fld 1 E2)
abbrev VL:bC:=g fP false (.fld 1 E3)
abbrev V2:List bC:=[Bh,aS,eR]
abbrev Is:List bC:=[Kg]
abbrev Ox:bC:=mD [.ai,.ai,.ai,.ai,n0] []
abbrev Jp:bC:=ez 5 E4 L0
abbrev M7:List bC:=[Ox,Jp]
abbrev Jh:bC:=ez 1 L7 L6
abbrev OC:bC:=mz 9 (v (.agg [nf,nf,.ai,.str [],.str [],.ai,.ai,.ai,.ai]))
abbrev tu:bC:=i .mkmap
abbrev rT:bC:=ez 1 L1 L0
abbrev ua:List (Nat×cB):=[(8,L1)]
abbrev GA:List bC:=[pT E8 V0]
abbrev wP:bC:=iLt E0
abbrev NX:av:=co E4 .skip gZ
abbrev Nr:bC:=eI L2 L7 Vf
abbrev lg:av:=ax [] [(1,Vf)]
abbrev Eh:av:=au lg .ret
abbrev Kw:av:=ax [pZ E2 V1] gU
abbrev NU:bC:=g L1 false (.mov E0)
abbrev TB:bC:=g L5 false (.mov E0)
abbrev Pi:bC:=g fP false (.mov E0)
abbrev Ob:av:=au (ax [] [(1,Vt)]) .ret
abbrev EG:av:=ax [] [(1,jM)]
abbrev I6:av:=ax [] [(2,E0)]
abbrev Pg:av:=ax [gr E2 V1] iq
abbrev Iw:bC:=pT L1 V0
abbrev oU:List (Nat×cB):=[(2,L2)]
abbrev I4:bC:=g L2 true (.fld 1 E1)
abbrev V4:bC:=g iS false (ld ml)
abbrev Iu:bC:=g E3 true (ld L0)
abbrev Ps:bC:=eI E3 L3 Vf
abbrev Bk:bC:=g L7 true (ld L8)
abbrev Wk:List bC:=[qb,aS,eR]
abbrev Bb:bC:=i (.una .not E3)
abbrev wn:bC:=KQ L0 V0
abbrev my:List (Nat×cB):=[(2,L1)]
abbrev Bu:bC:=g L0 false (.mov E1)
abbrev Up:bC:=g L0 false (.callv L1 [L2])
abbrev Uf:bC:=g L0 false (.call 11 [L3] false)
abbrev Ws:bC:=g L0 false (.una .not L4)
abbrev Wt:av:=co mc mR .skip
abbrev Ow:av:=ax Fu [(6,E0),(7,L0),(8,V0)]
abbrev Ot:List bC:=[gn,aS]
abbrev NR:av:=au (ax Ot my) .ret
abbrev UB:bC:=g L2 false (.mov E2)
abbrev WJ:bC:=g L2 false (.bin .neq L3 V0)
abbrev N0:bC:=eI L2 Vt L4
abbrev Kx:bC:=ez 1 L7 L5
abbrev Fg:bC:=iz 12 E2
abbrev VS:bC:=g L2 false (.mov E5)
abbrev vW:bC:=ei 0 L1
abbrev qy:List (Nat×cB):=[(1,L3)]
abbrev u0:List (Nat×cB):=[(6,L2)]
abbrev FQ:bC:=ei 1 L1
abbrev yo:bC:=uV L3
abbrev Ip:bC:=ei 1 L7
abbrev wk:bC:=ei 4 E1
abbrev Fk:bC:=ez 1 L8 L6
abbrev Fa:bC:=ei 8 L1
abbrev ut:bC:=so E5
abbrev TL:bC:=g L0 false (.bin .gtr L1 (v (.int .i64 60)))
abbrev ov:bC:=eI L0 Vt L2
abbrev lN:List (Nat×cB):=[(1,L0)]
abbrev kA:av:=ax nO lN
abbrev FA:av:=au (ax [i (.nils false E0)] gU) (co E2 (au kA .ret) .skip)
abbrev qh:List (Nat×cB):=[(1,L1)]
abbrev PM:bC:=fr 1 E1 E6
abbrev Jl:bC:=ez 1 E3 L0
abbrev AY:List bC:=[yF,Jl]
abbrev Uk:List bC:=[lQ,aS,eR]
abbrev lL:List (Nat×cB):=[(7,L2)]
abbrev J7:av:=ax [] [(8,V0)]
abbrev BA:List bC:=[gr E6 V0]
abbrev nT:bC:=ei 2 E2
abbrev Ns:List bC:=[tj,fG]
abbrev gY:cB:=v (.int .i64 (-1))
abbrev J6:bC:=ez 1 L0 gY
abbrev uC:av:=au yU .ret
abbrev yP:List (Nat×cB):=[(9,L2)]
abbrev sk:bC:=eI L2 L5 Vf
abbrev VT:List bC:=[vf,aS,gr L1 gY,g L2 true (.fld 2 E4),kT,g L2 true (.bin .eql L4 gY),sk]
abbrev yK:bC:=CT E1 V1
abbrev p8:bC:=g L3 true (ld L4)
abbrev wh:bC:=eI L3 L6 Vf
abbrev Wx:List bC:=[jI,vf,dr,cW 246 [L0,L2]]
abbrev tq:List (Nat×cB):=[(3,L1)]
abbrev BM:bC:=g L2 true (.fld 3 E1)
abbrev PL:bC:=g L9 true (ld fP)
abbrev Xw:bC:=g pO true (.len CR)
abbrev U5:bC:=g E7 true (.fld 10 E3)
abbrev JJ:bC:=g E7 true (ld L0)
abbrev JP:bC:=g L6 true (ld L7)
abbrev PA:bC:=lX 1 [oG]
abbrev JL:bC:=oE 1 E6 L0
abbrev V6:bC:=g E7 true (.bin .leq L2 fT)
abbrev Ez:cB:=v (.int .i64 12)
abbrev NE:bC:=g L3 true (.mov E6)
abbrev Ja:bC:=eI L4 L7 Vf
abbrev Pa:bC:=g L8 true (ld L9)
abbrev T9:cB:=v (.int .i64 2147483647)
abbrev KB:List (Nat×cB):=[(2,L0),(3,V0),(4,V0)]
abbrev OQ:bC:=ez 3 E2 L0
abbrev Vq:cB:=v (.str [85,78,73,79,78])
abbrev Nw:bC:=cW 4 [E0,V1,L0]
abbrev Oe:bC:=cW 108 [E0]
abbrev N2:av:=au (ax [Oe,cW 192 [E0,v (.int .i64 191),L0]] []) gZ
abbrev Bv:bC:=cW 63 [E0]
abbrev Fh:av:=ax [Bv] []
abbrev wK:bC:=cW 73 [E0,V1,L0]
abbrev KC:bC:=lX 9 [L0]
abbrev rB:List (Nat×cB):=[(2,L3)]
abbrev V7:cB:=v (.str [79,82,68,69,82])
abbrev TD:cB:=v (.str [76,73,77,73,84])
abbrev TM:bC:=g E3 true (.fld 0 E4)
abbrev WA:bC:=g L3 true (.fld 0 E1)
abbrev Jg:bC:=g L3 true (.len L5)
abbrev JT:bC:=eI L3 L7 Vf
abbrev U9:bC:=g L8 true (.len fP)
abbrev TN:bC:=g L0 false (.fld 0 E1)
abbrev IL:bC:=eI L0 Vt L3
abbrev ms:av:=ax [] [(1,V0)]
abbrev Cb:av:=au (ax [] [(1,E2)]) .ret
abbrev D0:bC:=fr 1 E7 E9
abbrev II:bC:=fr 2 AJ AX
abbrev AH:bC:=mz 2 (v (.agg [.ai,.str []]))
abbrev DU:bC:=mz 9 (v (.agg [n0,n0,n0,n0,n0,.int .u64 0,.str [],.str [],.str []]))
abbrev DA:bC:=ei 1 L4
abbrev QP:List bC:=[cf,gX,FQ,dL]
abbrev QT:List bC:=[cf,gX,ei 2 L1,dL,yo]
abbrev u7:bC:=g L0 true (.mov E0)
abbrev Di:bC:=eI L1 L4 Vf
abbrev ln:bC:=g L0 false (.mov E0)
abbrev sE:List bC:=[mz 2 E0]
abbrev uI:bC:=ez 2 L1 L0
abbrev oA:av:=ax [jW E5 E4] iH
abbrev qR:av:=ax [] [(3,E5)]
abbrev uv:bC:=i (.callv E1 [L1])
abbrev qY:av:=co E7 Kc .skip
abbrev ou:av:=ax Fu [(4,L0),(5,V0)]
abbrev mE:av:=au (ax [] [(2,gY)]) .ret
abbrev Qa:av:=co Ur .skip mX
abbrev Jz:av:=co xN .skip gZ
abbrev xj:bC:=ei 0 E7
abbrev DG:List (Nat×cB):=[(2,L0),(3,L1),(4,V0)]
abbrev D4:bC:=ez 1 E2 L2
abbrev RT:List bC:=[fw,aS,yy]
abbrev Ro:List bC:=[nT,aS,yy]
abbrev sD:av:=au ms .ret
abbrev Dc:av:=au (ax [] [(1,dS)]) .ret
abbrev zy:av:=au (ax [] [(1,V1)]) .ret
abbrev zJ:av:=au (ax [] [(1,gY)]) .ret
abbrev Jx:bC:=g L0 true (.mov E4)
abbrev Rm:bC:=g L3 false (.mov E4)
abbrev Jo:bC:=g L0 true (.pick L3 Vt L5)
abbrev Kn:bC:=eI L0 L6 Vf
abbrev zF:bC:=gr L1 V1
abbrev C1:bC:=eI L2 Vt L5
abbrev Rp:bC:=g L6 false (.mov E6)
abbrev I5:av:=au (ax [] [(3,V0),(4,Vf)]) .ret
abbrev zu:bC:=iz 8 L0
abbrev xn:bC:=mz 8 (v (.agg [n0,n0,n0,n0,n0,n0,.int .u64 0,.str []]))
abbrev zY:bC:=ez 8 L2 L1
abbrev Aq:bC:=gr L1 dS
abbrev Dj:bC:=ei 1 E8
abbrev Jm:bC:=fr 1 E7 L1
abbrev DR:bC:=ei 2 E8
abbrev QM:List bC:=[DR,aS,yy]
abbrev KE:av:=co O4 .skip mX
abbrev JK:bC:=g L0 false (.mov E5)
abbrev QG:bC:=g L0 false (.bin .gtr L1 fT)
abbrev Dp:bC:=CT L0 V1
abbrev xA:bC:=mz 4 (v (.agg [n0,n0,.str [],.int .u64 0]))
abbrev xe:List (Nat×cB):=[(1,L2)]
abbrev Dy:bC:=fr 4 L2 V0
abbrev Rz:cB:=v (.str [83,69,76,69,67,84])
abbrev Qp:cB:=v (.str [68,73,83,84,73,78,67,84])
abbrev qM:List (Nat×cB):=[(3,L2)]
abbrev QL:cB:=v (.str [70,82,79,77])
abbrev RW:cB:=v (.str [87,72,69,82,69])
abbrev Dl:bC:=cW 107 [E0]
abbrev Rl:cB:=v (.str [71,82,79,85,80])
abbrev RX:cB:=v (.str [72,65,86,73,78,71])
abbrev Js:bC:=g L3 false (.mov E0)
abbrev QS:bC:=g L1 false (.mov E2)
abbrev RQ:bC:=mD [n0,n0,.str [],.int .u64 0] []
abbrev DI:av:=ax [FP] ta
abbrev uH:bC:=mz 2 (v (.agg [.str [],.str []]))
abbrev sB:bC:=iz 4 L0
abbrev JS:bC:=mz 4 (v (.agg [nf,.str [],.str [],.ai]))
abbrev Ix:bC:=ez 4 L2 L1
abbrev Q9:bC:=g E3 true (.mkl 1 [L1])
abbrev Rr:bC:=g E3 true (.call 114 [L2] false)
abbrev RH:bC:=g L4 true (.call 68 [L6] false)
abbrev xc:bC:=ei 24 L0
abbrev qG:List (Nat×cB):=[(2,L6)]
abbrev Ds:bC:=ei 10 L7
abbrev DW:bC:=iz 2 E2
abbrev Je:av:=au (ax [] [(1,E4)]) .ret
abbrev KP:bC:=g L3 true (.mov E0)
abbrev P7:List bC:=[cf,ei 22 L0,dr,qj]
abbrev Ad:av:=ax [jW rh oG] vQ
abbrev Dh:av:=co iv .skip gZ
abbrev QI:bC:=g L0 false (.mov E7)
abbrev Ao:av:=ax [pZ rh V1] ve
abbrev Do:bC:=cW 16 [L0]
abbrev KI:cB:=v (.str [76,69,70,84])
abbrev JG:cB:=v (.str [74,79,73,78])
abbrev IK:cB:=v (.str [78,85,76,76])
abbrev RV:cB:=v (.str [84,82,85,69])
abbrev Qi:cB:=v (.str [70,65,76,83,69])
abbrev Ry:cB:=v (.str [67,79,85,78,84])
abbrev eP:bC:=so E1
abbrev DC:bC:=i (.callv L0 [L1])
abbrev w9:bC:=ei 9 E2
abbrev P3:List bC:=[uF,aS,eR]
abbrev Rt:List bC:=[w9,aS,eR]
abbrev sM:av:=ax [Kb,vY] wc
abbrev vg:bC:=fr 1 L2 L4
abbrev P1:List bC:=[cf,gX,dr,fw,ed,vg,mv]
abbrev AF:av:=ax Ot tq
abbrev Dx:av:=ax [gr E3 V1] gp
abbrev Ax:bC:=ez 1 L0 V0
abbrev Dk:av:=ax [gr E3 dS] iD
abbrev J8:bC:=ez 1 L0 Vn
abbrev Rc:bC:=g L3 false (.fld 2 E4)
abbrev Rg:bC:=g L3 false (.bin .neq L5 gY)
abbrev Dm:bC:=g L3 false (.bin .eql L4 V0)
abbrev Rs:bC:=g L6 false (.fld 1 E4)
abbrev RP:bC:=g L6 false (.mov E0)
abbrev Qy:bC:=g L8 true (.fld 0 E1)
abbrev Jj:bC:=g L0 false (.mov L2)
abbrev Qd:bC:=g L0 false (.pick L3 L5 Vf)
abbrev Q0:List bC:=[gr E0 gh,ln,g L0 false (.bin .geq L1 Ez),Jj,KP,g L3 true (.bin .leq L4 (v (.int .i64 15))),Qd,eI L0 Vt L6]
abbrev Jw:cB:=v (.int .i64 22)
abbrev Qq:bC:=g L0 false (.bin .eql L1 V0)
abbrev Iq:av:=au (ax [] [(3,E4)]) .ret
abbrev Dg:bC:=cW 73 [E0,dS,Vn]
abbrev xk:bC:=i (.fldv false 1 2 L0)
abbrev I2:av:=au (ax [DW,ez 2 E1 L0] []) .ret
abbrev RZ:List bC:=[fr 2 oG iv,lI,BU,mT]
abbrev RU:List bC:=[cW 81 [],mz 1 (v .nilm),rT]
abbrev Dw:List bC:=[mz 8 E0,fG]
abbrev JD:bC:=mz 1 (v .nilf)
abbrev Rq:List bC:=[fr 8 E6 E8,zu,xn,zY]
abbrev AQ:cB:=v (.int .i64 23)
abbrev KF:av:=au ow (au (dg 1 (au qR (au (ax [fr 2 E0 E3,lI,uv] lL) qY))) pb)
abbrev QN:bC:=g L0 false (.bin .eql L1 dS)
abbrev Ru:av:=co E4 Dc .skip
abbrev xr:bC:=ez 4 E2 L0
abbrev gl2:ap:=.agg [.str [60,62],.str [60,61],.str [62,61],.str [40],.str [41],.str [44],.str [46],.str [42],.str [43],.str [45],.str [47],.str [61],.str [60],.str [62]]
abbrev RL:cB:=v (.cptr false gl2 0)
abbrev Re:bC:=iIa 14 1 RL iv
abbrev Rh:bC:=cW 51 [E0,V1,L0,L2]
abbrev DS:cB:=v (.int .i64 11)
abbrev R2:bC:=i (.look (.int .i64 0) false L0 L2)
abbrev IZ:bC:=ez 1 E8 L0
abbrev IW:List bC:=[yF,IZ]
abbrev RO:bC:=g L0 true (.una .not L1)
abbrev JQ:bC:=fr 1 vD V0
abbrev PX:bC:=mD [n0,n0,n0,n0,n0,n0,.int .u64 0,.str []] [(0,1,E0)]
abbrev Q6:bC:=g L0 false (.mov E8)
abbrev RM:bC:=g L0 false (.bin .gtr L1 L3)
abbrev Qm:bC:=g L5 false (.una .not L7)
abbrev JM:av:=au (ax nO HX) .ret
abbrev Qe:av:=co Ec JM .skip
abbrev Qz:List bC:=[mD [n0,n0] [(0,1,gY),(1,1,gY)],mz 2 (v (.agg [n0,n0])),uI]
abbrev Qo:bC:=i (.slice 1 E0 (some E2) none)
abbrev Rw:bC:=g L2 true (.bin .eql L4 V0)
abbrev uU:bC:=mD [n0,n0,.int .u64 0,.str []] []
abbrev DK:bC:=i (.eqa false [0,0,0,2] L1 L2)
abbrev C7:bC:=g L3 true (.fld 3 E1)
abbrev PV:List bC:=[fr 9 iv xN,Mn,DU,Ph]
abbrev KO:av:=ax [mz 4 E0] ta
abbrev zt:bC:=iz 4 E1
abbrev C2:cB:=v (.int .u64 0)
abbrev IF:bC:=g L2 true (.bin .eql L4 jM)
abbrev QH:bC:=cW 51 [E0,ig,L0,L3]
abbrev gl0:ap:=.agg [.str [98,111,111,108],.int .i64 1,.str [105,110,116],.int .i64 2,.str [116,101,120,116],.int .i64 3]
abbrev gl1:ap:=.agg [.str [83,69,76,69,67,84],.str [68,73,83,84,73,78,67,84],.str [70,82,79,77],.str [76,69,70,84],.str [74,79,73,78],.str [79,78],.str [87,72,69,82,69],.str [71,82,79,85,80],.str [66,89],.str [72,65,86,73,78,71],.str [85,78,73,79,78],.str [65,76,76],.str [79,82,68,69,82],.str [76,73,77,73,84],.str [65,83,67],.str [68,69,83,67],.str [65,83],.str [65,78,68],.str [79,82],.str [78,79,84],.str [73,83],.str [78,85,76,76],.str [84,82,85,69],.str [70,65,76,83,69],.str [67,79,85,78,84],.str [83,85,77],.str [77,73,78],.str [77,65,88]]
def xw:av:=au (ax [jW E31 E30] [(32,L0)]) (au (co E32 .skip (.exit 3)) (au (dg 4 (au (ax [fr 9 XE E31,Mn,SG,Ph] [(13,L2)]) (au (ax [GS,iz 9 iv,cW 219 [L0,L1],sq,mm,fG,zo] [(14,L5),(15,L4)]) (au (ax [GS,iz 9 iv,cW 218 [L0,L1],sq,mm,fG,zo] [(16,L5),(17,L4)]) (au (ax [i (.una .not AJ),g L0 true (.mov xN),g L0 true (.bin .neq L1 Ut),Q8,g L3 false (.fld 0 vD),Cm,Qb,g L3 false (.bin .neq L6 V0),g L0 true (.pick L3 Vt L7),eI L0 L8 Vf,g L9 false (.mov AJ),g L9 false (.mov fP),g iS true (.mov xN),g iS true (.bin .neq ml V0),g iS true (.mov lT),g mi false (lt vD),g mi false (lt yb),g mi false (.call 188 [wu,sn] false),g mi false (.una .not pO),g iS true (.pick mi Vt AU),g L9 false (.pick iS CR Vf),eI L9 Vt AZ] [(33,CY)]) (co E33 CG .skip)))))) (ax [pZ E31 V1] [(31,L0)])))
def mI:av:=au R0 (au (co O4 .skip gZ) (au (dg 1 (au (ax [fr 5 AX KR,iz 5 L0,HR,ez 5 L2 L1] [(7,L2),(6,KR)]) (au (au (ax [gr E6 vP] Mb) (co UX gZ .skip)) (au (ax [iz 5 E7,cW 216 [L0],HR,ez 5 L2 L1] Ii) (au (ax [GS,iz 5 E8,cW 171 [L0,L1],sq,mm,fG,zo] [(9,L5),(10,L4)]) (au (xW [GS,iz 5 E7,cW 216 [L1],cW 220 [L0,L2],wE,wy,fG,Qc] [(11,L6),(12,L5)] [(0,7),(1,7),(2,7),(3,7)]) (au (dg 2 (au (ax [i (.una .not E5)] [(24,L0)]) (co E24 (au (au (ax [pT mc (v (.int .i64 210)),abK,QJ,Le,ab2,Im] [(25,L5)]) (co E25 CG .skip)) LH) (au (ax [i (.una .not rh)] [(26,L0)]) (co Z8 (au (ax [pT mc Ut,abK,QJ,Le,ab2,Im] [(27,L5)]) (co E27 CG .skip)) (au (ax [pT mc V0,g L0 false (lt E9),g L0 false (lt oG),g L0 false (.call 188 [L1,L2] false),g L0 false (.una .not L3),Im] [(28,L5)]) (co E28 CG .skip))))))) (au (au (ax [Qg,aS,eR] [(29,L1),(30,L2),(31,V0)]) (dg 3 (.loop [3,13,14,15,16,17,32,33] xw))) (au (ax [iz 5 E8,iz 5 E7,cW 216 [L1],cW 217 [L0,L2],i (.una .not L3)] [(34,L4)]) (co E34 CG .skip)))))))))) RY))
def ab0:av:=au Xf (au (au (ax [cW 162 [],zZ] [(18,L1)]) (co Ec CG .skip)) (au (ax [jI,cW 222 [L0],fG,mC] sI) (au (ax [GS,cW 221 [L0]] vj) (au (au (ax CH [(19,E1),(20,L0),(21,V0)]) (dg 0 (.loop [3,6,7,8,9,10,11,12,13,14,15,16,17,22,23,24,25,26,27,28,29,30,31,32,33,34] mI))) (au (ax [] [(3,Vt)]) .ret)))))
def apV:aM:=⟨35,2,.pure,[.env 3],ab0⟩
def ah4:av:=au (ax [] [(0,Vf)]) (au (ax [cW 120 [],cW 121 [L0,v (.str [83,69,76,69,67,84,32,98,32,70,82,79,77,32,116,32,87,72,69,82,69,32,97,32,61,32,49])],lw,lq,Lr,Um,ez 2 L5 L2] [(1,L5),(2,L3),(3,L4)]) (au (ax [cW 120 [],cW 121 [L0,v (.str [83,69,76,69,67,84,32,122,32,70,82,79,77,32,116])],lw,lq,Lr,Um,ez 2 L5 L2] Ik) (au (ax [gr E3 V0,UO,aaf,tQ,g L3 true (.mov E4),g L3 true (.bin .eql L4 (v (.int .i64 222))),eI L3 L5 Vf,g L6 true (.fld 0 E1),g L6 true (lt L7),g L6 true (.call 185 [L8] false),g L6 true (.mkl 1 [V1,fT,ig,xR]),g L6 true (.call 186 [L9,fP] false),eI L6 iS Vf,abt,Xd,g ml true (.len mi),g ml true (.bin .eql wu V1),eI ml sn Vf,g pO true (.fld 1 E1),LL,g pO true (.idxs 1 CR V0),g pO true (ld AZ),g pO true (.bin .eql CY (v (.str [98]))),eI pO AT Vf] [(0,Sy)]) .ret)))
def aq3:aM:=⟨5,0,.pure,[.env 0],ah4⟩
def zL:av:=au Af (au rW (au (dg 1 (au (ax WX [(5,L2),(4,E8)]) (xW [iA,aS,iA,dL,wI,lH,cW 224 [L5,ig],ET,so L7,cW 225 [L8,ig],fr 3 L1 E4,ei 1 fP,ez 1 iS L6,fr 3 L3 E4,ei 2 lT,ez 1 mi L9] [] [(2,13),(3,13)]))) rM))
def aa1:av:=au (ax [sh,fG] vd) (au (ax [gn,aS,cW 226 [L1,ig],OS,fG,yi] B4) (au (au (ax Bf Nx) (dg 0 (.loop [4,5,9] zL))) (au (ax [tx,B9] []) .ret)))
def apT:aM:=⟨10,1,.pure,[.cell true 1 2],aa1⟩
def uj:av:=au (au (ax [jW E4 E3] uB) (co E8 .skip mX)) (au (dg 3 (au (ax [gn,aS,fr 3 L1 E4,rR,ed,gn,mv,fr 3 L6 E3,Eg,yG,gr L4 L9] [(9,fP)]) (co E9 mR .skip))) Gi)
def xm:av:=au (au (ax [gn,aS,eR,jW E3 L2] By) ow) (au (dg 1 (au (au (ax [gn,aS,fr 3 L1 E3,iz 3 L2,cW 227 [L3],i (.una .not L4)] [(7,L5)]) (co E7 mR .skip)) (au (ax [] [(4,V0)]) (dg 2 (.loop [2,8,9] uj))))) Gh)
def R6:av:=au I9 (au (au (ax [gn,aS,eR,JO L2 gh] yL) (co E5 mR .skip)) (au (au yU (dg 0 (.loop [2,4,6,7,8,9] xm))) uE))
def aow:aM:=⟨10,1,.pure,[.env 2],R6⟩
def zK:av:=au ES (au yj (au (dg 1 (au (ax [fr 9 E5 E7,Mn,SG,Ph] [(4,L2),(3,E7)]) (ax [gn,aS,iz 9 E4,cW 228 [L2],fr 9 L1 E3,ez 9 L4 L3] []))) EY))
def aat:av:=au (ax [mz 5 E0,HR] vd) (au (xW [gn,aS,cW 229 [L1,gh],lP,ed,cW 230 [L4,Kf],qb,wo,cW 225 [L7,Kf],qa,so L9,cW 231 [fP,ig],gn,ez 1 ml L2,lP,ez 1 mi L5,qb,ez 1 sn L8,qa,ez 1 AU iS] [] [(3,0),(4,0),(6,0),(7,0),(9,0),(10,0)]) (au (au (ax za [(5,L1),(6,L2),(7,V0)]) (dg 0 (.loop [3,4,8] zK))) (au (ax [iz 5 E1,ez 5 E2 L0] []) .ret)))
def apl:aM:=⟨9,1,.pure,[.cell true 5 2],aat⟩
def lj:av:=au Bj (au (co Ur .skip gZ) (au (dg 1 (au (ax [fr 9 AJ AX,Mn,SG,Ph] [(10,L2),(9,AX)]) (au (ax [jI,iz 9 mc,cW 172 [L0,L1],sq,mm,fG,zo] [(11,L5),(12,L4)]) (au (au (ax [pT rh V0] [(21,L0)]) (co KR (au (ax F9 [(5,rh)]) .ret) .skip)) (ax [t8 oG,i (.callv E8 [E9,L0])] []))))) Br))
def abO:av:=au (ax Xi I7) (au (au Pj (au (ax Ew tp) (co xN (au (ax F9 [(5,E6)]) .ret) .skip))) (au (au (ax VA [(16,L8)]) (co yb Ni .skip)) (au (ax [jI,mD [.ai,.ai,.ai,.ai,.ai,nf,nf,.ai,.ai,.ai,.ai,nf] [(0,1,L0)],mz 12 L1,N4,sY] uR) (au (ax [i (.mkfn 182 [] [E7])] uB) (au (au (ax Bf Gt) (dg 0 (.loop [5,9,10,11,12,20,21] lj))) (au (ax [so E7,yn,dr,uS,ed,mD [n0,n0,n0,n0,.ai,nf,.ai,.ai,.ai,.ai,.ai,n0] [(0,1,xR),(10,1,L2),(11,1,L4)],cW 118 [L0,L5,Vn]] []) (au (ax [so E7,tE,BY,mU,cW 183 [L3],nX,nF] [(13,L5),(14,L6)]) (au (au (ax [so E7,tE,ei 11 L1,dL,g L3 false (.mov vD),g L3 false (.bin .neq L4 V0),Gy,g L6 false (.mov iv),g L6 false (.len L7),g L6 false (.fld 1 E3),g L6 false (ld L9),g L6 false (.len fP),g L6 false (.bin .neq L8 iS),eI L6 Vt ml,g lT false (.mov iv),g lT false (.fld 2 E3),g lT false (ld wu),g lT false (.call 184 [mi,sn] false),g lT false (.una .not pO),eI lT Vt AU] [(22,CR)]) (co O4 Ni .skip)) (au (ax [so E7,tE,BY,mU,Pu] [(5,V0)]) .ret)))))))))
def anZ:aM:=⟨23,2,.pure,[.cell true 1 4,.env 5],abO⟩
def pF:av:=au IE (au NP (au (dg 1 (au (ax [fr 9 vD yb,Mn,SG,Ph] [(9,L2),(8,yb)]) (au (ax [jI,iz 9 E9,cW 218 [L0,L1],sq,mm,fG,zo] [(10,L5),(11,L4)]) (au (ax [g E7 true (.mov oG),eI E7 L0 Vf] rD) (au (ax [gr E8 V0] th) (co Ec (ax [t8 mc,ez 1 E6 L0] []) (ax [TX,t8 E6,t8 mc,OH,cW 233 [E7,L0,L3],nX,nF,ez 1 E6 L5] [(7,L6)]))))))) EB))
def abM:av:=au (ax Xi Uy) (au (au (ax VA [(13,L8)]) (co iv Ef .skip)) (au (ax zd iH) (au (ax [] [(7,Vt)]) (au (au (ax Bf [(14,L1),(15,L2),(16,V0)]) (dg 0 (.loop [8,9,10,11,17,18] pF))) (au (ax [yn,aS,uS,dL,mD [n0,n0,n0,n0,.ai,nf,.ai,.ai,.ai,.ai,.ai,n0] [(0,1,xR),(10,1,L1),(11,1,L3)],t8 E6,lX 1 [L5],cW 233 [E7,L4,L6],xK 0 L7,xK 1 L7,ez 1 E6 L8] [(7,L9)]) (au (au (ax [i (.una .not E7)] FR) Xu) (au (ax [t8 E6,ei 0 E6,dr,qj,CT L3 V1,cW 232 [L0,L4],yT,yB] [(12,L6)]) (au (au (ax [uV rh,uM,dr,qj,pT L0 L3,g L4 false (.mov rh),g L4 false (.fld 2 E3),g L4 false (ld L6),g L4 false (.call 186 [L5,L7] false),T2,Kz] [(20,fP)]) Xz) (au (ax [t8 E6,IP] [(5,Vt)]) .ret)))))))))
def an9:aM:=⟨21,2,.pure,[.cell true 1 4,.env 5],abM⟩
def Dn:av:=au (au (ax [fI,aS,eR,jW E5 L2] uR) Gx) (au (dg 1 (au (ax [fI,aS,fr 12 L1 E5,iz 12 L2,iA,lH,fr 12 L5 E5,iz 12 L6,cW 234 [L3,L7],i (.una .not L8)] [(8,L9)]) Pc)) pb)
def aac:av:=au (ax [sh,mS] wc) (au (au (ax [fI,aS,eR,iA,ed,rE,pT L2 L5] [(6,L6)]) (co E6 rK .skip)) (au (au NN (dg 0 (.loop [4,7,8] Dn))) Oc))
def ap4:aM:=⟨9,2,.pure,[.env 4],aac⟩
def aal:av:=au (ax PJ I7) (au (au Pj (au (ax Ew kz) (co E7 (au (ax F9 [(5,E6)]) .ret) .skip))) (au (ax [jI,iz 9 E3,cW 172 [L0,L1],sq,mm,Pu] [(5,L4)]) .ret))
def apr:aM:=⟨8,2,.pure,[.cell true 1 4,.env 5],aal⟩
def ra:av:=au (ax [jW UX O4] [(24,L0)]) (au (co E24 .skip mX) (au (dg 3 (au (ax [fr 2 KR UX,lI,OG,mT] [(10,L2),(9,UX)]) (au (xW [jI,iA,dr,pZ E9 V1,fr 1 L2 L3,lH,cW 235 [L0,L5],cW 233 [Vt,L6,Vn],xK 0 L7,xK 1 L7,fG,ez 1 fP L8] [(11,fP),(12,L9)] [(0,11),(1,11),(2,11),(4,11),(5,11),(6,11)]) (ax [g E8 true (.mov rh),eI E8 L0 Vf,A8,dL,ei 1 mc,t8 L4,mD [n0,n0,n0,n0,.ai,nf,.ai,.ai,.ai,.ai,.ai,n0] [(0,1,dS),(5,1,L3),(6,1,L5)],qw,t8 oG,lX 1 [L7,L8],cW 233 [L1,L6,L9],xK 0 fP,xK 1 fP,ez 1 E7 iS] [(8,ml)])))) (ax [pZ UX V1] Mb)))
def uO:av:=au (ax [jW AJ yb] th) (au (co Ec .skip gZ) (au (dg 1 (au (ax [fr 1 xN AJ,aS] po) (au (ax [jW E6 V0,KL,PP,IY,Jk,KH,yO] [(19,L6)]) Xu))) (ax [pZ AJ V1] [(17,L0)])))
def aaq:av:=au (ax PJ Uy) (au (au (ax [iA,aS,eR,jW L2 V1,Uw,Cm,Qb,TQ,Gc,g L8 false (.fld 1 E3),JW,Xh,g L8 false (.fld 0 E3),g L8 false (ld ml),g L8 false (.len lT),g L8 false (.bin .sub mi V1),g L8 false (.bin .neq iS wu),eI L8 Vt sn] [(14,pO)]) (co vD Ef .skip)) (au (au (ax Bf [(15,L1),(16,L2),(17,V0)]) (dg 0 (.loop [5,6,18,19] uO))) (au (au (ax [uS,aS,tn,g L2 true (.fld 6 E3),kT,J9,g L2 true (.fld 7 E3),g L2 true (ld L6),g L2 true (.len L7),g L2 true (.bin .add L5 L8),g L2 true (.fld 3 E3),g L2 true (.fld 0 fP),g L2 true (ld iS),g L2 true (.len ml),g L2 true (.bin .add L9 lT),g L2 true (.bin .gtr mi V0),eI L2 wu Vf] [(20,sn)]) Xz) (au (xW [jI,iA,dr,fr 1 L2 V0,ed,cW 235 [L0,L4],cW 233 [Vt,L5,Vn],yf,yQ,fG,ez 1 L9 L7] [(7,L9),(8,L8)] [(0,10),(1,10),(2,10),(3,10),(4,10),(5,10)]) (au (au (ax Uo [(21,L1),(22,L2),(23,V0)]) (dg 2 (.loop [9,10,11,12,24] ra))) (au (au (ax [J0,g8,dr,qj,FI] [(25,L4)]) (co E25 (ax [J0,ij,PD,qw,Fi,Nu,yT,yB,O3] [(8,L7)]) .skip)) (au (au (ax [uS,aS] [(26,L1)]) (co Z8 (au (ax [F7,aS,A4,dL,Xo,ql,ez 12 L5 L4] [(13,L5)]) (au (au (ax [F7,aS,eR,A4,ed,rE,pZ L2 L5,gr L6 V0] [(27,L7)]) (co E27 (ax [VK,Ki,ei 8 iv,mC] []) .skip)) (ax [iz 12 iv,qw,uJ,cW 233 [E8,L0,L2],wE,wy,ez 1 E7 L4] [(8,L5)]))) .skip)) (au (au (ax [yn,g8,dr,qj,FI] [(28,L4)]) (co E28 (ax [yn,ij,PD,qw,Fi,Nu,yT,yB,O3] [(8,L7)]) .skip)) (au (ax [Gl,aS,mD [n0,n0,n0,n0,.ai,nf,.ai,.ai,.ai,.ai,.ai,n0] [(0,1,ig),(9,1,L1)],qw,Fi,Nu,yT,yB,O3] [(8,L7)]) (au (au (ax [ei 5 E3,aS] [(29,L1)]) (co XE (ax [Un,qw,uJ,cW 233 [E8,L0,L2],wE,wy,ez 1 E7 L4] [(8,L5)]) .skip)) (au (ax [qw,IP] [(5,E8)]) .ret)))))))))))
def aoe:aM:=⟨30,2,.pure,[.cell true 1 4,.env 5],aaq⟩
def DX:av:=au (ax [jW Ec AJ] FR) (au (co AX .skip FE) (au (dg 5 (au (ax [] [(7,Ec)]) (au (ax [EE,aS,fr 2 L1 E7,Ei,yn,lH,fr 2 L5 E7,iz 2 L6,WH] [(20,L8)]) (co Ur rK .skip)))) (ax [pZ Ec V1] th)))
def De:av:=au Jn (au (co xN .skip mX) (au (dg 3 (au (ax [] [(6,vD)]) (au (ax [fw,aS,fr 1 L1 E6,dL,uM,lH,fr 1 L5 E6,wo,pT L3 L7] [(16,L8)]) (co yb rK .skip)))) IN))
def Du:av:=au (ax [jW mc E9] tw) (au (co oG .skip gZ) (au (dg 1 (au (ax [] [(5,mc)]) (au (ax [fI,aS,fr 9 L1 E5,iz 9 L2,iA,lH,fr 9 L5 E5,iz 9 L6,cW 236 [L3,L7],i (.una .not L8)] [(12,L9)]) Uc))) Pd))
def abG:av:=au (ax [mz 5 E0,mz 5 E1] wc) (au (au (ax [Fy,aS,uS,dL,Ko,g L4 false (.fld 0 E2),BT,g L4 false (.len L6),g L4 false (.fld 0 E3),Ke,g L4 false (.len L9),g L4 false (.bin .neq L7 fP),eI L4 Vt iS,g ml false (.fld 1 E2),g ml false (ld lT),g ml false (.len mi),g ml false (.fld 1 E3),g ml false (ld sn),g ml false (.len pO),g ml false (.bin .neq wu AU),eI ml Vt CR,g AZ false (.fld 3 E2),g AZ false (ld CY),g AZ false (.len AT),g AZ false (.fld 3 E3),g AZ false (ld L24),g AZ false (.len XJ),g AZ false (.bin .neq Sy L26),eI AZ Vt XD,g Nh false (.fld 2 E2),Wj,g Nh false (.fld 2 E3),Vh,g Nh false (.call 237 [L30,L32] false),g Nh false (.una .not L33),eI Nh Vt L34] [(8,L35)]) Pc) (au (au (ax Bi [(9,L2),(10,V0)]) (dg 0 (.loop [4,5,11,12] Du))) (au (au (ax Xa [(13,L2),(14,V0)]) (dg 2 (.loop [4,6,15,16] De))) (au (au (ax [EE,aS,eR] [(17,L2),(18,V0)]) (dg 4 (.loop [4,7,19,20] DX))) Oc))))
def ap2:aM:=⟨21,2,.pure,[.env 4],abG⟩
def afq:av:=au (ax [sh,Um] UV) (au (au Pj (au (ax Ew ve) (co rh (au (ax IS [(4,V0),(5,E6)]) .ret) .skip))) (au (ax [cW 122 [E1],BD,KN,xK 2 L0,Kg,ez 3 L4 L1] [(7,L4),(8,L2),(9,L3)]) (au (au (ax [pT E9 V0] vQ) (co iv (au (ax IS [(4,E8),(5,E9)]) .ret) .skip)) (au (ax [jI,iz 3 E7,cW 134 [L0,L1],sq,mm,xK 2 L2,HR,ez 5 L6 L3] [(10,L6),(8,L4),(9,L5)]) (au (au (ax [pT E9 V0] yh) (co vD (au (ax IS [(4,E8),(5,E9)]) .ret) .skip)) (au (ax [jI,iz 5 mc,cW 171 [L0,L1],sq,mm,fG,zo] [(11,L5),(9,L4)]) (au (au (ax [pT E9 V0] tp) (co xN (au (ax IS [(4,V0),(5,E9)]) .ret) .skip)) (au (ax [t8 oG,ei 1 mc,dr,mD [.ai,.ai] [(0,1,L0),(1,1,L2)],ez 2 E3 L3] [(4,V0),(5,V0)]) .ret))))))))
def ari:aM:=⟨16,2,.pure,[.cell true 2 3,.env 4,.env 5],afq⟩
def ah5:av:=au (ax zd [(0,L0)]) (au (ax [Xv,mD [.str [],n0] [(0,1,v (.str [98])),(1,1,fT)],lX 2 [L0,L1],mD [.str [],.ai,.ai] [(0,1,v (.str [116])),(1,1,L2)],Xv,lX 2 [L4],mD [.str [],.ai,.ai] [(0,1,v (.str [117])),(1,1,L5)],lX 3 [L3,L6],mD [.ai] [(0,1,L7)],ez 1 E0 L8] []) .ret)
def aqJ:aM:=⟨1,0,.pure,[.cell true 1 0],ah5⟩
def Al:av:=au (au (ax [pc,jW E3 L0] vj) F0) (au (dg 1 (au (ax OR [(6,L4)]) (co E6 mR .skip))) Gh)
def Qh:av:=au iE (au Jt (au (au yU (dg 0 (.loop [2,5,6] Al))) uE))
def aoy:aM:=⟨7,2,.pure,[.env 2],Qh⟩
def Zm:av:=au ES (au yj (au (dg 1 (au (ax [fr 12 E5 E7,iz 12 L0,ql,Ng] sI) (ax [tC,aS,uJ,oE 1 E3 L2] tD))) EY))
def aiO:av:=au (ax wG vd) (au NZ (au (au (ax za [(5,L1),(6,L2),(7,V0)]) (dg 0 (.loop [4,8] Zm))) Kc))
def aqR:aM:=⟨9,1,.pure,[.env 2],aiO⟩
def RN:av:=au mQ (au (ax [Tw 3,pc,F3,i (.slice 3 E0 none (some L2)),oE 3 L0 L3] AV) .ret)
def aoD:aM:=⟨3,2,.keep,[.env 2],RN⟩
def P4:av:=au mQ JY
def aos:aM:=⟨3,2,.pure,[.env 2],P4⟩
def Rj:av:=au mQ Oj
def aon:aM:=⟨3,2,.pure,[.env 2],Rj⟩
def pG:av:=au (au (ax [qb,aS,eR,jW E6 L2] [(12,L3)]) (co rh .skip FE)) (au (dg 5 (au (ax [qb,aS,fr 1 L1 E6,dL,jW L3 V0,g L4 false (.fld 2 E1),BT,g L4 false (.mov E6),Xr,Ke,g L4 false (.fld 1 E1),g L4 false (ld fP),g L4 false (.len iS),g L4 false (.bin .geq L9 ml),eI L4 Vt lT,g mi false (.mov E6),g mi false (.bin .gtr wu V0),g mi false (.mov sn),Xs,LL,TT,g pO true (.bin .sub AZ V1),g pO true (.idxs 1 CR CY),g pO true (ld AT),Xs,g pO true (ld L24),TT,g pO true (.idxs 1 XJ L26),g pO true (ld XD),g pO true (.bin .geq Sy Nh),g mi false (.pick pO L29 Vf),eI mi Vt L30] [(13,L31)]) (co iv mR .skip))) BZ)
def vh:av:=au (au (ax [jW E5 E3] px) (co mc .skip mX)) (au (dg 3 (au (ax [lP,aS,Ks,rR,ed,tC,mv,gr L4 L6] [(11,L7)]) (co oG mR .skip))) pb)
def qI:av:=au (au (ax [lP,aS,eR,jW E3 L2] [(8,L3)]) yj) (au (dg 1 (au (ax [lP,aS,fr 2 L1 E3,Ei,BU,ez 2 L4 L3] Ik) (au (au (ax [tC,aS,cW 238 [L1],I3,g L3 false (.fld 1 E4),Cm,g L3 false (.call 239 [L5] false),g L3 false (.bin .eql L6 jM),Gc] [(9,L8)]) (co E9 mR .skip)) (au NN (dg 2 (.loop [2,10,11] vh)))))) Gh)
def Et:av:=au (ax A2 ta) (au (au (ax [gn,aS,cW 238 [L1],I3,g L3 false (.fld 1 E1),Cm,Qb,g L3 false (.bin .lss L6 V1),Gc,g L8 false (.fld 1 E1),JW,Xh,g L8 false (.bin .gtr iS gh),eI L8 Vt ml] [(7,lT)]) (co E7 mR .skip)) (au (au yU (dg 0 (.loop [2,4,5,8,9,10,11] qI))) (au (au Eo (dg 4 (.loop [2,12,13] pG))) uE)))
def anX:aM:=⟨14,1,.pure,[.env 2],Et⟩
def P8:av:=au mQ (au (ax [Tw 9,pc,F3,i (.slice 9 E0 none (some L2)),oE 9 L0 L3] AV) .ret)
def aoA:aM:=⟨3,2,.keep,[.env 2],P8⟩
def Qn:av:=au mQ Oj
def aot:aM:=⟨3,2,.pure,[.env 2],Qn⟩
def QU:av:=au mQ JY
def aok:aM:=⟨3,2,.pure,[.env 2],QU⟩
def zk:av:=au Bj (au Nm (au (dg 5 (au (ax [fr 1 AJ AX,ij,fG,mC] [(8,L2),(7,AX)]) (ax [yp,aS,t8 E8,cW 240 [L2],fr 1 L1 E7,yi] []))) Br))
def zl:av:=au B0 (au Iz (au (dg 3 (au (ax [fr 2 iv xN,lI,NV,mT] [(6,L2),(5,xN)]) (ax [uN,aS,ei 1 E6,mU,cW 240 [L3],Ks,ei 1 L5,Qc] []))) A5))
def zx:av:=au BL (au Bw (au (dg 1 (au (ax [fr 2 E9 oG,lI,OG,mT] [(4,L2),(3,oG)]) (ax [lP,aS,vf,mU,cW 240 [L3],fr 2 L1 E3,ei 1 L5,Qc] []))) BQ))
def ab9:av:=au (ax [FP,SG] vd) (au (xW [gn,aS,cW 225 [L1,ig],lP,ed,cW 241 [L4,ig],yu,wo,cW 225 [L7,ig],uN,so L9,cW 242 [fP,v (.int .i64 14)],yp,FV,cW 243 [lT,v (.int .i64 17)],gn,ez 1 wu L2,lP,ez 1 pO L5,yu,ez 1 CR L8,uN,ez 1 CY iS,yp,ez 1 Sy mi] [] [(6,0),(7,0),(9,0),(10,0),(12,0),(12,6),(13,0),(13,6),(15,0),(15,6),(15,12)]) (au (au (ax Ov [(9,L1),(10,L2),(11,V0)]) (dg 0 (.loop [3,4,12] zx))) (au (au (ax [uN,aS,eR] Jr) (dg 2 (.loop [5,6,16] zl))) (au (au (ax [yp,aS,eR] Gt) (dg 4 (.loop [7,8,20] zk))) (au (ax [qb,ij,cW 240 [L1],qa,t8 L3,cW 240 [L4],qb,ez 1 L6 L2,qa,NB] []) (au (ax [iz 9 E1,ez 9 E2 L0] []) .ret))))))
def apf:aM:=⟨21,1,.pure,[.cell true 9 2],ab9⟩
def VV:av:=au Ky (au (ax [iMv (v (.fn 52 [] []))] iq) (au (au (ax [gn,aS,eR,JO L2 gh,g L3 false (.fld 0 E1),Cm,g L3 false (.mov E3),g L3 false (.call 87 [L5,L6] false),Gc,g L8 false (.fld 0 E1),JW,g L8 false (.call 88 [fP,v (.fn 13 [] [])] false),g L8 false (.una .not iS),eI L8 Vt ml] [(4,lT)]) (co E4 (au (ax [] [(2,v (.int .i64 210))]) .ret) .skip)) yr))
def ao0:aM:=⟨5,1,.pure,[.env 2],VV⟩
def Xq:av:=au (ax [mS] iq) (au (au (ax [gr E0 V0] gp) (co E4 (au (ax [so E2,tx,tE,ei 10 L2,ez 1 L3 L1] []) .ret) .skip)) (ax [so E2,TX,tx,lX 1 [L2],cW 118 [L0,L1,L3]] []))
def aoM:aM:=⟨5,3,.keep,[],Xq⟩
def UH:av:=au (ax [Kb] iq) (au (au (ax [uV E2,JO L0 V0] tk) (co E4 (au (ax [Es,cf,BY,mU,fr 1 E2 V0,t8 L4,cW 191 [L0,L3,L5],yf,yQ,cW 105 [E0,L7,L8]] []) .ret) .skip)) (ax [Es,cf,BY,mU,cW 119 [L0,L3],nX,nF,cW 105 [E0,L5,L6]] []))
def aoF:aM:=⟨5,3,.keep,[],UH⟩
def qZ:av:=au (ax [jW E9 gh] px) (au yW (au (dg 1 (au (ax [i (.idxv false 4 1 E8 E9)] kz) (au (ax [i (.callv E7 [])] []) (au (ax [Mq E6,FC,dr] [(11,L2)]) (co oG Ni .skip))))) wH))
def UL:av:=au (ax PJ I7) (au (ax [jI,iz 9 E3,mD [.ai,.ai,.ai,.ai,.ai,nf,nf,.ai,.ai,.ai,.ai,nf] [(0,1,L0),(1,9,L1)],mz 12 L2] By) (au (au (ax [i (.mkfn 173 [E6] []),i (.mkfn 179 [E6] []),i (.mkfn 180 [E6] []),i (.mkfn 181 [E6] []),mD [.nilf,.nilf,.nilf,.nilf] [(0,1,L0),(1,1,L1),(2,1,L2),(3,1,L3)]] [(8,L4),(9,V0)]) (dg 0 (.loop [5,7,10,11] qZ))) (au (ax [Mq E6,ux,t8 L1,ez 1 E4 L2] [(5,V0)]) .ret)))
def aoH:aM:=⟨12,2,.pure,[.cell true 1 4,.env 5],UL⟩
def Vo:av:=au (ax wG Jq) (au (ax W5 [(4,L2),(5,L3),(6,L4)]) (au (au (ax Kr kz) (co E7 (au (ax nO [(2,L0),(3,v (.int .i64 230))]) .ret) .skip)) (au (ax [Mq E4,gX,dr,fr 1 L2 E5,ed,ND] [(2,L5),(3,V0)]) .ret)))
def aoV:aM:=⟨8,1,.pure,[.env 2,.env 3],Vo⟩
def zC:av:=au OJ (au Gx (au (dg 1 (au (ax [] [(3,E6)]) (au (ax OR [(8,L4)]) Jv))) BZ))
def RI:av:=au iE (au Jt (au (au O5 (dg 0 (.loop [2,3,7,8] zC))) uE))
def aoo:aM:=⟨9,2,.pure,[.env 2],RI⟩
def LC:av:=au (ax [Kb,fG] [(3,L0),(4,L1),(5,Vf)]) (au (au (ax [i (.una .not E0)] iH) (co E6 Ef .skip)) (au (ax [Es,cW 244 [L0,E2],lw,lq,ez 1 E4 L2] yL) .ret))
def aoi:aM:=⟨7,3,.trunc,[.cell true 1 4,.env 5],LC⟩
def nR:av:=au (ax wG wc) (au (au (ax [jI,cW 246 [L0,E1],D9,OT,yI,g L2 false (.mov E1),g L2 false (.idxs 12 L4 L5),g L2 false (.load true 12 L6),g L2 false (.call 247 [L7] false),g L2 false (.una .not L8),eI L2 Vt L9] [(14,fP)]) (co vD B2 .skip)) (au (ax Wf [(5,L4)]) (au (ax [vY,vY] [(6,L0),(7,L1)]) (au (au (ax VN [(15,L2)]) (co xN (au (ax [jI,wI,dr,cW 232 [L0,L2],wE,wy] [(8,L4),(9,L5)]) (au (au (ax [i (.una .not E9)] EL) (co yb B2 .skip)) (ax [] [(6,E8)]))) .skip)) (au (au (ax T1 [(17,L2)]) (co AJ (au (ax [jI,ET,dr,cW 232 [L0,L2],wE,wy] [(10,L4),(11,L5)]) (au (au (ax [i (.una .not oG)] th) (co Ec B2 .skip)) (ax [] [(7,mc)]))) .skip)) (au (ax [iz 12 E5,cW 245 [L0,E6,E7],lw,lq] [(12,L2),(13,L3)]) (au (au (ax [lQ,aS,gr L1 xR,Kp,g L2 true (.fld 0 E2),g L2 true (ld L4),Pt,g L2 true (.bin .sub L6 V1),g L2 true (.bin .neq L3 L7),eI L2 L8 Vf,g L9 false (.mov rh),g L9 false (.len fP),g L9 false (.bin .gtr iS up),eI L9 Vt ml] [(19,lT)]) (co AX B2 .skip)) (au (ax [] [(3,rh),(4,iv)]) .ret))))))))
def anJ:aM:=⟨20,2,.trunc,[.env 3,.env 4],nR⟩
def D3:av:=au (au (ax [El,aS,eR,jW E6 L2] [(11,L3)]) Xj) (au (dg 3 (au (ax [El,aS,fr 2 L1 E6,Ei,ei 10 E3,lH,fr 2 L5 E6,iz 2 L6,WH] [(12,L8)]) Uc)) BZ)
def DN:av:=au (au (ax [uF,aS,eR,jW E5 L2] [(9,L3)]) rW) (au (dg 1 (au (ax [uF,aS,Ks,rR,ed,Gl,mv,fr 2 L6 E5,Eg,yG,pT L4 L9,g fP false (.fld 8 E2),B3,Jf,OZ,Oi,No,g fP false (.fld 8 E3),Nk,Jf,Pz,PH,Po,Oh,O2,NA] [(10,XJ)]) Xb)) pb)
def abE:av:=au (ax [tj,Kb] wc) (au (au (ax [fI,aS,iA,dL,Ko,g L4 false (.fld 1 E2),BT,g L4 false (.fld 1 E3),g L4 false (ld L7),g L4 false (.bin .neq L6 L8),Kz,g fP false (.fld 2 E2),B3,g fP false (.fld 2 E3),TO,g fP false (.bin .neq ml mi),eI fP Vt wu,g sn false (.fld 3 E2),Wz,g sn false (.fld 3 E3),g sn false (ld CR),g sn false (.bin .neq AU AZ),eI sn Vt CY,g AT false (.fld 5 E2),g AT false (ld Sy),g AT false (.fld 5 E3),g AT false (ld XJ),g AT false (.eqb true L24 L26),eI AT Vt XD,g Nh false (.fld 11 E2),Wj,g Nh false (.fld 11 E3),Vh,g Nh false (.bin .neq L30 L32),eI Nh Vt L33] [(7,L34)]) (co E7 rK .skip)) (au (au (ax [uF,aS,eR,Gl,ed,rE,pT L2 L5,g L6 false (.fld 10 E2),BP,O7,g L6 false (.fld 10 E3),g L6 false (ld fP),g L6 false (.len iS),g L6 false (.bin .neq L9 ml),eI L6 Vt lT,g mi false (.fld 4 E2),g mi false (ld wu),g mi false (.fld 4 E3),g mi false (ld pO),g mi false (.call 186 [sn,AU] false),g mi false (.una .not CR),eI mi Vt AZ,g CY false (.fld 7 E2),g CY false (ld AT),g CY false (.fld 7 E3),g CY false (ld L24),g CY false (.call 186 [Sy,XJ] false),g CY false (.una .not L26),eI CY Vt XD] [(8,Nh)]) Pc) (au (au NN (dg 0 (.loop [4,9,10] DN))) (au (au Eo (dg 2 (.loop [4,11,12] D3))) (au (ax [Bc,ij,F7,mU,cW 248 [L1,L3],g L4 true (.fld 9 E2),BH,g L4 true (.fld 9 E3),g L4 true (ld L7),g L4 true (.call 249 [L6,L8] false),eI L4 L9 Vf] [(4,fP)]) .ret)))))
def ao4:aM:=⟨13,2,.pure,[.env 4],abE⟩
def DV:av:=au Af (au rW (au (dg 1 (au (ax UQ nN) (ax [ei 4 E4,aS,wI,dL,Fi,oE 1 L1 L4,ei 4 E4,PK] []))) rM))
def aaJ:av:=au (ax [sh,ql] Bp) (au (ax [mD [n0,n0,n0,n0,.ai,nf,.ai,.ai,.ai,.ai,.ai,n0] [(0,1,V1),(3,1,E1)],ql,ez 12 L1 L0] tk) (au (au (.lift 4 4 1 (ax [fI,aS,fr 3 L1 E1,ei 1 L2,ed,rE] [(6,L4),(7,L5),(8,V0)])) (dg 0 (.loop [5,9] DV))) (au (ax [iz 12 E4,ez 12 E3 L0] []) .ret)))
def apz:aM:=⟨10,2,.pure,[.cell true 12 3],aaJ⟩
def Ah:av:=au OJ (au Gx (au (dg 1 (au (ax [] [(3,E6)]) (au (ax OR [(8,L4)]) Jv))) BZ))
def PT:av:=au iE (au Jt (au (au O5 (dg 0 (.loop [2,3,7,8] Ah))) uE))
def aoj:aM:=⟨9,2,.pure,[.env 2],PT⟩
def DL:av:=au Ff (au JA (au (dg 3 (au (ax [] [(6,iv)]) (au (ax [Bh,aS,fr 2 L1 E6,rR,ed,A4,mv,fr 2 L6 E6,Eg,yG,pT L4 L9,g fP false (.fld 7 E2),B3,Vz,OZ,Oi,No,g fP false (.fld 7 E3),Nk,Vz,Pz,PH,Po,Oh,O2,NA] [(15,XJ)]) (co xN rK .skip)))) A7))
def DZ:av:=au B1 (au yW (au (dg 1 (au (ax [] [(5,E9)]) (au (ax [fw,aS,Ks,rR,ed,uM,mv,fr 2 L6 E5,Eg,yG,i (.eqb true L4 L9),TC,B3,Jf,OZ,Oi,No,VL,Nk,Jf,Pz,PH,Po,Oh,O2,NA] [(11,XJ)]) (co oG rK .skip)))) wH))
def abw:av:=au (ax [FP,mz 9 E1] wc) (au (au (ax [Fy,aS,uS,dL,i (.eqb true L1 L3),g L4 false (.fld 5 E2),BT,g L4 false (.fld 5 E3),g L4 false (ld L7),g L4 false (.eqb true L6 L8),Kz,TC,B3,g fP false (.len ml),VL,g fP false (ld mi),g fP false (.len wu),g fP false (.bin .neq lT sn),eI fP Vt pO,g AU false (.fld 7 E2),g AU false (ld CR),g AU false (.len AZ),g AU false (.fld 7 E3),g AU false (ld AT),g AU false (.len Sy),g AU false (.bin .neq CY L24),eI AU Vt XJ] [(7,L26)]) (co E7 rK .skip)) (au (au (ax Xa [(8,L2),(9,V0)]) (dg 0 (.loop [4,5,10,11] DZ))) (au (au (ax V2 [(12,L2),(13,V0)]) (dg 2 (.loop [4,6,14,15] DL))) (au (ax [fI,aS,iA,dL,cW 237 [L1,L3],g L4 true (.fld 6 E2),BH,g L4 true (.fld 6 E3),g L4 true (ld L7),g L4 true (.call 237 [L6,L8] false),eI L4 L9 Vf,g fP true (.fld 2 E2),g fP true (lt iS),g fP true (.fld 2 E3),g fP true (lt lT),g fP true (.call 248 [ml,mi] false),eI fP wu Vf,g sn true (.fld 3 E2),g sn true (lt pO),g sn true (.fld 3 E3),g sn true (lt CR),g sn true (.call 248 [AU,AZ] false),eI sn CY Vf,g AT true (.fld 8 E2),g AT true (ld Sy),g AT true (.fld 8 E3),g AT true (ld XJ),g AT true (.call 249 [L24,L26] false),eI AT XD Vf] [(4,Nh)]) .ret))))
def apG:aM:=⟨16,2,.pure,[.env 4],abw⟩
def ae9:av:=au (ax Is [(1,L0),(2,V0),(3,V0)]) (au (ax [cW 123 [E0,v (.fn 127 [] [])],BD,KN,xK 2 L0,ez 3 E1 L1] [(2,L2),(3,L3)]) .ret)
def ark:aM:=⟨4,1,.pure,[.cell true 3 1,.env 2,.env 3],ae9⟩
def act:av:=au (ax [jW XE E28] [(30,L0)]) (au (co E30 .skip mX) (au (dg 3 (au (ax [fr 3 E27 XE,Ju,mz 3 (v (.agg [.str [],n0,nf])),PC] [(15,L2)]) (au (ax [iz 3 xN,ei 1 E9,dr,cW 189 [L0,L2],wE,wy] [(16,L4),(17,L5)]) (au (au (ax [pT AJ V0] [(31,L0)]) (co E31 (au (ax M7 [(5,v (.int .i64 90)),(6,AJ)]) .ret) .skip)) (ax [ei 3 E9,aS,ei 2 xN,dL,mD [n0,nf] [(0,1,yb),(1,1,L3)],lX 2 [L4],oE 2 L1 L5,ei 3 E9,Jh] []))))) (ax [pZ XE V1] [(29,L0)])))
def aec:av:=au (ax [jW O4 KR] Mb) (au (co UX .skip gZ) (au (dg 1 (au (ax [fr 9 Ur O4,Mn,OC,Ph] [(11,L2),(10,O4)]) (au (ax [jI,iz 9 oG,tu,tu,tu,mD [.ai,nf,nf,.ai,.str [],.str [],.ai,.ai,.ai,.ai,.ai,.ai,.ai,.ai,nf,nf,.ai,.ai,.ai,.nilm,.nilm,.nilm,.ai,.ai,n0] [(0,1,L0),(1,9,L1),(19,1,L2),(20,1,L3),(21,1,L4)],mz 25 L5] [(12,L6)]) (au (au (ax [cW 141 [rh]] vQ) (au (ax [pT iv V0] [(24,L0)]) (co E24 (au (xW [Ox,iMu (v (.int .i64 10)) mc,Mq rh,ei 24 L2,ed,pZ L1 L4,Jp] [(5,L5),(6,iv)] [(2,7),(3,7),(4,7)]) .ret) .skip))) (au (au (ax [cW 169 [rh]] yh) (au (ax [gr mc V0] [(25,L0)]) (co E25 (ax [cW 170 [rh],ei 1 E9,rT,ei 2 E9,ez 1 L3 vD] []) (au (ax [ei 2 E9,aS,cW 190 [L1,vD],I3] [(26,L3)]) (co Z8 (au (ax [Ox,iMu (v (.int .i64 10)) mc,pZ L1 vP,Jp] [(5,L2),(6,v (.int .i64 229))]) .ret) .skip))))) (ax [ei 0 E9,aS,Mq rh,ei 10 L2,iz 9 L3,lX 9 [L4],oE 9 L1 L5,ei 0 E9,Jh] [])))))) (ax [pZ O4 V1] [(22,L0)])))
def amv:av:=au (ax [sh,mz 3 E1,HR] [(2,L0),(3,L1),(4,L2),(5,V0),(6,V0)]) (au (au (ax NH rD) (au (ax [pT E7 V0] th) (co Ec (au (ax M7 [(5,V0),(6,E7)]) .ret) .skip))) (au (au (ax [iz 3 E3,cW 135 [L0]] ua) (au (ax GA FR) (co AX (au (ax M7 [(5,V0),(6,E8)]) .ret) .skip))) (au (ax [J0,aS,mD [.ai,.ai,.ai,.ai,n0] [(4,1,L1)],HR,ez 5 L3 L2] [(9,L3)]) (au (au (.lift 9 0 9 (ax Bf [(20,L1),(21,L2),(22,V0)])) (dg 0 (.loop [5,6,10,11,12,13,14,23,24,25,26] aec))) (au (au (.lift 9 3 2 (ax Uo [(27,L1),(28,L2),(29,V0)])) (dg 2 (.loop [5,6,15,16,17,30,31] act))) (au (ax [iz 5 E9,Jp] [(5,V0),(6,V0)]) .ret))))))
def aqs:aM:=⟨32,2,.pure,[.cell true 5 4,.env 5,.env 6],amv⟩
def uW:av:=au (au (ax [wP,jW E2 L0] tk) NX) (au (dg 1 (au (ax [i (.idxt E0 E2),cW 250 [L0],tn,g L2 true (.mov E0),g L2 true (.mov E2),g L2 true (.idxt L3 L4),g L2 true (.call 251 [L5] false),g L2 true (.una .not L6),Nr,g L8 true (.mov E0),g L8 true (.mov E2),g L8 true (.idxt L9 fP),g L8 true (.bin .neq iS (v (.int .u8 95))),eI L8 ml Vf] [(5,lT)]) (co E5 Eh .skip))) Kw)
def Gb:av:=au lg (au (au (ax [wP,jW L0 V1,NU,g L1 false (.lent L2),g L1 false (.bin .gtr L3 up),eI L1 Vt L4,TB,g L5 false (.idxt L6 V0),g L5 false (.call 250 [L7] false),g L5 false (.una .not L8),eI L5 Vt L9,Pi,g fP false (.call 252 [iS] false),g fP false (.call 253 [ml] false),eI fP Vt lT] [(3,mi)]) (co E3 Eh .skip)) (au (au kx (dg 0 (.loop [1,4,5] uW))) Ob))
def anY:aM:=⟨6,1,.pure,[.env 1],Gb⟩
def Z6:av:=au EG (au (au I6 (dg 0 (au Pg (co E3 (au (ax [] [(1,v (.str [98,111,111,108]))]) .ret) (au (ax [gr E2 dS] gp) (co E4 (au (ax [] [(1,v (.str [105,110,116]))]) .ret) (au (ax [gr E2 fT] iD) (co E5 (au (ax [] [(1,v (.str [116,101,120,116]))]) .ret) .skip)))))))) (au EG .ret))
def apR:aM:=⟨6,1,.pure,[.env 1],Z6⟩
def RR:av:=au mQ JY
def aov:aM:=⟨3,2,.keep,[.env 2],RR⟩
def Q1:av:=au mQ JY
def aox:aM:=⟨3,2,.keep,[.env 2],Q1⟩
def R4:av:=au mQ Oj
def aol:aM:=⟨3,2,.keep,[.env 2],R4⟩
def xi:av:=au ES (au yj (au (dg 1 (au (ax [] [(4,E7)]) (au (ax [iA,aS,fr 8 L1 E4,ei 4 L2,ei 3 L3] [(5,L4)]) (ax [Mq E5,aS,Mq E5,dL,iLt L3,i (.mins L4 [v (.int .i64 41)]),i (.slicet L1 none (some L5)),Mq E5,Jh] [])))) EY))
def aa6:av:=au (ax [sh,fG] vd) (au (ax [gn,aS,i (.call 254 [L1,v (.int .i64 120)] true),OS,fG,yi] B4) (au (au (ax Bf [(6,L2),(7,V0)]) (dg 0 (.loop [4,5,8] xi))) (au (ax [tx,B9] []) .ret)))
def apq:aM:=⟨9,1,.pure,[.cell true 1 2],aa6⟩
def abY:av:=au (ax A2 ta) (au (ax [iz 3 E1,cW 53 [L0],Iw] oU) .ret)
def apO:aM:=⟨3,1,.pure,[.env 2],abY⟩
def qT:av:=au Ff (au JA (au (dg 3 (au (ax [fr 1 oG iv,aS] [(5,iv),(6,L1)]) (ax [g E3 true (.mov E6),g E3 true (.bin .geq L0 V0),eI E3 L1 Vf,g L2 true (.mov E6),I4,g L2 true (ld L4),Pt,g L2 true (.bin .lss L3 L6),Nr,g L8 true (.mov E5),g L8 true (.bin .eql L9 V0),g L8 true (.mov fP),g iS false (.fld 2 E1),V4,g iS false (.mov E5),g iS false (.bin .sub mi V1),g iS false (.idxs 1 lT wu),g iS false (ld sn),g iS false (.mov E6),g iS false (.bin .lss pO AU),g L8 true (.pick iS Vt CR),eI L8 AZ Vf] [(3,CY)]))) A7))
def Au:av:=au B1 (au yW (au (dg 1 (au (ax [fr 2 E7 E9,lI,BU,mT] sI) (ax [g E3 true (.fld 1 E4),Iu,g E3 true (.call 38 [L1] false),g E3 true (.bin .neq L2 jM),Ps] B4))) wH))
def Ml:av:=au (ax A2 [(1,L0),(2,V0)]) (au (ax [gn,aS,cW 11 [L1],I4,kT,J9,g L2 true (.bin .geq L5 V1),eI L2 L6 Vf,g L7 true (.fld 1 E1),Bk,g L7 true (.len L9),g L7 true (.bin .leq fP gh),eI L7 iS Vf,abt,Xd,g ml true (.call 54 [mi,v (.fn 10 [] [])] false),eI ml wu Vf] [(3,sn)]) (au (au (ax Ov [(7,L1),(8,L2),(9,V0)]) (dg 0 (.loop [4,10] Au))) (au (au (ax Wk [(11,L1),(12,L2),(13,V0)]) (dg 2 (.loop [5,6,14] qT))) (au (au (ax [Bb] tp) (co xN (au (ax [] [(2,v (.int .i64 211))]) .ret) .skip)) yr))))
def aoh:aM:=⟨16,1,.pure,[.env 2],Ml⟩
def aaV:av:=au iE (au (ax [cW 29 [E0,E1],wn] my) .ret)
def apd:aM:=⟨3,2,.pure,[.env 2],aaV⟩
def xC:av:=au Af (au rW (au (dg 1 (au (ax WX [(4,L2),(3,E8)]) (au (ax [iz 3 E4,i (.callv E1 [L0]),cW 50 [E0,E1,L1],sq,mm] yL) (au (ax [pT E5 E3,Bu,g L0 false (.load true 3 E4),Up,Uf,Ws,yO] [(10,L6)]) Wt)))) rM))
def Ul:av:=au iE (au (au Ow (dg 0 (.loop [2,3,4,5,9,10] xC))) uE)
def ao1:aM:=⟨11,2,.pure,[.env 2],Ul⟩
def aaU:av:=au (ax A2 [(1,L0),(2,jM)]) NR
def apj:aM:=⟨3,1,.pure,[.env 2],aaU⟩
def aa0:av:=au (ax [mS] iq) (au (ax [cf,FC,dr,UB,WJ,N0,cf,ei 11 L6,Kx] []) (ax [tx,cf,BY,ez 1 L2 L0] []))
def apn:aM:=⟨4,3,.keep,[],aa0⟩
def abT:av:=au (ax [tj,mS,mz 1 E2,fG] [(3,L0),(4,L1),(5,L2),(6,L3),(7,V0)]) (au (ax [Es,GS,t8 E5,OH,cW 104 [L0,L3],nX,nF,ez 1 E6 L5] [(7,L6)]) .ret)
def apY:aM:=⟨8,3,.pure,[.cell true 1 6,.env 7],abT⟩
def aav:av:=au (ax [tj,mS,fG] I7) (au (ax [Fg,tx,uJ,cW 104 [L0,L2],wE,wy,ez 1 E4 L4] [(5,L5)]) .ret)
def apb:aM:=⟨6,2,.pure,[.cell true 1 4,.env 5],aav⟩
def sR:av:=au B1 (au yW (au (dg 1 (au (ax [fr 2 E7 E9,lI,OG,mT] [(3,L2),(2,E9)]) (au (ax [pZ E2 V1,fr 1 E1 L0,dr,cW 174 [E0,L2],wE,wy,fG,Qc] [(4,L6),(5,L5)]) (au (ax [cf,FC,dr,VS,WJ,N0,cf,ei 11 L6,Kx] []) (ax [iA,aS,uM,mU,mD [n0,n0,n0,n0,.ai,nf,.ai,.ai,.ai,.ai,.ai,n0] [(0,1,dS),(5,1,L1),(6,1,L3)],GS,lX 1 [L5],cW 118 [E0,L4,L6]] []))))) wH))
def KX:av:=au (ax [cf,gX,vW,dL] qy) (au (au (ax [HC,jW L0 V1,g L1 false (.mov E1),g L1 false (.len L2),g L1 false (.bin .gtr L3 fT),eI L1 Vt L4,TB,g L5 false (.nilck L6),g L5 false (.fld 1 L7),g L5 false (.fld 1 L8),g L5 false (ld L9),g L5 false (.len fP),g L5 false (.mov E1),g L5 false (.len ml),g L5 false (.bin .sub lT V1),g L5 false (.bin .neq iS mi),eI L5 Vt wu,cf,ei 11 pO,ez 1 AU sn] []) (au (ax [cf,FC,dr] u0) (co E6 .ret .skip))) (au (ax [fr 1 E1 V0,aS,cW 174 [E0,L1],sq,mm,cW 105 [E0,L3,L4]] []) (au (ax [cf,gX,FQ,dL,yo] [(7,L3),(8,L4),(9,V0)]) (dg 0 (.loop [2,3,4,5,10] sR)))))
def aog:aM:=⟨11,1,.keep,[],KX⟩
def U8:av:=ax [cf,gX,ei 2 L1,rR,ed,rE,JO L5 V0,cf,Ip,ei 2 L8,t8 L9,mD [n0,n0,n0,n0,.ai,nf,.ai,.ai,.ai,.ai,.ai,n0] [(0,1,fT),(6,1,fP)],cW 158 [E0,L6,iS]] []
def aoK:aM:=⟨1,1,.keep,[],U8⟩
def Cw:av:=au (ax [cf,gX,iz 9 L1,SG,ez 9 L3 L2] qy) (au (ax [yu,aS,eR,uN,ed,rE,pZ L2 L5,JO L6 V0] [(2,L7)]) (au (ax [qa,g8,dr,qj,FI] B4) (au (au (ax [wk,aS,tn] nN) (co E5 (au (ax [cf,FC,dr,UB,eI L2 Vt L3,g L4 false (.mov E3),eI L4 Vt L5,cf,ei 11 L7,Fk] []) .ret) .skip)) (au (ax [yu,aS,uN,dL,Xo,ql,ez 12 L5 L4] [(4,L5)]) (au (au (ax [i (.una .not E2)] iH) (co E6 (ax [VK,Ki,ei 8 E4,mC] []) .skip)) (au (ax [iz 12 E4,cW 118 [E0,L0,Vn]] []) (ax [qa,ij,PD,cW 158 [E0,E3,L2]] [])))))))
def anT:aM:=⟨7,1,.keep,[],Cw⟩
def Ww:av:=au (ax [cf,gX,Fa,dL,mD [n0,n0,n0,n0,.ai,nf,.ai,.ai,.ai,.ai,.ai,n0] [(0,1,ig),(9,1,L3)],cW 118 [E0,L4,Vn]] []) (ax [cf,gX,ei 5 L1,dL,Un,cW 158 [E0,L3,L4]] [])
def aoS:aM:=⟨1,1,.keep,[],Ww⟩
def rQ:av:=dg 1 (au (ax [i (.una .not E8)] vQ) (co iv (au (ax [ut,B9,ez 1 E3 E7,ez 1 E4 Vf] []) .ret) .skip))
def p6:av:=au (ax [] [(7,oG)]) (ax [] [(8,rh)])
def La:av:=au (ax [sh,N4,mz 1 V0,mz 1 Vf] [(1,L0),(2,L1),(3,L2),(4,L3)]) (au (ax [uy,mD [.ai,.ai,.ai] [(0,1,L0)],mz 3 L1,N4,sY] yL) (au (ax za u0) (au (au (ax [jW E6 V1,KL,TL,ov] [(9,L3)]) (co E9 (au (ax [ut,B9,ez 1 E3 V0,ez 1 E4 Vf] []) .ret) .skip)) (au (au (ax [ut,cW 78 [L0]] [(10,L1)]) (dg 0 (.rng 14 mc 35))) (au (xW [ut,CT E6 V1,ut,Mq L2,ei 2 L3,lH,CT E6 V1,fr 1 L5 L6,so L7,gr L8 V0,B9,ez 1 E3 L1,ez 1 E4 L9] [] [(2,11),(2,12),(3,11),(3,12),(4,11),(4,12),(5,11),(5,12),(7,11),(7,12),(8,11),(8,12)]) .ret)))))
def an8:aM:=⟨14,1,.keep,[.cell false 1 2,.cell false 1 3,.cell false 1 4],La⟩
def ot:wM:=⟨14,[11,12],p6,rQ⟩
def aaB:av:=au kA (au FA (au (ax [iMv (v .ai),oE 1 L0 E0] qh) .ret))
def apv:aM:=⟨3,1,.fresh 1,[.env 1],aaB⟩
def AB:av:=au (au (ax [PM,g8,dr,qj,jW E8 L3] [(11,L4)]) Xj) (au (dg 3 (ax [lQ,aS,PM,rR,ed,fr 12 L4 E8,iz 12 L5,cW 256 [L6,E7],lX 12 [L7],oE 12 L1 L8,lQ,ez 1 fP L9] [])) rM)
def ll:av:=au (au (ax [HC,jW E6 L0] [(9,L1)]) rW) (au (dg 1 (au (au (ax [PM,ij,cW 255 [L1],I3] [(10,L3)]) (co mc (au (ax AY [(4,Vf)]) .ret) .skip)) (au (ax Uk lL) (au (au J7 (dg 2 (.loop [11] AB))) (au (ax BA ve) (co rh (ax [lQ,aS,eR,CT L2 V1,fw,yi] []) (ax [lQ,aS,eR,CT L2 V1,nT,yi] []))))))) BZ)
def Q3:av:=au (ax Ns wc) (au (ax [fw,J6] []) (au (ax [nT,J6] []) (au (ax zd iD) (au (au (.lift 5 0 12 Eo) (dg 0 (.loop [4,7,8,9,10,11,12] ll))) (au (ax [lQ,aS,Fg,lX 12 [L2],oE 12 L1 L3,lQ,ez 1 L5 L4] []) (au (au (ax [t8 E5,cW 255 [L0],tn] [(13,L2)]) (co iv (au (ax AY [(4,Vf)]) .ret) .skip)) (au (ax [t8 E5,Jl] [(4,Vt)]) .ret)))))))
def aop:aM:=⟨14,2,.trunc,[.cell true 1 3,.env 4],Q3⟩
def ru:av:=au (ax wD [(2,L0),(3,V0)]) (au (au (ax [jW E1 V0,Bu,PP,IY,Jk,KH,yO] [(8,L6)]) (co E8 uC .skip)) (au (ax Wf Ik) (au (au (ax [tC,aS,cW 257 [L1]] yP) (dg 0 (au (ax [gr E9 V0] px) (co mc (au (ax VT [(11,L6)]) (co oG (au (ax [] [(3,V1)]) .ret) .skip)) (au (ax [gr E9 V1] ve) (co rh (au (ax [vf,aS,yK,gr L1 L2,g L3 true (.fld 2 E4),p8,g L3 true (.bin .eql L5 gY),wh] [(13,L7)]) (co iv (au (ax Wx yL) (au (ax [JO E5 V0] yh) (co vD (au (ax [pZ E5 V1] iq) .ret) .skip))) .skip)) (au (ax [gr E9 dS] tp) (co xN (au (ax [ei 2 E4,aS,yK,gr L1 L2] [(16,L3)]) (co yb (au (ax [jI,ei 2 E4,dr,cW 246 [L0,L2]] By) (au (ax [JO E6 V0,g L0 true (.fld 1 E4),g L0 true (ld L1),g L0 true (.fld 2 E4),g L0 true (ld L3),g L0 true (.mov E6),g L0 true (.bin .sub L4 L5),g L0 true (.bin .eql L2 L6),eI L0 L7 Vf] [(17,L8)]) (co AJ (au (ax Wx uR) (au (ax [JO E7 V0] th) (co Ec (au (ax [pZ E7 E6,pZ L0 V1] tq) .ret) .skip))) .skip))) .skip)) .skip)))))))) uC)))
def anL:aM:=⟨19,2,.pure,[.env 3],ru⟩
def eo:av:=au (ax [tj] ta) (au (au (ax [gn,aS,pT L1 V1,BM,kT,g L2 true (.bin .neq L4 V0),g L2 true (.mov L5),g L6 false (.fld 4 E1),BP,O7,g L6 false (.bin .gtr L9 V0),g L2 true (.pick L6 Vt fP),eI L2 iS Vf] [(3,ml)]) (co E3 mR .skip)) (au (au (ax [gn,aS,pT L1 dS,g L2 true (.fld 5 E1),kT,eI L2 L4 Vf,g L5 false (.fld 0 E1),g L5 false (ld L6),g L5 false (.bin .neq L7 dS),g L5 false (.mov L8),g L9 true (.fld 0 E1),PL,g L9 true (.bin .neq iS fT),g L5 false (.pick L9 ml Vf),g L5 false (.mov lT),g mi true (.fld 6 E1),g mi true (.fld 0 wu),g mi true (ld sn),g mi true (.len pO),g mi true (.bin .gtr AU V0),g L5 false (.pick mi CR Vf),eI L5 Vt AZ] [(4,CY)]) (co E4 mR .skip)) (au (au (ax [gn,aS,pT L1 gh,g L2 true (.fld 7 E1),kT,J9,g L2 true (.bin .gtr L5 V0),g L2 true (.mov L6),g L7 false (.fld 8 E1),g L7 false (ld L8),g L7 false (.len L9),g L7 false (.bin .gtr fP V0),g L2 true (.pick L7 Vt iS),eI L2 ml Vf,g lT false (.fld 0 E1),g lT false (ld mi),g lT false (.bin .neq wu ig),g lT false (.mov sn),g pO true (.fld 9 E1),LL,Xw,g pO true (.bin .gtr AZ V0),g lT false (.pick pO CY Vf),eI lT Vt AT] [(5,Sy)]) (co E5 mR .skip)) (au (ax [gn,aS,gr L1 xR,g L2 false (.fld 10 E1),yI,g L2 false (.len L4),g L2 false (.bin .eql L5 V0),g L2 false (.mov L6),g L7 true (.fld 11 E1),Bk,g L7 true (.bin .eql L9 V0),g L2 false (.pick L7 fP Vf),eI L2 Vt iS] [(2,ml)]) .ret))))
def anF:aM:=⟨6,1,.pure,[.env 2],eo⟩
def ui:av:=au (au (ax [ei 10 E3,aS,eR,jW Ec L2] [(35,L3)]) (co E35 .skip (.exit 11))) (au (dg 12 (ax [U5,JJ,g E7 true (.mov Ec),g E7 true (.idxs 2 L1 L2),g E7 true (.fld 0 L3),g E7 true (ld L4),g E7 true (.bin .geq L5 V0),eI E7 L6 Vf,g L7 true (.fld 10 E3),Bk,g L7 true (.mov Ec),g L7 true (.idxs 2 L9 fP),g L7 true (.fld 0 iS),g L7 true (ld ml),g L7 true (.mov E1),g L7 true (.len mi),g L7 true (.bin .lss lT wu),eI L7 sn Vf] [(7,pO)])) (ax [pZ Ec V1] th))
def uG:av:=au (au (ax [uS,aS,eR,jW E8 L2] [(21,L3)]) (co KR .skip LH)) (au (dg 2 (ax [g E7 true (.fld 4 E3),JJ,g E7 true (.mov E8),g E7 true (.idxs 1 L1 L2),g E7 true (ld L3),g E7 true (.bin .geq L4 V1),eI E7 L5 Vf,g L6 true (.fld 4 E3),JP,g L6 true (.mov E8),g L6 true (.idxs 1 L8 L9),g L6 true (ld fP),g L6 true (.bin .leq iS fT),eI L6 ml Vf] [(7,lT)])) rM)
def Df:av:=au (au (ax [Gl,aS,eR,jW mc L2] [(27,L3)]) (co E27 .skip (.exit 5))) (au (dg 6 (au (ax [Gl,aS,fr 2 L1 mc,Ei,cW 259 [L3,E1],nX,nF] [(11,L5),(12,L6)]) (au (ax [PA,JL] po) (ax [g E7 true (.mov rh),eI E7 L0 Vf] rD)))) Pd)
def xF:av:=au (au (ax [A4,aS,eR,jW E9 L2] [(25,L3)]) (co E25 .skip (.exit 3))) (au (dg 4 (au (au (ax [A4,aS,fr 1 L1 E9,dL,jW L3 V0,g L4 false (.fld 7 E3),BT,g L4 false (.mov E9),Xr,Ke,g L4 false (.mov E1),g L4 false (.len fP),g L4 false (.bin .geq L9 iS),eI L4 Vt ml] [(26,lT)]) (co Z8 (au (ax nO [(4,L0),(5,Vf)]) .ret) .skip)) (ax [A4,aS,fr 1 L1 E9,dL,fr 1 E1 L3,lH,lX 1 [L5],oE 1 E6 L6] [(6,L7)]))) wH)
def xu:av:=au (au (ax [ei 9 E3,aS,eR,jW iv L2] [(29,L3)]) (co XE .skip (.exit 7))) (au (dg 8 (au (ax [ei 9 E3,aS,fr 1 L1 iv,mU,cW 260 [L3,E1],nX,nF] [(14,L5),(15,L6)]) (au (ax [lX 1 [vD],JL] po) (ax [g E7 true (.mov xN),g E7 true (.bin .eql L0 V0),eI E7 L1 Vf] lL)))) A7)
def qS:av:=au (au (ax [HC,jW yb L0] [(33,L1)]) (co E33 .skip (.exit 9))) (au (dg 10 (au (ax [fr 1 E1 yb,aS] [(17,L1)]) (au (au (ax [gr AJ V0] [(34,L0)]) (co E34 (ax [fr 1 E2 yb,aS] [(17,L1)]) .skip)) (au (ax [lX 1 [AJ],JL] po) (ax [g E7 true (.mov E2),g E7 true (.mov yb),g E7 true (.idxs 1 L0 L1),g E7 true (ld L2),g E7 true (.mov AJ),g E7 true (.bin .eql L3 L4),g E7 true (.mov L5),g L6 false (.mov E2),g L6 false (.mov yb),g L6 false (.idxs 1 L7 L8),g L6 false (ld L9),g L6 false (.bin .eql fP V0),g E7 true (.pick L6 Vt iS),eI E7 ml Vf] [(7,lT)]))))) EB)
def kF:av:=au (ax [tj,vY] [(3,L0),(4,L1),(5,Vf)]) (au (ax tG iH) (au (ax [] [(7,Vt)]) (au (au (ax [iA,aS] [(19,L1)]) (dg 0 (au (ax [gr AX V1] [(20,L0)]) (co Ur (au (au J7 (dg 1 (.loop [21] uG))) (au (ax [uS,aS,g E7 true (.fld 3 E3),g E7 true (ld L2),g E7 true (.bin .geq L3 V0),eI E7 L4 Vf,g L5 true (.fld 3 E3),g L5 true (ld L6),g L5 true (.bin .leq L7 fT),eI L5 L8 Vf,g L9 true (.fld 4 E3),PL,g L9 true (.len iS),g L9 true (.bin .geq ml V1),eI L9 lT Vf,g mi true (.fld 4 E3),g mi true (ld wu),g mi true (.len sn),g mi true (.bin .leq pO gh),eI mi AU Vf] [(4,L1),(5,CR)]) .ret)) (au (ax [gr AX dS] [(22,L0)]) (co O4 (au (ax [oE 1 E6 E1,oE 1 L0 E2] po) (au (ax [F7,ij,cW 258 [L1,E6]] [(4,E6),(5,L2)]) .ret)) (au (ax [gr AX fT] Mb) (co UX (au (ax [F7,ij,cW 258 [L1,E1]] [(4,E1),(5,L2)]) .ret) (au (ax [gr AX gh] [(24,L0)]) (co E24 (au (au (ax [] [(9,V0)]) (dg 3 (.loop [4,5,25,26] xF))) (au (au (ax [] [(10,V0)]) (dg 5 (.loop [11,12,27] Df))) (au (ax [g E7 true (.fld 7 E3),JJ,g E7 true (.len L1),V6,eI E7 L3 Vf,g L4 true (.fld 8 E3),BH,g L4 true (.len L6),g L4 true (.bin .leq L7 Ez),eI L4 L8 Vf,g L9 true (.mov E6),g L9 true (.len fP),g L9 true (.bin .gtr iS V0),eI L9 ml Vf] [(4,E6),(5,lT)]) .ret))) (au (ax [gr AX ig] [(28,L0)]) (co E28 (au (au (ax [] [(13,V0)]) (dg 7 (.loop [14,15,29] xu))) (au (ax [g E7 true (.mov E6),g E7 true (.len L0),g E7 true (.bin .geq L1 V1),eI E7 L2 Vf,NE,g L3 true (.len L4),g L3 true (.bin .leq L5 up),wh] [(4,E6),(5,L7)]) .ret)) (au (ax [gr AX vP] [(30,L0)]) (co E30 (au (ax [] [(4,E1),(5,Vt)]) .ret) (au (ax [gr AX ww] [(31,L0)]) (co E31 (au (au (ax [HC,uV E2,pT L0 L1] [(32,L2)]) (co E32 (au (ax nO [(4,L0),(5,Vf)]) .ret) .skip)) (au (au (ax [] [(16,V0)]) (dg 9 (.loop [17,33,34] qS))) (au (ax [] [(4,E6),(5,E7)]) .ret))) .skip)))))))))))))))) (au (au (ax [] [(18,V0)]) (dg 11 (.loop [35] ui))) (au (ax [U5,JJ,g E7 true (.len L1),V6,eI E7 L3 Vf,g L4 true (.fld 11 E3),BH,g L4 true (.bin .geq L6 gY),Ja,g L8 true (.fld 11 E3),Pa,g L8 true (.bin .leq fP T9),eI L8 iS Vf] [(4,E1),(5,ml)]) .ret)))))
def anI:aM:=⟨36,3,.trunc,[.env 4,.env 5],kF⟩
def DE:av:=au Af (au rW (au (dg 1 (au (ax [] [(5,E8)]) (au (ax [fI,aS,fr 8 L1 E5,iz 8 L2,iA,lH,fr 8 L5 E5,iz 8 L6,i (.eqa true [0,0,0,0,0,0,0,2] L3 L7)] [(10,L8)]) Xb))) rM))
def abU:av:=au (ax [sh,mS] wc) (au (au (ax [fI,aS,eR,iA,ed,rE,pT L2 L5] [(6,L6)]) (co E6 rK .skip)) (au (au (ax Bi [(7,L2),(8,V0)]) (dg 0 (.loop [4,5,9,10] DE))) Oc))
def apB:aM:=⟨11,2,.pure,[.env 4],abU⟩
def DH:av:=au OJ (au Gx (au (dg 1 (au (ax [] [(3,E6)]) (au (ax [wt,ij,fr 1 E1 E3,mU,cW 248 [L1,L3],i (.una .not L4)] [(8,L5)]) Jv))) BZ))
def aaa:av:=au iE (au Jt (au (au O5 (dg 0 (.loop [2,3,7,8] DH))) uE))
def ap0:aM:=⟨9,2,.pure,[.env 2],aaa⟩
def aiX:av:=au (ax Is KB) (au (ax Is iD) (au (ax [cW 124 [E0],BD,KN,xK 2 L0] [(6,L1),(7,L2),(8,L3)]) (au (au (ax GA tw) (co oG (au (ax [iz 3 E5,OQ] [(3,E7),(4,E8)]) .ret) .skip)) (au (ax [wP,mD [.ai,n0,n0,n0] [(0,1,E6),(1,1,L0)],mz 4 L1] yP) (au (ax [i (.callv E1 [E9]),Kg,ez 3 L1 L0] [(10,L1)]) (au (au (ax [Mq E9,g8,dr,qj,FI] [(12,L4)]) (co rh (ax [cW 108 [E9],cW 192 [E9,v (.int .i64 190),L0]] []) .skip)) (au (au (ax [Mq E9,ei 3 L0,dr,pT L2 V0] [(13,L3)]) (co iv (au (xW [iz 3 E5,Mq E9,ei 2 L1,dL,Mq E9,ei 3 L4,mv,OQ] [(3,L3),(4,L6)] [(1,8),(2,8),(3,8),(4,8),(5,8),(6,8)]) .ret) .skip)) (au (ax [iz 3 mc,OQ] [(3,V0),(4,V0)]) .ret))))))))
def aqT:aM:=⟨14,2,.pure,[.cell true 3 2,.env 3,.env 4],aiX⟩
def Yq:av:=au (au (ax [lX 1 [Vq],Nw] tq) (co E3 .skip gZ)) (dg 1 (au (au (ax [fI,aS,eR,gr L2 fT] [(4,L3)]) (co E4 N2 .skip)) (au Fh (au (ax [lX 1 [v (.str [65,76,76])],wK] []) (xW [fI,aS,cW 128 [E0],lX 9 [L2],oE 9 L1 L3,fI,ez 1 L5 L4] [] [(0,3),(1,3)])))))
def ajL:av:=au (ax Is lN) (au (ax [cW 128 [E0],KC,mD [.ai,.ai,n0] [(0,1,L1),(2,1,gY)],Kg,ez 3 L3 L2] rB) (au (dg 0 (.loop [3,4] Yq)) (au (au (ax [cW 18 [E0,V1,V7]] iD) (co E5 (au (ax [lX 1 [v (.str [66,89])],wK] []) (ax [i (.mkfn 194 [E0] []),cW 195 [E0,fT,L0],fw,mC] [])) .skip)) (au (au (ax [cW 18 [E0,V1,TD]] iH) (co E6 (ax [cW 193 [E0],nT,rT] []) .skip)) (au (ax [iz 3 E2,ez 3 E1 L0] []) .ret)))))
def aqn:aM:=⟨7,1,.keep,[.cell true 3 1],ajL⟩
def acf:av:=au ES (au yj (au (dg 1 (au (ax [fr 3 E5 E7,Ju,mz 3 (v (.agg [.str [],n0,nf])),PC] sI) (ax [TM,Iu,g E3 true (.bin .eql L1 jM),g E3 true (.mov L2),g L3 true (.fld 1 E4),p8,g L3 true (.call 196 [L5] false),g E3 true (.pick L3 L6 Vf),g E3 true (.mov L7),g L8 false (.fld 0 E4),JW,g L8 false (.call 11 [fP] false),g L8 false (.mov iS),g ml true (.fld 1 E4),Xd,g ml true (.bin .eql mi V0),g L8 false (.pick ml wu Vf),g E3 true (.pick L8 Vt sn),eI E3 pO Vf] [(3,AU)]))) EY))
def alK:av:=au (ax A2 [(1,L0),(2,V0)]) (au (ax [gn,aS,eR,JO L2 V0,WA,p8,Jg,g L3 true (.bin .leq L6 fT),JT,g L8 true (.fld 1 E1),Pa,U9,g L8 true (.bin .leq iS fT),eI L8 ml Vf,g lT true (.fld 2 E1),g lT true (ld mi),g lT true (.bin .eql wu gY),g lT true (.mov sn),g pO false (.fld 2 E1),g pO false (ld AU),g pO false (.call 196 [CR] false),g lT true (.pick pO Vt AZ),eI lT CY Vf] [(3,AT)]) (au (au (ax Ov [(5,L1),(6,L2),(7,V0)]) (dg 0 (.loop [4,8] acf))) (au (au (ax [Bb,TN,QJ,g L0 false (.call 136 [L2,v (.fn 138 [] [])] false),IL] [(9,L4)]) (co E9 (au (ax [] [(2,v (.int .i64 180))]) .ret) .skip)) yr)))
def anD:aM:=⟨10,1,.pure,[.env 2],alK⟩
def acl:av:=au (ax [jW E5 vP] iH) (au ow (au (dg 1 (au (ax [i (.idxv false 6 1 E4 E5)] iq) (au (ax [i (.callv E3 [])] gU) (au (ax [pT E2 V0] kz) (co E7 gZ .skip))))) pb))
def ale:av:=au ms (.scope (au kx (au (au (ax [i (.mkfn 142 [E0] []),i (.mkfn 146 [E0] []),i (.mkfn 147 [E0] []),i (.mkfn 149 [E0] []),i (.mkfn 150 [E0] []),i (.mkfn 168 [E0] []),mD [.nilf,.nilf,.nilf,.nilf,.nilf,.nilf] [(0,1,L0),(1,1,L1),(2,1,L2),(3,1,L3),(4,1,L4),(5,1,L5)]] [(4,L6),(5,V0)]) (dg 0 (.loop [3,6,7] acl))) Cb)))
def aqt:aM:=⟨8,1,.keep,[.env 1],ale⟩
def Z0:av:=au B1 (au yW (au (dg 1 (au (ax [D0,ij,fG,mC] sI) (au (ax [GS,cW 41 [L0,E2],lw,lq] nN) (ax [lX 1 [E5],oE 1 E3 L0] tq)))) wH))
def afO:av:=au kA (au (ax [cf,ei 22 L0,dr] oU) (au (au (ax [cf,ux,ei 4 L1,dL] By) (co E6 (ax [cf,ei 23 L0,dr] oU) .skip)) (au NZ (au (au (ax [cf,ux,Fa,dL,yo] [(7,L3),(8,L4),(9,V0)]) (dg 0 (.loop [4,5,10] Z0))) (au (ax [] [(1,E3)]) .ret)))))
def arw:aM:=⟨11,1,.pure,[.env 1],afO⟩
def YV:av:=au Bj (au Nm (au (dg 5 (au (ax [II,lI,AH,mT] nN) (au (ax [wI,aS] po) (au (au (ax [lQ,g8,dr,lQ,ei 0 L3,lH,uV L5,CT L6 V1,fr 9 L2 L7,iz 9 L8,DU,ez 9 fP L9] [(7,fP)]) (au (ax [gr E6 jM] [(21,L0)]) (co KR (ax [ei 8 E7,aS] po) .skip))) (ax [lX 1 [E6],oE 1 E2 L0] my))))) Br))
def ZJ:av:=au B0 (au Iz (au (dg 3 (au (ax [fr 2 iv xN,lI,BU,mT] sI) (ax [tC,aS,uJ,oE 1 E2 L2] rB))) A5))
def YL:av:=au BL (au Bw (au (dg 1 (au (ax [fr 1 E9 oG,aS] tq) (au (ax [cf,g8,vW,dL,fr 3 L3 E3,DA,mv,uV L6] [(13,L6),(14,L7),(15,V0)]) (dg 2 (.loop [4,16] ZJ))))) BQ))
def ahM:av:=au kA (au (ax tG gU) (au (au (ax QP [(8,L3)]) (co E8 (au (ax [cf,ux,vW,dL,yo] [(9,L3),(10,L4),(11,V0)]) (dg 0 (.loop [3,4,12,13,14,15,16] YL))) .skip)) (au (au (ax QT [(17,L3),(18,L4),(19,V0)]) (dg 4 (.loop [5,6,7,20,21] YV))) Cb)))
def aq0:aM:=⟨22,1,.pure,[.env 1],ahM⟩
def abB:av:=au lg (au (ax [KQ E0 (v (.int .u8 97)),u7,g L0 true (.bin .leq L1 (v (.int .u8 122))),tQ] qy) .ret)
def apX:aM:=⟨2,1,.pure,[.env 1],abB⟩
def aaX:av:=au lg (au (ax [cW 261 [],cW 262 [L0,E0]] qh) .ret)
def ao6:aM:=⟨2,1,.pure,[.env 1],aaX⟩
def zv:av:=au (au (ax [wP,jW E3 L0] vj) F0) (au (dg 1 (au (ax [i (.idxt E0 E3)] gp) (au (au (ax [cW 250 [E4]] iH) (co E6 (ax [CT E4 (v (.int .u8 97)),pZ L0 (v (.int .u8 65))] tk) .skip)) (ax [lX 1 [E4],oE 1 E2 L0] my)))) Gh)
def abC:av:=au EG (au (ax tG gU) (au (au yU (dg 0 (.loop [4,5,6] zv))) (au (ax [i (.b2s E2)] lN) .ret)))
def apF:aM:=⟨7,1,.pure,[.env 1],abC⟩
def abN:av:=au lg (au (ax [KQ E0 (v (.int .u8 48)),u7,g L0 true (.bin .leq L1 (v (.int .u8 57))),tQ] qy) .ret)
def apD:aM:=⟨2,1,.pure,[.env 1],abN⟩
def Ra:av:=au mQ (au (ax [Tw 8,pc,F3,i (.slice 8 E0 none (some L2)),oE 8 L0 L3] AV) .ret)
def aoq:aM:=⟨3,2,.fresh 8,[.env 2],Ra⟩
def sz:av:=au (ax [i (.nexts E4),BD] [(5,L0),(6,L1)]) (au ow (dg 1 (au (ax [xK 2 E5] gU) (au (ax [cW 3 [E2],zZ,g L1 true (.mov E2),g L1 true (.call 1 [L2] false),g L1 true (.una .not L3),Di,g L5 true (.mov E2),g L5 true (.bin .neq L6 (v (.int .i32 95))),eI L5 L7 Vf] [(7,L8)]) (co E7 Eh .skip)))))
def Cx:av:=au lg (au (au (ax [gr E0 jM,ln,g L0 false (.lent L1),g L0 false (.bin .gtr L2 up),IL,g L4 false (.mov E0),g L4 false (.idxt L5 V0),g L4 false (.conv .i32 L6),g L4 false (.call 1 [L7] false),T2,Kz,Pi,g fP false (.call 8 [iS] false),g fP false (.call 9 [ml] false),eI fP Vt lT] [(3,mi)]) (co E3 Eh .skip)) (au (au (ax [i (.rngs E0)] gp) (dg 0 (.loop [1,2,5,6,7] sz))) Ob))
def anW:aM:=⟨8,1,.pure,[.env 1],Cx⟩
def xf:av:=au Af (au rW (au (dg 1 (au (ax UQ [(4,L2),(3,E8)]) (au (ax [iz 2 E4,i (.callv E1 [L0]),cW 36 [E0,E1,L1],sq,mm] yL) (au (ax [pT E5 E3,Bu,g L0 false (.load true 2 E4),Up,Uf,Ws,yO] [(10,L6)]) Wt)))) rM))
def Wu:av:=au iE (au (au Ow (dg 0 (.loop [2,3,4,5,9,10] xf))) uE)
def aoL:aM:=⟨11,2,.pure,[.env 2],Wu⟩
def abA:av:=au (ax sE [(1,L0),(2,jM)]) NR
def ao9:aM:=⟨3,1,.pure,[.env 2],abA⟩
def xa:av:=au (ax [jW E4 fT] iD) (au F0 (au (dg 1 (au (ax [i (.idxv true 3 2 E3 E4),BU,uI] my) (au (ax [fw,aS,gr L1 E0] u0) (co E6 (au (ax [fI,aS] qh) .ret) .skip)))) Gi))
def aaA:av:=au EG (au (au (ax [iz 6 (v (.cptr false gl0 0))] [(3,L0),(4,V0)]) (dg 0 (.loop [1,2,5,6] xa))) (au EG .ret))
def apW:aM:=⟨7,1,.pure,[.env 1],aaA⟩
def qK:av:=au oA (au ow (au (dg 1 (au qR (au (ax [fr 3 E0 E3,Ju,uv] lL) qY))) pb))
def Wb:av:=au kx (au (au ou (dg 0 (.loop [2,3,6,7] qK))) mE)
def aoN:aM:=⟨8,2,.pure,[.env 2],Wb⟩
def aa3:av:=au (ax [mS,mz 1 E2] [(3,L0),(4,L1),(5,V0),(6,Vf)]) (au (ax [i (.mkfn 30 [] [E3,E4]),cW 29 [E0,L0]] rD) (au (ax [i (.maxs E7 [V0]),KQ E7 V0] [(5,L0),(6,L1)]) .ret))
def apu:aM:=⟨8,3,.pure,[.env 5,.env 6],aa3⟩
def Aj:av:=au Bj (au Qa (au (dg 3 (au (ax [fr 12 AJ AX,iz 12 L0,ql,Ng] [(10,L2)]) (ax [lQ,aS,iz 12 mc,cW 69 [L2,E9],lX 12 [L3],oE 12 L1 L4,lQ,PK] []))) Br))
def nM:av:=au Jn (au Jz (au (dg 1 (au (ax [fr 1 rh vD,ij,fG,mC] [(7,L2),(6,vD)]) (au (au (ax [qw,cW 85 [L0],lw,lq] [(8,L3)]) (au (ax GA EL) (co yb (au (ax AY [(4,E8)]) .ret) .skip))) (au (ax Uk yP) (au (au (ax [xj,aS,eR] Gt) (dg 2 (.loop [10,20] Aj))) (au (ax BA [(21,L0)]) (co KR (ax [lQ,aS,eR,CT L2 V1,fw,yi] []) (ax [lQ,aS,eR,CT L2 V1,nT,yi] [])))))))) IN))
def R5:av:=au (ax Ns DG) (au (ax [fw,J6,nT,ez 1 L2 gY] []) (au (ax zd iD) (au (au (.lift 5 0 12 (ax CH [(12,E1),(13,L0),(14,V0)])) (dg 0 (.loop [4,6,7,8,9,10,15,16,17,18,19,20,21] nM))) (au (ax [lQ,aS,Fg,cW 69 [L2,V0],lX 12 [L3],oE 12 L1 L4,lQ,PK] []) (au (au (ax [t8 E5,cW 85 [L0],lw,lq] [(11,L3)]) (au (ax [pT oG V0] [(22,L0)]) (co O4 (au (ax AY [(4,oG)]) .ret) .skip))) (au (ax [t8 E5,Jl] [(4,V0)]) .ret))))))
def aou:aM:=⟨23,2,.pure,[.cell true 1 3,.env 4],R5⟩
def U4:av:=au (ax zd [(2,L0),(3,V0)]) (au (ax [cf,g8,t8 L1,lX 1 [E1],cW 175 [L2,L3],nX,nF] [(4,L5),(5,L6)]) (au (au (ax [pT E5 V0] iH) (co E6 (au (ax [yF,B9] [(3,E5)]) .ret) .skip)) (au (ax [mD [n0,n0,n0,n0,.ai,nf,.ai,.ai,.ai,.ai,.ai,n0] [(0,1,V1),(3,1,E1),(4,1,E4)],cW 178 [L0],lw,lq,D4] tD) .ret)))
def ao2:aM:=⟨7,2,.pure,[.cell true 1 2,.env 3],U4⟩
def WY:av:=au (ax [mz 12 E2] iq) (au (ax [] [(4,E1)]) (co E4 (ax [Es,cW 118 [E0,L0,Vn]] []) .skip))
def aoE:aM:=⟨5,3,.keep,[],WY⟩
def aa4:av:=au (ax wD [(1,L0),(2,v .nilf)]) (au (.lift 0 1 1 (.lift 0 2 1 (ax [i (.mkfn 79 [] [E1])] gU))) .ret)
def ape:aM:=⟨3,1,.keep,[.env 2],aa4⟩
def abh:av:=au I9 (au (ax [uy,cW 263 [L0],jW L1 V0] oU) .ret)
def apJ:aM:=⟨3,1,.pure,[.env 2],abh⟩
def aa5:av:=au (ax [tj,ql] Bp) (au (au (ax RT sI) (co E4 (ax [fw,aS,pZ L1 E1,fw,sY] []) .skip)) (au (au (ax Ro nN) (co E5 (ax [nT,aS,pZ L1 E1,nT,sY] []) .skip)) (au (ax [Fg,ez 12 E3 L0] []) .ret)))
def ap1:aM:=⟨6,2,.pure,[.cell true 12 3],aa5⟩
def yd:av:=au ms (au (au I6 (dg 0 (au Pg (co E3 sD (au (au (ax [gr E2 dS] gp) (co E4 .skip (ax [gr E2 ww] gp))) (co E4 Dc (au (au (ax [gr E2 fT] iD) (co E5 .skip (au (ax [gr E2 gh] iD) (co E5 .skip (au (ax [gr E2 ig] iD) (co E5 .skip (au (ax [gr E2 vP] iD) (co E5 .skip (ax [gr E2 xR] iD))))))))) (co E5 zy .skip)))))))) zJ)
def anR:aM:=⟨6,1,.pure,[.env 1],yd⟩
def MS:av:=au Xf (au (ax [jI,cW 260 [L0,E1],lw,lq] [(4,L2),(5,L3)]) (au (ax [gr E5 V0,Jx,aaf,Q8,Rm,g L3 false (.bin .eql L4 V1),Jo,Kn] [(3,L7)]) .ret))
def aod:aM:=⟨6,2,.pure,[.env 3],MS⟩
def wL:av:=au (ax sE [(2,L0),(3,V0),(4,Vf)]) (au (au (ax [fI,aS,zF] lL) (co E7 (au (ax [fw,g8,dr,qj,gr L3 V0] [(3,dS),(4,L4)]) .ret) .skip)) (au (ax [fw,ij,cW 260 [L1,E1],sq,mm] [(5,L3),(6,L4)]) (au (au (ax [fI,aS,jW L1 V1,OT,yI,g L2 false (.bin .gtr L4 ig),C1,Rp,g L6 false (.bin .neq L7 V0),eI L6 Vt L8] [(8,L9)]) (co E8 I5 .skip)) (au (au (ax [fI,aS,gr L1 fT,g L2 true (.mov E5),g L2 true (.bin .neq L3 dS),eI L2 L4 Vf,g L5 true (.mov E5),g L5 true (.bin .neq L6 V0),eI L5 L7 Vf] [(9,L8)]) (co E9 I5 .skip)) (au (au (ax [fI,aS,KQ L1 gh] [(10,L2)]) (co mc (au (ax [] [(3,E5),(4,Vt)]) .ret) .skip)) (au (ax [] [(3,dS),(4,Vt)]) .ret))))))
def anP:aM:=⟨11,2,.pure,[.env 3,.env 4],wL⟩
def oe:av:=au (ax [jW Z8 E25] [(27,L0)]) (au (co E27 .skip FE) (au (dg 5 (au (ax [fr 8 E24 Z8,zu,xn,zY] Ii) (dg 6 (au (ax [Qg,aS,zF] [(30,L2)]) (co E30 (ax [ei 4 E8,g8,dr,lX 1 [L2],oE 1 E7 L3] [(7,L4)]) (au (ax [Qg,aS,Aq] [(31,L2)]) (co E31 (ax [ei 3 E8,aS,fr 1 E1 L1,dL,Fi,oE 1 E7 L4] [(7,L5)]) (au (ax [Dj,aS,Jm,dL] [(9,L3),(10,V0)]) (au (au (ax QM [(28,L2)]) (co E28 (ax [DR,aS,Jm,dL] [(10,L3)]) .skip)) (au (ax [Qg,aS,cW 264 [L1,E9,mc],sq,mm] [(11,L3),(12,L4)]) (au (au (ax [i (.una .not rh)] [(29,L0)]) (co XE (au (ax [] [(3,V0),(4,v (.int .i64 201))]) .ret) .skip)) (ax [PA,oE 1 E7 L0] rD)))))))))))) (ax [pZ Z8 V1] [(26,L0)])))
def sy:av:=au R0 (au KE (au (dg 3 (au (ax [fr 8 AX KR,zu,xn,zY] u0) (au (ax [ei 0 E6,aS,Aq,g L2 true (.fld 3 E6),kT,Kp,Pt,g L2 true (.bin .geq L4 L6),Nr] [(23,L8)]) (co UX (au (ax [] [(3,V0),(4,dS)]) .ret) .skip)))) RY))
def sJ:av:=au IE (au NP (au (dg 1 (au (ax [fr 1 vD yb,aS] vj) (au (ax [jW E5 V0,JK,QG,ov] [(18,L3)]) (co Ec (au (ax [] [(3,V0),(4,dS)]) .ret) .skip)))) EB))
def Ht:av:=au (ax wD KB) (au (au (ax [jI,cW 265 [L0],tn] [(13,L2)]) (co iv (au (ax [] [(3,V0),(4,v (.int .i64 200))]) .ret) .skip)) (au (au (ax CH [(14,E1),(15,L0),(16,V0)]) (dg 0 (.loop [3,4,5,17,18] sJ))) (au (au (ax Bi [(19,L1),(20,L2),(21,V0)]) (dg 2 (.loop [3,4,6,22,23] sy))) (au (ax tG kz) (au (au (ax Bi [(24,L1),(25,L2),(26,V0)]) (dg 4 (.loop [3,4,8,9,10,11,12,27,28,29,30,31] oe))) (au (ax [uV E7,Dp,Jm,dL] [(3,L3),(4,V0)]) .ret))))))
def an0:aM:=⟨32,2,.pure,[.env 3,.env 4],Ht⟩
def ED:av:=dg 1 (au (au (ax Kr tw) (co oG (au (xW [wI,aS,ez 1 E1 Vn,ez 1 E2 L1,ez 1 E3 (v (.int .i64 170))] [] [(0,3),(1,3)]) .ret) .skip)) (ax [so E4,iz 4 E5,lX 4 [L1],oE 4 L0 L2,Pu] []))
def CV:av:=au (ax [xA,ez 4 L0 E9] iD) (ax [] [(6,mc)])
def ahv:av:=au (ax [mz 1 Vn,mz 1 V0,mz 1 V0] [(1,L0),(2,L1),(3,L2)]) (au (au (ax [wP,JO L0 (v (.int .i64 600))] rD) (co E7 (au (ax [ez 1 E1 Vn,ez 1 E2 V0,ez 1 E3 fT] []) .ret) .skip)) (au (ax [mz 1 Vn] gp) (au (au (.lift 4 0 4 (ax [cW 125 [E0]] uB)) (dg 0 (.rng 12 E8 59))) (au (ax [so E4,ez 1 E1 L0,ez 1 E2 V0,ez 1 E3 V0] []) .ret))))
def aqC:aM:=⟨12,1,.pure,[.cell false 1 1,.cell false 1 2,.cell false 1 3],ahv⟩
def Gf:wM:=⟨12,[9,10],CV,ED⟩
def aj3:av:=au ms (au (au (ax [cf,g8,dr,qj,gr L3 V0] AV) (co E2 (au (ax [cf,gX,dr] xe) .ret) .skip)) (au (ax [cf,g8,dr,Dy,ei 1 L3,lH] [(1,L5)]) .ret))
def aq8:aM:=⟨3,1,.pure,[.env 1],aj3⟩
def aiw:av:=au (ax [OC] lN) (au (ax [lX 1 [Rz],wK] []) (au (ax [cW 18 [E0,V1,Qp],mD [nf,nf,.ai,.str [],.str [],.ai,.ai,.ai,.ai] [(0,1,L0)],OC,Ph] oU) (au (au (ax [cW 18 [E0,ig,v (.str [42])],fw,rT] []) (au (ax [fw,aS,tn] qM) (co E3 (ax [i (.mkfn 130 [E0] []),cW 129 [E0,vP,L0],nT,mC] []) .skip))) (au (ax [lX 1 [QL],wK] []) (au (ax [cW 131 [E0],EE,uI] []) (au (ax [cW 132 [E0],ei 5 E2,rT] []) (au (au (ax [cW 18 [E0,V1,RW]] gp) (co E4 (ax [Dl,Bc,rT] []) .skip)) (au (au (ax [cW 18 [E0,V1,Rl]] iD) (co E5 (au (ax [lX 1 [v (.str [66,89])],wK] []) (ax [i (.mkfn 113 [E0] []),cW 197 [E0,fT,L0],uF,mC] [])) .skip)) (au (au (ax [cW 18 [E0,V1,RX]] iH) (co E6 (ax [Dl,Bh,rT] []) .skip)) (au (ax [iz 9 E2,ez 9 E1 L0] []) .ret))))))))))
def aql:aM:=⟨7,1,.keep,[.cell true 9 1],aiw⟩
def afr:av:=au TK (au (au (ax [cf,ei 3 L0,dr,pT L2 V0,Js,g L3 false (.nilck L4),g L3 false (.fld 0 L5),g L3 false (ld L6),g L3 false (.len L7),g L3 false (.bin .eql L8 V0),eI L3 Vt L9,Pi,g fP false (.nilck iS),g fP false (.fld 0 ml),TO,g fP false (.idxs 4 mi V0),g fP false (.fld 0 wu),g fP false (ld sn),g fP false (.mov E1),g fP false (.bin .neq pO AU),eI fP Vt CR] [(4,AZ)]) (co E4 CG .skip)) (au (ax [uV E2,gr L0 V0,QS,NU,g L1 false (.nilck L3),g L1 false (.fld 0 L4),g L1 false (ld L5),g L1 false (.idxs 4 L6 V0),g L1 false (.fld 2 L7),g L1 false (ld L8),g L1 false (.call 5 [L2,L9] false),eI L1 Vt fP] [(3,iS)]) .ret))
def aqi:aM:=⟨5,3,.pure,[.env 3],afr⟩
def aja:av:=au (ax [xA] lN) (au (ax [cf,g8,dr,Dy,iz 4 L3,xA,ez 4 L5 L4] [(2,L5)]) (au (ax [cf,g8,dr,i (.slice 4 L2 (some V1) none),cf,ei 0 L4,zo] []) (au (ax [iz 4 E2,ez 4 E1 L0] []) .ret)))
def aqQ:aM:=⟨3,1,.keep,[.cell true 4 1],aja⟩
def aeV:av:=au (ax [xA] iq) (au (au (ax [cW 4 [E0,E1,E2],zZ] tk) (co E4 (au (ax [Oe,cW 192 [E0,v (.int .i64 190),L0]] []) (au (ax [RQ,ez 4 E3 L0] []) .ret)) .skip)) (au (ax [Bv,ez 4 E3 L0] []) .ret))
def aqr:aM:=⟨5,3,.keep,[.cell true 4 3],aeV⟩
def ahl:av:=au TK (au (au (ax [lX 1 [E2],cW 4 [E0,E1,L0],tn] sI) (co E4 CG .skip)) (au Fh (au (ax [] [(3,Vt)]) .ret)))
def aqe:aM:=⟨5,3,.keep,[.env 3],ahl⟩
def ahn:av:=au iE (au (ax [cW 137 [E0,E1],wn] my) .ret)
def aqS:aM:=⟨3,2,.pure,[.env 2],ahn⟩
def ama:av:=au DI (au (ax [iz 9 E1,cW 139 [L0],tn] oU) .ret)
def anx:aM:=⟨3,1,.pure,[.env 2],ama⟩
def ad0:av:=au (ax [jW O4 dS] Mb) (au (co UX .skip (.exit 6)) (au (dg 7 (au (ax [i (.idxv true 2 1 KR O4),fG,rT] rD) (ax [g E3 true (.fld 0 E7),Iu,g E3 true (.len L1),g E3 true (.bin .eql L2 V0),g E3 true (.mov L3),g L4 false (lt E7),g L4 false (.mkl 1 [L5]),g L4 false (.call 114 [L6] false),g E3 true (.pick L4 Vt L7),eI E3 L8 Vf] [(3,L9)]))) (ax [pZ O4 V1] [(22,L0)])))
def acu:av:=au Bj (au Nm (au (dg 5 (au (ax [II,lI,uH,mT] u0) (ax [g E3 true (.fld 1 E6),Iu,g E3 true (.call 11 [L1] false),eI E3 L2 Vf,g L3 true (.fld 0 E6),p8,g L3 true (.call 68 [L5] false),wh] [(3,L7)]))) Br))
def acd:av:=au B0 (au Iz (au (dg 3 (au (ax [fr 4 iv xN,sB,JS,Ix] nN) (ax [g E3 true (.fld 3 E5),g E3 true (lt L0),Q9,Rr,Ps,g L4 true (.fld 1 E5),g L4 true (.load true 2 L5),g L4 true (.call 140 [L6] false),Ja] [(3,L8)]))) A5))
def adV:av:=au BL (au Bw (au (dg 1 (au (ax [fr 2 E9 oG,lI,AH,mT] sI) (ax [TM,g E3 true (lt L0),Q9,Rr,Ps,g L4 true (.fld 1 E4),BH,RH,Ja] [(3,L8)]))) BQ))
def amq:av:=au DI (au (au (ax [lP,aS,qb,dL,yo,gr L4 V0,i (.eqb true L1 L5),g L6 false (.fld 2 E1),BP,O7,g L6 false (.bin .gtr L9 vP),eI L6 Vt fP,g iS false (.fld 5 E1),V4,g iS false (.len lT),g iS false (.bin .gtr mi dS),eI iS Vt wu,g sn false (.fld 8 E1),Wz,g sn false (.len AU),g sn false (.bin .gtr CR fT),eI sn Vt AZ] [(8,CY)]) Jv) (au (ax [qa,lI,cW 140 [L1]] qM) (au (au (ax Wk [(9,L1),(10,L2),(11,V0)]) (dg 0 (.loop [4,12] adV))) (au (au (ax [ei 5 E1,aS,eR] Jr) (dg 2 (.loop [5,16] acd))) (au (au (ax [yp,aS,eR] Gt) (dg 4 (.loop [6,20] acu))) (au (au (ax [yu,ij,uN,mU,mD [.ai,.ai] [(0,1,L1),(1,1,L3)]] [(21,L4),(22,V0)]) (dg 6 (.loop [7,23] ad0))) Kc))))))
def anE:aM:=⟨24,1,.pure,[.env 2],amq⟩
def ahL:av:=au ms (au (ax [cf,xc,ez 1 L1 V0] []) (au (ax [cf,gX,ei 3 L1,Ei,cW 143 [E0,L3]] [(1,L4)]) .ret))
def ars:aM:=⟨2,1,.keep,[.env 1],ahL⟩
def ZX:av:=au Af (au rW (au (dg 1 (au (ax [fr 4 E6 E8,sB,JS,Ix] oU) (au (au (ax [fw,lI,cW 143 [E0,L1]] qM) (au (ax [pT E3 V0] px) (co mc (au (ax [] [(1,E3)]) .ret) .skip))) (au (ax [EE,ij,cW 166 [E0,L1,Vf],sq,mm,fG,zo] [(4,L5),(5,L4)]) (au (au (ax [pT E5 V0] tw) (co oG (au (ax [] [(1,E5)]) .ret) .skip)) (ax [cf,ux,FQ,dL,fI,lH,GS,mD [nf,.ai] [(0,1,L5),(1,1,L6)],lX 2 [L7],oE 2 L3 L8,cf,ei 10 fP,ei 1 iS,ez 1 ml L9] [])))))) rM))
def agp:av:=au ms (au (ax [cf,xc,ez 1 L1 V1] []) (au (au (ax [cf,gX,ei 5 L1,dL,yo] [(6,L3),(7,L4),(8,V0)]) (dg 0 (.loop [1,2,3,4,5,9,10,11] ZX))) sD))
def arx:aM:=⟨12,1,.keep,[.env 1],agp⟩
def afM:av:=au ms (au (ax [cf,xc,ez 1 L1 dS] []) (au (au (ax [cf,gX,ei 6 L1,rR,ed,rE,JO L5 V0] qG) (co E2 (ax [cf,gX,ei 6 L1,mU,cW 166 [E0,L3,Vf],nX,nF,cf,Ds,ei 2 L8,ez 1 L9 L5] [(1,L6)]) .skip)) (au (ax [] [(1,E1)]) .ret)))
def aqx:aM:=⟨3,1,.keep,[.env 1],afM⟩
def Zp:av:=au ES (au yj (au (dg 1 (au (ax [fr 2 E5 E7,lI,uH,mT] oU) (au (ax [DW,cW 94 [E0,L0],lw,lq] [(3,L2),(4,L3)]) (au (au (ax [pT E4 V0] sd) (co E9 Je .skip)) (xW [cf,ux,ei 6 L1,dL,lX 1 [E3],oE 1 L3 L4,cf,ei 23 L6,so L7,cf,ei 22 L9,so fP,fr 1 iS E3,FV,lX 1 [lT],oE 1 L8 mi,cf,ei 10 sn,ei 6 pO,ez 1 AU L5,cf,ei 23 AZ,ez 1 CY wu] [] [(6,0),(7,0),(8,0),(9,0),(10,0),(11,0),(12,0),(13,0)]))))) EY))
def af3:av:=au ms (au (ax [cf,xc,ez 1 L1 fT] []) (au (au (ax [cf,gX,Fa,dL,yo] [(5,L3),(6,L4),(7,V0)]) (dg 0 (.loop [1,2,3,4,8,9] Zp))) sD))
def aqd:aM:=⟨10,1,.keep,[.env 1],af3⟩
def ZL:av:=au IE (au (co AJ .skip mX) (au (dg 3 (au (ax [fr 2 vD yb,lI,AH,mT] nN) (au (xW [lQ,ij,cf,ei 10 L2,ei 4 L3,lH,cW 93 [E0,L1,L5],yf,yQ,xK 2 L6,fG,ez 1 fP L7] [(6,fP),(7,L9)] [(0,11),(1,11),(2,11),(3,11),(4,11),(5,11),(6,11)]) (au (au (ax [pT E7 V0] th) (co Ec (au (ax [] [(1,E7)]) .ret) .skip)) (ax [cf,ux,Fa,dL,t8 E6,lX 1 [L4],oE 1 L3 L5,cf,Ds,ei 8 L8,ez 1 L9 L6] []))))) EB))
def YJ:av:=au BL (au Bw (au (dg 1 (au (ax [] [(2,oG)]) (au (ax [mD [n0,n0,n0,n0,n0,n0,.int .u64 0,.str []] [(0,1,dS),(3,1,E2)],cW 101 [L0],lw,lq,fG,ez 1 L4 L2] [(3,L4),(4,L3)]) (au (au (ax [pT E4 V0] vQ) (co iv Je .skip)) (ax [cf,ux,Fa,dL,tx,lX 1 [L4],oE 1 L3 L5,cf,Ds,ei 8 L8,ez 1 L9 L6] []))))) BQ))
def ahY:av:=au ms (au (ax [cf,xc,ez 1 L1 gh] []) (au (ax [cf,gX,vW,dL,cf,DA,iz 9 L5,cW 151 [L6],cf,ei 10 L8,ei 5 L9,ez 1 fP L3,cf,ei 10 ml,ei 4 lT,ez 1 mi L7] []) (au (au (ax [cf,gX,FQ,dL,KP,g L3 true (.nilck L4),g L3 true (.fld 10 L5),g L3 true (.fld 4 L6),g L3 true (ld L7),eI L3 L8 Vf] [(8,L9)]) (co E8 (au (ax [] [(1,v (.int .i64 227))]) .ret) .skip)) (au (au (ax QP [(9,L3)]) (co E9 (au (ax P7 [(10,L3),(11,V0)]) (dg 0 (.loop [1,2,3,4,12,13] YJ))) .skip)) (au (au (ax QT [(14,L3),(15,L4),(16,V0)]) (dg 2 (.loop [1,5,6,7,17,18] ZL))) sD)))))
def aqv:aM:=⟨19,1,.keep,[.env 1],ahY⟩
def ah3:av:=au ms (au (ax [cf,xc,ez 1 L1 ig] []) (au (au (ax [cf,gX,ei 7 L1,rR,ed,rE,JO L5 V0] qG) (co E2 (ax [cf,gX,ei 7 L1,mU,cW 166 [E0,L3,Vt],nX,nF,cf,Ds,ei 3 L8,ez 1 L9 L5] [(1,L6)]) .skip)) (au (ax [] [(1,E1)]) .ret)))
def aqg:aM:=⟨3,1,.keep,[.env 1],ah3⟩
def AR:av:=au (ax [jW AJ yb] th) (au (co Ec .skip mX) (au (dg 3 (au (ax [fr 1 xN AJ,aS] ua) (au (ax [so E3,uV L0,KQ E8 L1] [(19,L2)]) (co AX (au (ax [] [(4,V0),(5,dS)]) .ret) .skip)))) (ax [pZ AJ V1] [(17,L0)])))
def HF:av:=au Ad (au Dh (au (dg 1 (au (ax [fr 1 mc rh,aS] rD) (au (ax [jW E7 V0,QI,QG,ov] [(14,L3)]) (co vD (au (ax [] [(4,V0),(5,dS)]) .ret) .skip)))) Ao))
def Mv:av:=au (ax [sh,mS] UV) (au (au (ax [jI,Do] po) (au (ax Ew sd) (co E9 (au (ax [] [(4,V0),(5,E6)]) .ret) .skip))) (au (au (ax [so E3,uV L0] [(10,L0),(11,L1),(12,V0)]) (dg 0 (.loop [4,5,7,13,14] HF))) (au (au (ax [jI,cW 42 [L0],eR] [(15,L1),(16,L2),(17,V0)]) (dg 2 (.loop [4,5,8,18,19] AR))) (au (ax [jI,i (.mkfn 21 [] [E3]),cW 49 [L0,L1],sq,mm] [(4,L3),(5,L4)]) .ret))))
def aof:aM:=⟨20,2,.pure,[.env 4,.env 5],Mv⟩
def zN:av:=au oA (au ow (au (dg 1 (au qR (au (ax [wt,aS,gr E1 L1] lL) qY))) pb))
def VO:av:=au kx (au (au ou (dg 0 (.loop [2,3,6,7] zN))) mE)
def aoX:aM:=⟨8,2,.pure,[.env 2],VO⟩
def aaO:av:=au iE (au (ax [cW 6 [E0,E1],wn] my) .ret)
def apH:aM:=⟨3,2,.pure,[.env 2],aaO⟩
def zO:av:=au (au (ax [pc,jW E3 L0] tk) NX) (au (dg 1 (au (ax [wt,aS,gr L1 E1] nN) (co E5 uE .skip))) Gh)
def TU:av:=au iE (au (au yU (dg 0 (.loop [2,4,5] zO))) mR)
def aoJ:aM:=⟨6,2,.pure,[.env 2],TU⟩
def aaD:av:=au (ax nO [(0,L0)]) (au (ax [lX 1 [Rz,Qp,QL,KI,JG,v (.str [79,78]),RW,Rl,v (.str [66,89]),RX,Vq,v (.str [65,76,76]),V7,TD,v (.str [65,83,67]),v (.str [68,69,83,67]),v (.str [65,83]),v (.str [65,78,68]),v (.str [79,82]),v (.str [78,79,84]),v (.str [73,83]),IK,RV,Qi,Ry,v (.str [83,85,77]),v (.str [77,73,78]),v (.str [77,65,88])]] [(0,L0)]) .ret)
def apS:aM:=⟨1,0,.pure,[.env 0],aaD⟩
def aaM:av:=au lg (au (ax [KQ E0 (v (.int .i32 97)),u7,g L0 true (.bin .leq L1 (v (.int .i32 122))),tQ] qy) .ret)
def aps:aM:=⟨2,1,.pure,[.env 1],aaM⟩
def abv:av:=au lg (au (ax [i (.aslice 28 (v (.cptr false gl1 0))),cW 5 [L0,E0]] qh) .ret)
def apP:aM:=⟨2,1,.pure,[.env 1],abv⟩
def aaE:av:=au lg (au (ax [KQ E0 (v (.int .i32 48)),u7,g L0 true (.bin .leq L1 (v (.int .i32 57))),tQ] qy) .ret)
def apy:aM:=⟨2,1,.pure,[.env 1],aaE⟩
def Z5:av:=au (ax [mS,mz 1 E2] [(3,L0),(4,L1),(5,V0),(6,Vf)]) (au (ax [i (.mkfn 22 [] [E3,E4]),cW 37 [E0,L0]] rD) (au (ax [i (.maxs E7 [V0]),KQ E7 V0] [(5,L0),(6,L1)]) .ret))
def api:aM:=⟨8,3,.pure,[.env 5,.env 6],Z5⟩
def abJ:av:=au (ax A2 [(3,L0),(4,Vf)]) (au (xW [eP,iz 3 E3,DC,so E2,gr L2 L3] Ik [(3,0)]) .ret)
def apw:aM:=⟨5,3,.pure,[.env 4],abJ⟩
def Wh:av:=au (ax wD [(1,L0),(2,V0),(3,V0)]) (au (ax W5 [(4,L3),(5,L4)]) (au (au (ax [i (.una .not E5)] iH) (co E6 (au (ax [] [(2,E4),(3,v (.int .i64 230))]) .ret) .skip)) (au (ax [] [(2,V0),(3,V0)]) .ret)))
def aoQ:aM:=⟨7,1,.pure,[.env 2,.env 3],Wh⟩
def D2:av:=au Ad (au (co iv .skip mX) (au (dg 3 (au (ax [] [(5,rh)]) (xW [w9,aS,w9,dL,fr 1 L3 E5,ei 0 L4,mv,i (.call 64 [L6] true),fr 1 L1 E5,ei 0 L8,ez 1 L9 L7] [] [(0,8),(1,8)]))) Ao))
def DP:av:=au B1 (au yW (au (dg 1 (au (ax [] [(4,E9)]) (xW [uF,aS,uF,dL,fr 2 L3 E4,DA,ei 0 L5,wo,i (.call 64 [L7] true),fr 2 L1 E4,ei 1 L9,ei 0 fP,ez 1 iS L8] [] [(0,9),(1,9)]))) wH))
def Mw:av:=au (ax [tj,ql] Bp) (au (au (ax RT u0) (co E6 (ax [fw,aS,pZ L1 E1,fw,sY] []) .skip)) (au (au (ax Ro lL) (co E7 (ax [nT,aS,pZ L1 E1,nT,sY] []) .skip)) (au (xW [Fy,aS,i (.call 12 [L1] true),Bh,ed,ND,El,wo,i (.call 70 [L7] true),Fy,ez 1 L9 L2,Bh,ez 1 iS L5,El,ez 1 lT L8] [] [(3,0),(4,0),(6,0),(6,3),(7,0),(7,3),(9,3),(9,6)]) (au (ax [Bc,g8,dr,i (.call 64 [L2] true),Bc,ei 0 L4,zo] []) (au (xW [uF,aS,i (.call 71 [L1] true),w9,ed,i (.call 72 [L4] true),uF,ez 1 L6 L2,w9,NB] [] [(3,0),(4,0),(6,3)]) (au (au (ax P3 [(8,L2),(9,V0)]) (dg 0 (.loop [4,10] DP))) (au (au (ax Rt [(11,L2),(12,V0)]) (dg 2 (.loop [5,13] D2))) (au (ax [Fg,ez 12 E3 L0] []) .ret))))))))
def aoa:aM:=⟨14,2,.pure,[.cell true 12 3],Mw⟩
def aei:av:=au (ax wG DG) (au (au (ax NH vj) (au (ax [pT E5 V0] iH) (co E6 (au (ax nO [(3,L0),(4,E5)]) .ret) .skip))) (au (au (ax [i (.mkfn 176 [] [E2]),cW 74 [E1,L0]] rD) (co E7 (au (ax nO [(3,L0),(4,gh)]) .ret) .skip)) (au (ax [jI,cW 177 [L0,E1]] [(3,L1),(4,V0)]) .ret)))
def aoP:aM:=⟨8,2,.pure,[.env 3,.env 4],aei⟩
def abx:av:=au (ax Ns Jq) (au (ax [iz 12 E1,cW 104 [L0,Vn],lw,lq,D4] tD) .ret)
def apC:aM:=⟨4,1,.pure,[.cell true 1 2,.env 3],abx⟩
def mJ:av:=au Ad (au Dh (au (dg 1 (au (ax [fr 12 mc rh,iz 12 L0,ql,Ng] [(4,L2),(3,rh)]) (au (ax [tC,aS,i (.look .nilf true E2 L1),sq,mm] [(5,L3),(6,L4)]) (au (ax [g E6 true (.load true 12 E4),g E6 true (.call 31 [L0] false),g E6 true (.call 32 [L1] false),eI E6 L2 Vf] uR) (au (au (ax [] [(14,E7)]) (co vD (au J7 (au (ax [eP,cW 33 [L0,E3],lw,lq] [(8,L2),(7,L3)]) (xW [eP,eP,Mq L1,ei 2 L2,ed,lX 1 [E8],oE 1 L4 L5,tE,ei 2 L7,Fk] [] [(0,7)]))) .skip)) (au (ax nO sd) (au (au (ax [] [(15,E7)]) (co xN (ax [iz 12 E4,i (.callv E5 [L0]),lw,lq] [(9,L2),(7,L3)]) .skip)) (au (ax [g E7 true (.mov E9),g E7 true (.len L0),g E7 true (.bin .leq L1 up),eI E7 L2 Vf] uR) (au (xW [eP,eP,Mq L1,ei 1 L2,ed,lX 1 [E9],oE 1 L4 L5,tE,Ip,Fk] [] [(0,7)]) (au (ax [i (.callv E0 [E3,E7]),zZ,g L1 false (.mov E7),g L1 false (.una .not L2),eI L1 Vt L3] [(16,L4)]) (co yb .ret .skip))))))))))) Ao))
def VY:av:=au (ax [tu,eP,i (.mkfn 80 [L1] []),i (.mput L0 V1 L2),eP,i (.mkfn 199 [L4] []),i (.mput L0 dS L5),eP,i (.mkfn 91 [L7] []),i (.mput L0 fT L8),eP,i (.mkfn 200 [fP] []),i (.mput L0 gh iS),eP,i (.mkfn 106 [lT] []),i (.mput L0 ig mi),eP,i (.mkfn 201 [sn] []),i (.mput L0 vP pO),eP,i (.mkfn 202 [CR] []),i (.mput L0 ww AZ),eP,i (.mkfn 159 [AT] []),i (.mput L0 xR Sy)] gU) (au (ax [eP,tE,vW,rR,ed,rE] [(10,L4),(11,L5),(12,V0)]) (dg 0 (.loop [3,4,5,6,7,8,9,13,14,15,16] mJ)))
def aoY:aM:=⟨17,2,.keep,[],VY⟩
def Hj:av:=au sM (au (ax [iMv (v (.fn 39 [] []))] iD) (au (ax [EE,aS,yy,g L2 true (.fld 3 E2),kT,g L2 true (.bin .lss L4 gh),sk,g L6 true (.fld 4 E2),JP,g L6 true (.len L8),g L6 true (.bin .geq L9 V1),eI L6 fP Vf,g iS true (.fld 4 E2),g iS true (ld ml),g iS true (.len lT),g iS true (.bin .leq mi gh),eI iS wu Vf] [(6,sn)]) (au (ax [Fy,aS,g E6 true (.fld 4 E2),g E6 true (ld L2),g E6 true (.mov E5),g E6 true (.call 74 [L3,L4] false),g E6 true (.una .not L5),eI E6 L6 Vf] [(3,L1),(4,L7)]) .ret)))
def an6:aM:=⟨7,2,.keep,[.env 3,.env 4],Hj⟩
def ab5:av:=au sM (au (ax [cf,gX,dr,fw,ed,vg,mv,cf,Ip,yG,nT,so fP,fr 1 L9 iS,FV,lX 1 [L6,lT],cW 266 [mi]] [(5,wu)]) (au (ax [Bc,ij,cW 92 [L1,E5]] [(3,E5),(4,L2)]) .ret))
def apN:aM:=⟨6,2,.pure,[.env 3,.env 4],ab5⟩
def aaQ:av:=au sM (au (ax [cf,gX,dr,fw,ed,vg,mv,Bc,t8 L7,cf,ei 1 L9,so fP,fw,FV,fr 1 iS lT,so mi,cW 92 [L8,wu]] [(3,L6),(4,sn)]) .ret)
def ao5:aM:=⟨5,2,.keep,[.env 3,.env 4],aaQ⟩
def Db:av:=au Bj (au Qa (au (dg 3 (au (ax [II,lI,NV,mT] yP) (au (ax [iz 2 E9,cW 267 [L0,E5],lw,lq] [(10,L2),(11,L3)]) (ax [lX 1 [mc],oE 1 E7 L0,g E6 true (.mov oG),eI E6 L2 Vf] [(7,L1),(6,L3)])))) Br))
def Dz:av:=au B0 (au (co yb .skip gZ) (au (dg 1 (au (ax [fr 1 iv xN,aS] ua) (ax [fr 1 E5 E8,aS,uJ,oE 1 E7 L2] uR))) A5))
def HY:av:=au sM (au (ax P1 [(5,L6)]) (au (ax [Bh,aS,eR,iLq L2 fT,g L3 true (.fld 8 E2),p8,Jg,g L3 true (.bin .leq L6 Ez),JT,g L8 true (.fld 7 E2),Pa,U9,g L8 true (.fld 8 E2),g L8 true (ld ml),g L8 true (.len lT),g L8 true (.bin .add iS mi),g L8 true (.bin .gtr wu V0),eI L8 sn Vf,g pO true (.fld 7 E2),LL,g pO true (.mov E5),g pO true (.call 268 [CR,AZ] false),eI pO CY Vf] [(6,AT)]) (au (au (ax Kr ve) (co rh B2 .skip)) (au (ax tG kz) (au (au (ax V2 Jr) (dg 0 (.loop [8,16] Dz))) (au (au (ax P3 Gt) (dg 2 (.loop [9,10,11,20] Db))) (au (ax [] [(3,E7),(4,E6)]) .ret)))))))
def an2:aM:=⟨21,2,.pure,[.env 3,.env 4],HY⟩
def C5:av:=au Ad (au Dh (au (dg 1 (au (ax [fr 1 mc rh,ij,fG,mC] lL) (au (ax [qw,cf,FQ,dL,fw,lH,fr 1 L3 L5,wo,cW 41 [L0,L7],xK 0 L8,xK 1 L8] [(8,L9),(9,fP)]) (ax [lX 1 [E8],JL,g E5 true (.mov E9),g E5 true (.bin .eql L2 V0),eI E5 L3 Vf] [(6,L1),(5,L4)])))) Ao))
def Rb:av:=au sM (au (ax [w9,aS,eR,KQ L2 V1,g L3 true (.fld 9 E2),p8,Jg,g L3 true (.bin .leq L6 up),JT] [(5,L8)]) (au (ax tG iH) (au (au (ax Rt [(10,L1),(11,L2),(12,V0)]) (dg 0 (.loop [7,8,9,13] C5))) (au (ax [] [(3,E6),(4,E5)]) .ret))))
def aoz:aM:=⟨14,2,.pure,[.env 3,.env 4],Rb⟩
def aa7:av:=au sM (au (ax P1 [(3,L6),(4,Vt)]) .ret)
def apL:aM:=⟨5,2,.keep,[.env 3,.env 4],aa7⟩
def uL:av:=au Jn (au Jz (au (dg 1 (au (ax [fr 1 rh vD,aS] [(9,vD),(10,L1)]) (au (au (ax [D0,aS,D9] [(16,L2)]) (co yb (ax [D0,ez 1 L0 mc] []) .skip)) (ax [g E8 true (.mov E7),g E8 true (.mov E9),g E8 true (.idxs 1 L0 L1),g E8 true (ld L2),g E8 true (.mov mc),g E8 true (.bin .eql L3 L4),g E8 true (.mov L5),g L6 false (.mov mc),g L6 false (.bin .eql L7 V0),g E8 true (.pick L6 Vt L8),eI E8 L9 Vf] [(8,fP)])))) IN))
def WM:av:=au sM (au (ax [cf,gX,dr,fw,ed,vg,mv,cf,Ip,yG,nT,so fP,fr 1 L9 iS,FV] [(5,L6),(6,lT)]) (au (au (ax [uV E5,uV E6,pT L0 L1] [(11,L2)]) (co oG B2 .skip)) (au (ax [i (.call 12 [E5] true)] kz) (au (ax [] [(8,Vt)]) (au (au (ax [uV E6] [(12,E6),(13,L0),(14,V0)]) (dg 0 (.loop [9,10,15,16] uL))) (au (ax [] [(3,E7),(4,E8)]) .ret))))))
def aoI:aM:=⟨17,2,.pure,[.env 3,.env 4],WM⟩
def Ic:av:=au sM (au (xW [cf,gX,dr,fw,ed,vg,mv,mz 1 Vn,Jh] [(5,L7)] [(0,8),(1,8),(2,8),(3,8),(4,8),(5,8),(6,8)]) (au (ax [i (.mkfn 203 [] [E5])] iH) (au (ax [El,aS,eR,iLq L2 fT,g L3 true (.fld 10 E2),p8,NE,g L3 true (.call 160 [L5,L6] false),g L3 true (.una .not L7),eI L3 L8 Vf,g L9 true (.fld 11 E2),PL,g L9 true (.bin .geq iS gY),eI L9 ml Vf,g lT true (.fld 11 E2),g lT true (ld mi),g lT true (.bin .leq wu T9),eI lT sn Vf] [(7,pO)]) (au (ax [ut,g E7 true (.mov E0),g E7 true (.nilck L1),g E7 true (.fld 1 L2),g E7 true (ld L3),g E7 true (.len L4),g E7 true (.mov E0),g E7 true (.nilck L6),g E7 true (.fld 0 L7),g E7 true (.fld 0 L8),g E7 true (ld L9),g E7 true (.len fP),g E7 true (.bin .sub iS V1),g E7 true (.bin .eql L5 ml),eI E7 lT Vf] [(3,L0),(4,mi)]) .ret))))
def an3:aM:=⟨8,2,.keep,[.env 3,.env 4],Ic⟩
def xO:av:=au (ax [tj] ta) (au (ax [qa,aS,D9,g L2 true (.fld 4 E1),kT,J9,g L2 true (.bin .eql L5 V0),eI L2 L6 Vf,g L7 true (.fld 5 E1),Bk,g L7 true (.una .not L9),eI L7 fP Vf,g iS true (.fld 6 E1),g iS true (.fld 0 ml),g iS true (ld lT),g iS true (.len mi),g iS true (.bin .eql wu V0),eI iS sn Vf,g pO true (.fld 7 E1),LL,Xw,g pO true (.bin .eql AZ V0),eI pO CY Vf,g AT true (.fld 8 E1),g AT true (ld Sy),g AT true (.len L24),g AT true (.bin .eql XJ V0),eI AT L26 Vf,g XD true (.fld 9 E1),g XD true (ld Nh),g XD true (.len L29),g XD true (.bin .eql L30 V0),eI XD L31 Vf,g L32 true (.fld 10 E1),g L32 true (ld L33),g L32 true (.len L34),g L32 true (.bin .eql L35 V0),eI L32 L36 Vf,g L37 true (.fld 11 E1),g L37 true (ld L38),g L37 true (.bin .eql L39 V0),eI L37 L40 Vf] [(2,L41)]) .ret)
def anS:aM:=⟨3,1,.pure,[.env 2],xO⟩
def CE:av:=au (ax [tj,ql] vd) (au (au AF (dg 0 (au Dx (co E4 (ax [qa,Ax,wk,ez 1 L2 Vn] []) (au Dk (co E5 (ax [yF,ei 5 E1,ez 1 L1 Vf,yu,ez 1 L3 L0] []) (au (ax [gr E3 fT] iH) (co E6 (ax [yF,yu,rT] []) (au (ax [gr E3 gh] kz) (co E7 (ax [uN,J8,yp,ez 1 L2 Vn] []) (au (ax [gr E3 ig] uB) (co E8 (ax [ei 9 E1,J8] []) (au (ax [gr E3 xR] sd) (co E9 (ax [ei 10 E1,J8,ei 11 E1,ez 1 L2 V0] []) .skip)))))))))))))) (au (ax [iz 12 E1,ez 12 E2 L0] []) .ret))
def anU:aM:=⟨10,1,.keep,[.cell true 12 2],CE⟩
def vq:av:=au (ax [] [(2,V0),(3,Vf)]) (au (ax [cf,g8,vW,dL,fr 12 L3 E1,iz 12 L4,ql,ez 12 L6 L5] [(4,L6)]) (au (au (ax [tC,aS,cW 34 [L1]] nN) (dg 0 (au (ax [gr E5 V0] iH) (co E6 (au (ax VT [(2,E1),(3,L6)]) .ret) (au (ax [gr E5 V1] kz) (co E7 (au (au (ax [vf,aS,yK,pT L1 L2,Rc,Cm,Rg,eI L3 Vt L6,g L7 false (.mov E1),g L7 false (.bin .eql L8 V0),eI L7 Vt L9] [(8,fP)]) (co E8 (au (ax [] [(2,V0),(3,Vf)]) .ret) .skip)) (au (ax [cf,ei 2 L0,dr,vf,ed,vg,mv] [(2,L6),(3,Vt)]) .ret)) .skip)))))) (au (au (ax [ei 2 E4,aS,yK,pT L1 L2,g L3 false (.mov E1),Dm,Gy,Rs,BP,RP,g L6 false (.nilck L9),g L6 false (.fld 2 fP),g L6 false (ld iS),g L6 false (.fld 2 E4),g L6 false (ld lT),g L6 false (.idxs 1 ml mi),g L6 false (ld wu),g L6 false (.bin .sub sn V1),g L6 false (.bin .neq L8 pO),eI L6 Vt AU,g CR false (.fld 1 E4),g CR false (ld AZ),g CR false (.bin .lss CY V0),eI CR Vt AT] [(9,Sy)]) (co E9 (au (ax [] [(2,V0),(3,Vf)]) .ret) .skip)) (au (ax [cf,ei 2 L0,dr,vf,ed,vg,mv] [(2,L6),(3,Vt)]) .ret))))
def anO:aM:=⟨10,2,.pure,[.env 2,.env 3],vq⟩
def uq:av:=au (au (ax [jW E4 E3] kz) Gx) (au (dg 1 (au (ax [uy,cW 232 [L0,E4],lw,lq] yL) (au (ax [i (.una .not E5)] uB) (co E8 (au (ax [] [(2,E4)]) .ret) .skip)))) Gi)
def Ij:av:=au Ky (au (ax za qM) (au (au (ax [jW E3 V1,g L0 false (.mov E3),TL,ov] By) (co E6 yr .skip)) (au (au (ax [] [(4,V0)]) (dg 0 (.loop [2,5,7,8] uq))) (au (au (ax [uy,CT E3 V1,cW 246 [L0,L1],pT L2 E3] [(9,L3)]) (co E9 (au (ax [CT E3 V1] gU) .ret) .skip)) mE))))
def an5:aM:=⟨10,1,.pure,[.env 2],Ij⟩
def MZ:av:=au I9 (au (ax [gn,aS,eR,KQ L2 V1,WA,p8,Jg,g L3 true (.bin .leq L6 (v (.int .i64 1000))),JT,g L8 true (lt E1),Qy,g L8 true (ld fP),g L8 true (.len iS),g L8 true (.bin .sub ml V1),g L8 true (.call 269 [L9,lT] false),Qy,g L8 true (ld wu),g L8 true (.len sn),g L8 true (.bin .eql mi pO),eI L8 AU Vf] [(2,CR)]) .ret)
def aoc:aM:=⟨3,1,.pure,[.env 2],MZ⟩
def vt:av:=au (ax [] [(3,V0),(4,Vf)]) (au (dg 0 (au (ax Q0 [(5,L7)]) (co E5 (au (ax [cW 270 [E1,dS],UO,g L0 true (.call 270 [L1,dS] false),tQ] [(3,dS),(4,L3)]) .ret) (au (ax [gr E0 ig,ln,g L0 false (.bin .geq L1 Jw),ov] By) (co E6 (au (ax [cW 270 [E1,V1],UO,g L0 true (.call 270 [L1,V1] false),tQ] [(3,V1),(4,L3)]) .ret) (au (ax [gr E0 vP,ln,g L0 false (.bin .eql L1 ww),ov] uR) (co E7 (au (ax [] [(3,V1),(4,Vt)]) .ret) .skip))))))) (au (ax [gr E1 E2,Bu,Qq,ov,g L3 false (.mov E2),Dm,Gy] [(3,V1),(4,L6)]) .ret))
def anN:aM:=⟨8,3,.pure,[.env 3,.env 4],vt⟩
def aie:av:=au (ax wD [(1,L0),(2,v .nilf)]) (au (ax [i (.mkfn 126 [] [E1])] gU) .ret)
def aq6:aM:=⟨3,1,.pure,[.env 2],aie⟩
def Yx:av:=au (au (ax [lX 1 [v (.str [44])],cW 4 [E0,ig,L0]] vj) F0) (dg 1 (au (au (ax [uV E4,gr L0 E1] po) (co E6 N2 .skip)) (au Fh (ax [i (.callv E2 []),Ki,oE 2 E4 L1] sI))))
def akx:av:=au (ax nO iq) (au (ax [i (.callv E2 []),i (.mksl 2 [L0])] tk) (au (dg 0 (.loop [5,6] Yx)) Iq))
def aqV:aM:=⟨7,3,.keep,[.env 3],akx⟩
def afs:av:=au (ax [AH] lN) (au (ax [Dl,mD [.ai,.str []] [(0,1,L0)],AH,mT] oU) (au (au (ax [cW 18 [E0,V1,v (.str [65,83])]] iq) (co E3 (ax [Dg,xk,fw,mC] []) .skip)) I2))
def aq7:aM:=⟨4,1,.keep,[.cell true 2 1],afs⟩
def aiQ:av:=au (ax [uH] lN) (au (ax [Dg,xk,mD [.str [],.str []] [(0,1,L1)],uH,ez 2 L3 L2] rB) (au (au (ax [cW 4 [E0,dS,Vn]] iq) (co E3 (ax [Bv,xk,fw,mC] []) .skip)) I2))
def aqz:aM:=⟨4,1,.keep,[.cell true 2 1],aiQ⟩
def Yw:av:=au (au (ax [lX 1 [KI,JG],Nw] tk) NX) (dg 1 (au (au (ax [uV E2,gr L0 dS] vj) (co E5 N2 .skip)) (au (ax [cW 18 [E0,V1,KI],mD [nf,.str [],.str [],.ai] [(0,1,L0)],JS,Ix] qM) (au (ax [lX 1 [JG],wK] []) (au (ax [cW 131 [E0],uM,uI] []) (au (ax [lX 1 [v (.str [79,78])],wK] []) (au (ax [Dl,yn,rT] []) (ax [iz 4 E3,lX 4 [L0],oE 4 E2 L1] oU))))))))
def aj6:av:=au kA (au (ax [Tw 4] gU) (au (dg 0 (.loop [3,4,5] Yw)) Cb))
def arc:aM:=⟨6,1,.keep,[.env 1],aj6⟩
def aiH:av:=au (ax zd lN) (au (ax [Oe] gU) (au (ax [cW 109 [E0],mD [.ai] [(0,1,L0)],fG,mC] qM) (au (au (ax [cf,ei 3 L0,dr,gr L2 V0,g L3 true (lt E3),g L3 true (.call 89 [L4] false),g L3 true (.bin .neq L5 V0),wh] [(4,L7)]) (co E4 (ax [cW 192 [E0,v (.int .i64 192),E2]] []) .skip)) (au (ax [tx,ez 1 E1 L0] []) .ret))))
def aq4:aM:=⟨5,1,.keep,[.cell true 1 1],aiH⟩
def afy:av:=au (ax [uH] lN) (au (ax [Dg,xk,mD [.str [],.str []] [(1,1,L1)],uH,ez 2 L3 L2] rB) (au (au (ax [cW 18 [E0,ig,v (.str [46])]] iq) (co E3 (xW [fw,aS,Dg,i (.fldv false 1 2 L2),fI,ez 1 L4 L1,fw,ez 1 L6 L3] [] [(0,3),(1,3),(4,0)]) .skip)) I2))
def aqk:aM:=⟨4,1,.keep,[.cell true 2 1],afy⟩
def YB:av:=au oA (au ow (au (dg 1 (au qR (au (ax [fr 9 E0 E3,Mn,uv] lL) qY))) pb))
def akB:av:=au kx (au (au ou (dg 0 (.loop [2,3,6,7] YB))) mE)
def arn:aM:=⟨8,2,.pure,[.env 2],akB⟩
def alr:av:=au (ax sE ta) (au (ax [gn,aS,cW 11 [L1],I4,kT,g L2 true (.call 68 [L4] false),sk] qG) .ret)
def anH:aM:=⟨3,1,.pure,[.env 2],alr⟩
def alt:av:=au lg (au (ax [cW 115 [E0,v (.fn 117 [] [])],zZ] qh) .ret)
def aqc:aM:=⟨2,1,.pure,[.env 1],alt⟩
def al1:av:=au lg (au (ax [gr E0 jM,ln,g L0 false (.call 11 [L1] false),ov] qy) .ret)
def anA:aM:=⟨2,1,.pure,[.env 1],al1⟩
def ZF:av:=au Ff (au (co vD .skip LH) (au (dg 2 (au (ax RZ lL) (au (ax P7 [(8,L3)]) (au (xW [cf,ei 20 L0,dr,xj,ed,cf,ei 20 L5,wo,xj,yG,i (.lookk [] .ai false L7 L9),lX 1 [E8],oE 1 fP iS,i (.mputk [] L2 L4 ml)] [] [(0,13),(1,13),(2,13),(3,13),(4,13)]) (au (ax [cf,ei 21 L0,dr,xj,ed,mD [.str [],.str []] [(0,1,E6),(1,1,L4)],i (.mputk [2,2] L2 L5 E8)] []) (ax [cf,ei 22 L0,dr,ei 1 E7,ed,lX 1 [L4],oE 1 L2 L5,cf,ei 22 L7,Fk] [])))))) A7))
def aho:av:=au (ax [mz 2 E1] [(2,L0),(3,V0)]) (au (ax [cf,g8,t8 L1,fI,ed,cW 144 [L2,L4],yT,yB] [(4,L6),(5,L7)]) (au (ax [DW,cW 145 [L0]] po) (au (dg 0 (au (ax [i (.una .not E5)] sd) (co E9 (au (ax [] [(3,v (.int .i64 220))]) .ret) (au (ax [cf,ei 19 L0,dr,i (.lookk [] (.bool false) false L2 E6)] [(10,L3)]) (co mc (au (ax [] [(3,v (.int .i64 221))]) .ret) .skip))))) (au (ax [cf,ei 19 L0,dr,i (.mputk [] L2 E6 Vt)] []) (au (ax [cf,ux,vW,dL,lX 1 [E4],oE 1 L3 L4,cf,ei 10 L6,Eg,NB] []) (au (au (.lift 0 22 1 (ax [cf,g8,vW,dL,fr 3 L3 E4,DA,mv,uV L6] [(11,L6),(12,L7),(13,V0)])) (dg 1 (.loop [7,8,14] ZF))) uC))))))
def aqj:aM:=⟨15,2,.keep,[.env 3],aho⟩
def ajC:av:=au (ax [mS,fG] [(3,L0),(4,L1),(5,V0)]) (au (ax [tx,cW 93 [E0,L0,E2],lw,lq,Lr,fG,ez 1 L5 L2] [(6,L5),(7,L3),(8,L4)]) (au (au (ax [gr E8 V0,g L0 true (.mov E7),g L0 true (.bin .neq L1 V1),tQ,g L3 true (.mov E7),g L3 true (.bin .neq L4 V0),eI L3 L5 Vf] [(9,L6)]) (co E9 (ax [] [(8,v (.int .i64 226))]) .skip)) (au (ax [t8 E6,IP] [(5,E8)]) .ret)))
def arp:aM:=⟨10,3,.pure,[.cell true 1 4,.env 5],ajC⟩
def akd:av:=au (ax [mz 2 E1] KB) (au (au (ax [fI,aS,pT L1 jM] Ii) (co E8 (au (ax [cf,ei 21 L0,dr,DW,i (.lookk [2,2] (.int .i64 0) true L2 L3),nX,nF] [(5,L5),(6,L6)]) (au (au (ax Kr sd) (co E9 (au (ax [] [(3,V0),(4,v (.int .i64 222))]) .ret) .skip)) (au (ax [] [(3,E5),(4,V0)]) .ret))) .skip)) (au (au (ax [cf,ei 20 L0,dr,fw,ed,i (.lookk [] .ai false L2 L4)] [(7,L5)]) (au (ax [uV E7] px) (dg 0 (au (ax [gr mc V0] tw) (co oG (au (ax [] [(3,V0),(4,v (.int .i64 222))]) .ret) (au (ax [gr mc V1] ve) (co rh (au (ax [fr 1 E7 V0,aS] [(3,L1),(4,V0)]) .ret) .skip))))))) (au (ax [] [(3,V0),(4,v (.int .i64 223))]) .ret)))
def aqh:aM:=⟨13,2,.pure,[.env 3,.env 4],akd⟩
def amz:av:=au DI (au (ax RU tq) (au (ax [i (.mkfn 154 [] [E3])] gp) (au (ax [yp,aS,eR,JO L2 V0,g L3 false (.fld 7 E1),g L3 false (.fld 0 L4),g L3 false (ld L5),g L3 false (.len L6),g L3 false (.bin .gtr L7 V0),eI L3 Vt L8,g L9 false (.fld 2 E1),g L9 false (ld fP),g L9 false (.mov E4),g L9 false (.call 152 [iS,ml] false),eI L9 Vt lT] [(2,mi)]) .ret)))
def aqf:aM:=⟨5,1,.pure,[.env 2],amz⟩
def ajl:av:=au (ax Dw Jq) (au (ax [iz 8 E1,cW 83 [L0,Vn],lw,lq,D4] tD) .ret)
def art:aM:=⟨4,1,.pure,[.cell true 1 2,.env 3],ajl⟩
def amw:av:=au (ax [sh,mS,fG] [(3,L0),(4,L1),(5,L2),(6,V0),(7,V0)]) (au (ax RU ua) (au (ax [JD,ez 1 L0 (v (.fn 100 [] []))] sd) (au (ax [i (.mkfn 103 [] [E3]),JD,rT] [(10,L1)]) (au (ax [JD] tw) (au (ax [i (.mkfn 82 [] [E4,E9,E3,E8,oG,mc]),ez 1 oG L0] []) (au (ax [so oG,tC,dr,qj,CT L3 V1,i (.callv L0 [L4,E2]),yT,yB,fG,Fk] [(12,L8),(13,L7)]) (au (au (ax [pT iv V0] tp) (co xN (au (ax [yF,ez 1 E5 L0] [(6,V0),(7,iv)]) .ret) .skip)) (au (xW [t8 rh,so mc,i (.callv L1 [E2]),cW 41 [L0,L2],wE,wy] [(14,L4),(13,L5)] [(0,3)]) (au (ax [t8 rh,ez 1 E5 L0] [(6,vD),(7,iv)]) .ret)))))))))
def arh:aM:=⟨16,3,.pure,[.cell true 1 5,.env 6,.env 7],amw⟩
def ab6:av:=au Ky (au (au (ax [uy,cW 17 [L0],lw,lq] tD) (au (ax [Bb] gp) (co E4 (au (ax [] [(2,v (.int .i64 200))]) .ret) .skip))) yr)
def apZ:aM:=⟨5,1,.pure,[.env 2],ab6⟩
def AA:av:=au Af (au rW (au (dg 1 (au (ax Rq sI) (au (ax [tC,aS,Aq] [(10,L2)]) (co mc (ax [ei 3 E4,aS,uJ,oE 1 E3 L2] tD) .skip)))) rM))
def Z7:av:=au (ax wG vd) (au (au (ax [uy,Do,Iw] nN) (co E5 (au mQ .ret) .skip)) (au NZ (au (au (ax za Nx) (dg 0 (.loop [4,9,10] AA))) (au (ax [cW 43 [E3]] []) (au (ax [cW 48 [E3]] gU) .ret)))))
def apo:aM:=⟨11,1,.pure,[.env 2],Z7⟩
def zE:av:=au Jn (au Jz (au (dg 1 (au (ax [fr 8 rh vD,zu,xn,zY] yP) (au (xW [iz 8 E9,ei 0 E9,dr,cW 2 [L2],i (.callv E7 [L3]),i (.callv E1 [L0,L4]),yT,yB] [(10,L6),(11,L7)] [(0,5)]) (au (au (ax [pT oG V0] EL) (co yb (au (ax [] [(8,oG)]) gZ) .skip)) (ax [ut,lX 1 [mc],oE 1 L0 L1,ez 1 E5 L2] []))))) IN))
def U6:av:=au (ax wD KB) (.scope (au (ax [mz 1 Vn] iD) (au Eo (au (ax [i (.mkfn 20 [] [E5])] kz) (au J7 (au (au (.lift 5 0 1 (ax Bi [(12,L1),(13,L2),(14,V0)])) (dg 0 (.loop [9,10,11,15,16] zE))) (au (au (ax GA [(17,L0)]) (co AJ (au (ax [] [(3,E6),(4,E8)]) .ret) .skip)) (au (ax [ut,fr 1 L0 V0,dr] [(3,L2),(4,V0)]) .ret))))))))
def aoO:aM:=⟨18,2,.pure,[.env 3,.env 4],U6⟩
def Dr:av:=au Ad (au Dh (au (dg 1 (au (ax [fr 1 mc rh,aS] rD) (dg 2 (au (ax [gr E7 V0,QI,KL,g L0 false (.bin .eql L1 L2),IL] [(14,L4)]) (co vD .skip (au (ax BA tp) (co xN (ax [] [(6,E7)]) (ax [] [(6,gY)])))))))) Ao))
def ab4:av:=au (ax [mz 8 E0] [(3,L0),(4,V0),(5,V0)]) (au Eo (au (au (ax CH [(10,E1),(11,L0),(12,V0)]) (dg 0 (.loop [7,13,14,15] Dr))) (au (ax [] [(8,E6)]) (au (ax [] [(9,V1)]) (au (dg 3 (au (ax [iA,aS,zF] [(16,L2)]) (co yb (au (ax [uS,g8,dr] [(4,L2),(5,V0)]) .ret) (au (ax [iA,aS,Aq] [(17,L2)]) (co AJ (au (ax [so E2,yn,dr,fr 1 L0 L2,ed] [(4,L4),(5,V0)]) .ret) (au (ax [iA,aS,cW 76 [L1]] [(18,L2)]) (co Ec (ax [] [(8,dS),(9,dS)]) (au (ax [iA,aS,gr L1 ig,g L2 false (.fld 0 E3),yI,g L2 false (.bin .eql L4 Jw),C1,g L6 false (.fld 0 E3),BP,g L6 false (.bin .eql L8 AQ),eI L6 Vt L9] [(19,fP)]) (co AX (ax [] [(8,V1)]) .skip))))))))) (au (au (ax [gr E6 gY,KL,g L0 false (.bin .neq L1 V0),Jj,NE,g L3 true (.mov E8),g L3 true (.bin .neq L4 L5),g L0 false (.pick L3 L6 Vf),eI L0 Vt L7] [(20,L8)]) (co Ur (au (ax [] [(4,V0),(5,v (.int .i64 201))]) .ret) .skip)) (au (ax [] [(4,E9),(5,V0)]) .ret)))))))
def apg:aM:=⟨21,3,.pure,[.env 4,.env 5],ab4⟩
def abW:av:=au lg (au (ax Q0 [(1,L7)]) .ret)
def aph:aM:=⟨2,1,.pure,[.env 1],abW⟩
def qX:av:=au oA KF
def Wa:av:=au kx (au (au ou (dg 0 (.loop [2,3,6,7] qX))) mE)
def aoZ:aM:=⟨8,2,.pure,[.env 2],Wa⟩
def aap:av:=au (ax sE [(3,L0),(4,Vf)]) (au (xW [eP,iz 2 E3,DC,so E2,gr L2 L3] Ik [(3,0)]) .ret)
def apk:aM:=⟨5,3,.pure,[.env 4],aap⟩
def abR:av:=au kA (au FA (au (ax [iMv (v .ai),oE 2 L0 E0] qh) .ret))
def apm:aM:=⟨3,1,.fresh 2,[.env 1],abR⟩
def aam:av:=au kA (au FA (au (ax [iMv (v .ai),oE 8 L0 E0] qh) .ret))
def apU:aM:=⟨3,1,.fresh 8,[.env 1],aam⟩
def abu:av:=au kA (au FA (au (ax [iMv (v .ai),oE 2 L0 E0] qh) .ret))
def ao3:aM:=⟨3,1,.fresh 2,[.env 1],abu⟩
def abm:av:=au kA (au FA (au (ax [iMv (v .ai),oE 1 L0 E0] qh) .ret))
def ap5:aM:=⟨3,1,.fresh 1,[.env 1],abm⟩
def abz:av:=au iE (au (ax [cW 75 [E0,E1],wn] my) .ret)
def ap6:aM:=⟨3,2,.pure,[.env 2],abz⟩
def aeZ:av:=au iE (au (ax [jW E0 V0,ln,TN,IY,Jk,KH,yO] qG) .ret)
def ao8:aM:=⟨3,2,.pure,[.env 2],aeZ⟩
def FU:av:=au Ff (au JA (au (dg 3 (au (ax RZ u0) (ax [ei 1 E6,aS,uJ,oE 1 E4 L2] [(4,L3)]))) A7))
def IC:av:=au B1 (au yW (au (dg 1 (au (ax [D0,aS] vj) (au (ax [fI,aS,fr 3 L1 E5,ei 1 L2,ed,rE] [(11,L4),(12,L5),(13,V0)]) (dg 2 (.loop [6,14] FU))))) wH))
def ail:av:=au (ax wG Bp) (au (ax tG gp) (au (au (ax CH [(7,E1),(8,L0),(9,V0)]) (dg 0 (.loop [5,6,10,11,12,13,14] IC))) Iq))
def apt:aM:=⟨15,2,.pure,[.env 3],ail⟩
def abk:av:=au lg (au (ax [cW 40 [E0],zZ] qh) .ret)
def apa:aM:=⟨2,1,.pure,[.env 1],abk⟩
def aaH:av:=au lg (au (ax [gr E0 V1,ln,QN,ov,Js,g L3 false (.bin .eql L4 fT),Gy] [(1,L6)]) .ret)
def ap3:aM:=⟨2,1,.pure,[.env 1],aaH⟩
def sV:av:=au Ff (au JA (au (dg 3 (au (ax [fr 1 oG iv,aS] vj) (ax [oE 1 E4 E5] gp))) A7))
def DY:av:=au Af (au rW (au (dg 1 (au (ax [fr 1 E6 E8,aS] tq) (au (ax [uV E3,pZ E2 L0] my) (au (ax [jW E2 V0] px) (co mc (ax [i .bad,i .bad] []) .skip))))) rM))
def WQ:av:=au kA (au kx (au (au Ow (dg 0 (.loop [3,9,10] DY))) (au (ax [cW 271 [Vn,E2]] gp) (au (au (ax Fu [(11,E0),(12,L0),(13,V0)]) (dg 2 (.loop [5,14] sV))) Je))))
def aoR:aM:=⟨15,1,.pure,[.env 1],WQ⟩
def ab1:av:=au Xf (au (ax [jI,cW 41 [L0,E1],lw,lq] [(4,L2),(5,L3)]) (au (ax [gr E5 V0,Jx,g L0 true (.bin .eql L1 V1),Q8,Rm,Dm,Jo,Kn] [(3,L7)]) .ret))
def apA:aM:=⟨6,2,.pure,[.env 3],ab1⟩
def abf:av:=au (ax [mS] HX) (au (ax [i (.mkfn 272 [] [E2]),cW 74 [E0,L0],tn] qM) .ret)
def apx:aM:=⟨4,2,.pure,[.env 3],abf⟩
def HL:av:=au (ax sE [(2,L0),(3,V0),(4,Vf)]) (au (au (ax [fI,aS,zF] lL) (co E7 (au (ax [fw,g8,dr,qj,gr L3 V0] [(3,dS),(4,L4)]) .ret) .skip)) (au (ax [fw,ij,cW 41 [L1,E1],sq,mm] [(5,L3),(6,L4)]) (au (au (ax [fI,aS] ua) (dg 0 (au (ax [gr E8 dS] sd) (co E9 (au (ax BA [(3,dS),(4,L0)]) .ret) (au (ax [gr E8 fT] px) (co mc (au (ax [gr E6 V0,g L0 true (.mov E5),g L0 true (.bin .eql L1 dS),Q8,g L3 false (.mov E5),Dm,Jo,Kn] [(3,dS),(4,L7)]) .ret) (au (au (ax [gr E8 gh] tw) (co oG .skip (ax [gr E8 ig] tw))) (co oG (au (ax BA [(3,E5),(4,L0)]) .ret) .skip)))))))) I5)))
def an4:aM:=⟨12,2,.pure,[.env 3,.env 4],HL⟩
def abP:av:=au (ax sE HX) (au (ax [fI,aS,jW L1 V0,OT,yI,g L2 false (ld E1),g L2 false (.len L5),g L2 false (.bin .geq L4 L6),eI L2 Vt L7] [(3,L8)]) .ret)
def apI:aM:=⟨4,2,.pure,[.env 3],abP⟩
def ab7:av:=au iE (au (ax [cW 161 [E0,E1],wn] my) .ret)
def apK:aM:=⟨3,2,.pure,[.env 2],ab7⟩
def aaZ:av:=au ms (au (au I6 (dg 0 (au Pg (co E3 sD (au (au (ax [gr E2 dS] gp) (co E4 .skip (ax [gr E2 ww] gp))) Ru))))) zy)
def apQ:aM:=⟨5,1,.pure,[.env 1],aaZ⟩
def rx:av:=au (ax wD [(2,L0),(3,V0)]) (au (au (ax [jW E1 V0,Bu,PP,IY,Jk,KH,yO] [(8,L6)]) (co E8 uC .skip)) (au (ax [fI,aS,fr 8 L1 E1,iz 8 L2,xn,ez 8 L4 L3] Ik) (au (ax [tC,aS,cW 274 [L1]] nN) (au (au (ax [jW E5 V0,g L0 false (.load true 8 E4),g L0 false (.call 273 [L1] false),g L0 false (.una .not L2),IL] [(9,L4)]) (co E9 uC .skip)) (au (au (ax [gr E5 V0] px) (co mc (au (au (ax [vf,aS,pT L1 gY,g L2 false (.fld 2 E4),yI,g L2 false (.bin .neq L4 gY),C1] [(11,L6)]) (co oG uC .skip)) (au (ax [] [(3,V1)]) .ret)) .skip)) (au (ax [jI,yK,cW 269 [L0,L1]] u0) (au (au (ax BA ve) (co rh uC .skip)) (au (au (ax [gr E5 V1] vQ) (co iv (au (au (ax [vf,aS,yK,pT L1 L2,Rc,Cm,Rg,eI L3 Vt L6] [(14,L7)]) (co vD uC .skip)) (au (ax [pZ E6 V1] iq) .ret)) .skip)) (au (ax [jI,yK,CT L1 E6,cW 269 [L0,L2]] uR) (au (au (ax [gr E7 V0,g L0 false (.fld 2 E4),QJ,Bu,g L0 false (.bin .sub L3 V1),g L0 false (.bin .neq L2 L4),yO,Rs,BP,g L6 false (.mov E1),g L6 false (.bin .sub L9 V1),Rp,g L6 false (.bin .sub fP iS),g L6 false (.bin .neq L8 ml),eI L6 Vt lT] [(15,mi)]) (co xN uC .skip)) (au (ax [pZ E7 E6,pZ L0 V1] tq) .ret)))))))))))
def anM:aM:=⟨16,2,.pure,[.env 3],rx⟩
def Wc:av:=au iE (au (ax [gr E0 E1,ln,Qq,ov] rB) .ret)
def aoW:aM:=⟨3,2,.pure,[.env 2],Wc⟩
def Yp:av:=au (au (ax [eP,iLt L0,jW E2 L1] u0) ow) (dg 1 (au (au (ax [eP,i (.idxt L0 E2),cW 23 [v (.str [32,9,10,13]),L1],KQ L2 V0] uR) (co E7 (au Kw LH) .skip)) (au (ax [eP,i (.slicet L0 (some E2) none),cW 55 [L1],sq,mm,xK 2 L2,xA,ez 4 L6 L3] [(3,L6),(4,L4),(5,L5)]) (au (ax [uM,ez 1 L0 E2] []) (au (au (ax [iz 4 E3,i (.callv E0 [L0,E5]),tn,VS,g L2 false (.una .not L3),N0] [(8,L5)]) (co E8 gZ .skip)) (ax [pZ E2 E4] gU))))))
def aeR:av:=.scope (au kx (dg 0 (.loop [3,4,5,6,7,8] Yp)))
def aqD:aM:=⟨9,2,.keep,[],aeR⟩
def afB:av:=au kx (au (ax [cW 24 [E0,E1]] gU) .ret)
def aqM:aM:=⟨3,2,.pure,[.env 2],afB⟩
def af9:av:=au (ax [sh,xA] [(1,L0),(2,L1),(3,V0),(4,Vf)]) (au (au (ax [eP,i (.idxt L0 V0),gr L1 (v (.int .u8 39))] [(14,L2)]) (co vD (au (ax [eP,cW 204 [L0],lw,lq,Lr] [(5,L2),(6,L3),(7,L4)]) (au (ax [mD [n0,n0,.str [],.int .u64 0] [(0,1,gh),(2,1,E5)],xr] [(3,E6),(4,E7)]) .ret)) .skip)) (au (au (ax [eP,cW 56 [L0]] ua) (au (ax [JO E8 V0] tp) (co xN (au (ax [eP,i (.slicet L0 none (some E8))] [(9,L1)]) (au (au (ax [cW 65 [E9],BD,KN] [(10,L1),(11,L2)]) (au (ax [] [(16,oG)]) (co yb (au (ax [mD [n0,n0,.str [],.int .u64 0] [(0,1,fT),(3,1,mc)],xr] [(3,E8),(4,Vt)]) .ret) .skip))) (au (au (ax [cW 8 [E9]] ve) (au (ax [cW 9 [rh]] [(17,L0)]) (co AJ (au (ax [mD [n0,n0,.str [],.int .u64 0] [(0,1,V1),(2,1,rh)],xr] [(3,E8),(4,Vt)]) .ret) .skip))) (au (ax [mD [n0,n0,.str [],.int .u64 0] [(0,1,dS),(2,1,E9)],cW 11 [E9],xr] [(3,E8),(4,L1)]) .ret)))) .skip))) (au (ax [i (.aslice 14 RL),i (.mkfn 60 [] [E1]),cW 163 [L0,L1]] [(13,L2)]) (au (au (ax [jW iv V0] th) (co Ec (au (ax [RQ,xr] [(3,V0),(4,Vf)]) .ret) .skip)) (au (xW [Re,aS,mD [n0,n0,.str [],.int .u64 0] [(0,1,ig),(2,1,L1)],Re,ed,iLt L4,ez 4 E2 L2] [(3,L5),(4,Vt)] [(3,7),(4,7)]) .ret)))))
def are:aM:=⟨19,1,.pure,[.cell true 4 2,.env 3,.env 4],af9⟩
def air:av:=au kA (au (ax [tu,i (.mputk [] L0 (v (.str [79,82])) AQ),i (.mkfn 110 [E0] []),Rh] qy) .ret)
def aqW:aM:=⟨2,1,.keep,[.env 1],air⟩
def al5:av:=au Ky (au (au (ax [uy,cW 90 [L0],lw,lq] tD) (au (ax [Bb] gp) (co E4 (au (ax [] [(2,v (.int .i64 180))]) .ret) .skip))) yr)
def anz:aM:=⟨5,1,.pure,[.env 2],al5⟩
def afQ:av:=au iE (au (ax [cW 116 [E0,E1],wn] my) .ret)
def aqU:aM:=⟨3,2,.pure,[.env 2],afQ⟩
def aly:av:=au I9 (au (ax [uy,cW 89 [L0],Iw] oU) .ret)
def aqu:aM:=⟨3,1,.pure,[.env 2],aly⟩
def aj4:av:=au (ax wD [(2,L0),(3,V0),(4,Vf)]) (au (ax [fI,aS,cW 50 [L1,v (.fn 13 [] []),E1],sq,mm] [(3,L3),(4,L4)]) .ret)
def aqE:aM:=⟨5,2,.pure,[.env 3,.env 4],aj4⟩
def alE:av:=au (ax sE [(1,L0),(2,jM)]) (au (au (ax [lP,aS,gr L1 jM] qM) (co E3 NR .skip)) (au (ax [lP,aS] my) .ret))
def aq1:aM:=⟨4,1,.pure,[.env 2],alE⟩
def al6:av:=au (ax [] [(0,v .nilm)]) (au (ax [tu,i (.mput L0 fT V1),i (.mput L0 xR dS),i (.mput L0 (v (.int .i64 9)) fT),i (.mput L0 (v (.int .i64 10)) gh),i (.mput L0 DS ig)] [(0,L0)]) .ret)
def ap9:aM:=⟨1,0,.pure,[.env 0],al6⟩
def alC:av:=au (ax sE HX) (au (ax [fI,g8,dr,i (.mkfn 157 [] [E1]),cW 155 [L2,L3]] B4) .ret)
def ard:aM:=⟨4,2,.pure,[.env 3],alC⟩
def aks:av:=au iE (au (ax [cW 156 [E0,E1],wn] my) .ret)
def aqP:aM:=⟨3,2,.pure,[.env 2],aks⟩
def alQ:av:=au (ax [FP] HX) (au (ax [eP,fI,dr,R2,FI] B4) .ret)
def aqA:aM:=⟨4,2,.pure,[.env 3],alQ⟩
def afv:av:=au iE (au (ax [cW 153 [E0,E1],wn] my) .ret)
def aqo:aM:=⟨3,2,.pure,[.env 2],afv⟩
def ZW:av:=au BL (au Bw (au (dg 1 (au (ax [fr 1 E9 oG,ij,fG,mC] nN) (au (ax [t8 E5,Do] po) (au (ax Ew vQ) (co iv (au (ax AY [(4,E6)]) .ret) .skip))))) BQ))
def aka:av:=au (ax Dw DG) (au (au (ax CH [(9,E1),(10,L0),(11,V0)]) (dg 0 (.loop [4,5,6,12,13] ZW))) (au (ax [iz 8 E2,cW 84 [L0,E1],fG,mC] lL) (au (au (ax [qw,Do] ua) (au (ax GA yh) (co vD (au (ax AY [(4,E8)]) .ret) .skip))) (au (ax [qw,Jl] [(4,V0)]) .ret))))
def aqq:aM:=⟨15,2,.pure,[.cell true 1 3,.env 4],aka⟩
def alU:av:=au (ax Dw Jq) (au (ax [iz 8 E1,cW 101 [L0],lw,lq,D4] tD) .ret)
def aqL:aM:=⟨4,1,.pure,[.cell true 1 2,.env 3],alU⟩
def amm:av:=au mQ (au (au (ax [] [(3,E0)]) (co E3 (au (ax [eP,tE,ei 23 L1,dL] rB) .ret) .skip)) (au (ax [eP,tE,ei 22 L1,dL] rB) .ret))
def aqN:aM:=⟨4,2,.pure,[.env 2],amm⟩
def adC:av:=au (ax [jW XE dS] [(30,L0)]) (au (co E30 .skip gZ) (au (dg 1 (au (ax [i (.idxv false 2 1 E28 XE)] tp) (au (au (ax [jW xN V0] [(31,L0)]) (co E31 gZ .skip)) (au (ax [so E6,g E1 true (.mov iv),g E1 true (.bin .eql L1 V0),eI E1 L2 Vf,i (.callv L0 [xN,L3]),nX,nF,fG,Kx] [(16,L7),(17,L6)]) (au (au (ax [pT AJ V0] [(32,L0)]) (co E32 (au (ax [t8 yb,IZ] [(9,AJ)]) .ret) .skip)) (ax [t8 yb,lX 1 [L0],oE 1 vD L1] [(14,L2)])))))) (ax [pZ XE V1] [(29,L0)])))
def amf:av:=au (ax zd [(8,L0),(9,V0)]) (au (ax [fI,aS,fr 9 L1 E0,iz 9 L2,DU,ez 9 L4 L3] [(10,L4)]) (au (au (ax [A8,aS,zF] [(23,L2)]) (co UX (au (ax [so E3,ei 3 mc,iz 4 L1,mD [n0,n0,n0,n0,n0,n0,.int .u64 0,.str []] [(0,1,V1),(4,4,L2)],i (.callv L0 [L3]),nX,nF,ez 1 E8 L5] [(9,L6)]) .ret) .skip)) (au (au (ax [A8,aS,Aq] [(24,L2)]) (co E24 (au (ax [so E4,ei 7 mc,dr,ei 8 mc,ed,mD [.str [],.str []] [(0,1,L2),(1,1,L4)],cW 94 [L0,L5],yf,yQ] [(11,L7),(12,L8)]) (au (au (ax [gr rh V0,g L0 true (.mov E1),eI L0 L1 Vf] [(25,L2)]) (co E25 (au (ax [so E4,tE,BY,ei 6 L2,ed,cW 198 [L4,oG]] [(11,L5)]) (au (ax [jW oG V0] [(26,L0)]) (co Z8 (ax [] [(12,v (.int .i64 225))]) .skip))) .skip)) (au (au (ax [pT rh V0] [(27,L0)]) (co E27 (au (ax IW [(9,rh)]) .ret) .skip)) (au (ax [so E3,mD [n0,n0,n0,n0,n0,n0,.int .u64 0,.str []] [(0,1,dS),(3,1,oG)],DC,sq,mm,ez 1 E8 L3] [(9,L4)]) .ret)))) .skip)) (au (ax [ut,A8,dr,R2] [(13,L3)]) (au (ax tG yh) (au (au (ax [ei 1 mc,aS,ei 2 mc,dL,mD [n0,n0] [(0,1,L1),(1,1,L3)]] [(28,L4),(29,V0)]) (dg 0 (.loop [9,15,16,17,30,31,32] adC))) (au (dg 2 (au (ax [JO iv V0,g L0 true (.mov E1),RO,tQ] [(33,L3)]) (co E33 (au (ax IW [(9,v (.int .i64 224))]) .ret) (au (ax [JO iv V0] [(34,L0)]) (co E34 (au (ax [mD [n0,.ai] [(0,1,iv)],NV,uI] [(18,L1)]) (au (au (ax [uV vD,JO L0 V0] [(35,L1)]) (co E35 (ax [JQ,ij,ei 1 Ec,mC] []) .skip)) (au (ax [so E4,iz 2 Ec,cW 205 [L0,L1],sq,mm] [(19,L3),(20,L4)]) (au (au (ax [pT Ur V0] [(36,L0)]) (co E36 (au (ax IW [(9,Ur)]) .ret) .skip)) (au (ax [so E3,mD [n0,n0,n0,n0,n0,n0,.int .u64 0,.str []] [(0,1,dS),(3,1,AX)],DC,sq,mm,ez 1 E8 L3] [(9,L4)]) .ret))))) .skip))))) (au (xW [A8,aS,JQ,mU,cW 148 [L1,L3],nX,nF,fG,Kx] [(21,L7),(22,L6)] [(0,8),(1,8),(2,8),(3,8),(4,8)]) (au (au (ax [uV vD,gr L0 dS] [(37,L1)]) (co E37 (ax [A8,aS,JQ,mU,fr 1 vD V1,t8 L4,cW 167 [L1,L3,L5],yf,yQ,ez 1 KR L7] [(22,L8)]) .skip)) (au (au (ax [gr O4 V0] [(38,L0)]) (co E38 (xW [t8 KR,so E7,i (.callv L1 [E1]),cW 41 [L0,L2],wE,wy] [(22,L5)] [(0,3)]) .skip)) (au (ax [t8 KR,IZ] [(9,O4)]) .ret)))))))))))
def aq9:aM:=⟨39,8,.pure,[.cell true 1 8,.env 9],amf⟩
def YM:av:=au oA (au ow (au (dg 1 (au qR (au (ax [wt,aS,gr E1 L1] lL) qY))) pb))
def aiK:av:=au kx (au (au ou (dg 0 (.loop [2,3,6,7] YM))) mE)
def arm:aM:=⟨8,2,.pure,[.env 2],aiK⟩
def ajX:av:=au (ax [mS,fG] DG) (au (ax [PX,jI,uJ,cW 83 [L0,L2],wE,wy,ez 1 E3 L4] [(4,L5)]) .ret)
def aqm:aM:=⟨5,2,.pure,[.cell true 1 3,.env 4],ajX⟩
def aiF:av:=au (ax [mS,mz 1 E2,fG] [(3,L0),(4,L1),(5,L2),(6,V0)]) (au (ax [PX,tx,GS,OH,cW 83 [L0,L3],nX,nF,ez 1 E5 L5] [(6,L6)]) .ret)
def aq5:aM:=⟨7,3,.pure,[.cell true 1 5,.env 6],aiF⟩
def uw:av:=au R0 (au KE (au (dg 3 (au (ax [fr 1 AX KR,aS] [(12,KR),(13,L1)]) (xW [fr 1 E4 iv,aS,i (.mins oG [L1]),iIa 2 1 mc rh,ez 1 L3 iv] [(11,L2)] [(0,5),(1,5)]))) RY))
def gS:av:=au IE (au NP (au (dg 1 (au (ax [fr 8 vD yb,zu,xn,zY] [(7,L2),(6,yb)]) (au (ax [xj,aS,cW 2 [L1]] Ii) (au (au (ax [jW E8 V0,Q6,JK,Le,RM,Im,g L5 false (.load true 8 E7),g L5 false (.call 7 [L6] false),Qm,eI L5 Vt L8] [(18,L9)]) Qe) (au (ax [uV E5,CT L0 E8,i (.slice 1 E5 (some L1) none)] yP) (au (ax Qz [(10,L1)]) (au (ax [] [(11,E6)]) (au (au (ax [uV E9] [(19,E9),(20,L0),(21,V0)]) (dg 2 (.loop [12,13,22] uw))) (au (au (ax [iz 2 mc,ei 1 E7,dr,ei 2 E7,ed,mD [n0,n0] [(0,1,L2),(1,1,L4)],i (.eqa true [0,0] L0 L5)] [(23,L6)]) (co UX JM .skip)) (au (ax [PA,oE 1 E4 L0] tk) (ax [uV E5,CT L0 E8,i (.slice 1 E5 none (some L1)),lX 1 [E6],oE 1 L2 L3] [(5,L4)]))))))))))) EB))
def QA:av:=au (ax wG [(1,L0),(2,L1),(3,Vf)]) (au (ax [Tw 1,Tw 1] [(4,L0),(5,L1)]) (au (au (ax za [(14,L1),(15,L2),(16,V0)]) (dg 0 (.loop [2,3,6,7,8,9,10,11,12,13,17,18,19,20,21,22,23] gS))) (au (ax [uV E5,gr L0 V1,g L1 true (.mov E4),g L1 true (.len L2),g L1 true (.bin .leq L3 (v (.int .i64 1000))),Di] [(2,E4),(3,L5)]) .ret)))
def aoC:aM:=⟨24,1,.pure,[.env 2,.env 3],QA⟩
def AP:av:=au (au (ax [uV E3,jW E4 L0] ua) (co E8 .skip mX)) (au (dg 3 (au (ax [fr 1 E3 E4,aS,CT E4 V1,fr 1 E3 L2,ed,pT L1 L4] [(9,L5)]) (co E9 (au (ax [fr 1 E3 E4,aS,fr 1 E0 E2,mC] []) Kw) .skip))) Gi)
def qJ:av:=au (au (ax [pc,jW E2 L0] po) ow) (au (dg 1 (au (ax [fr 1 E0 E2,aS,CT E2 V1,fr 1 E0 L2,ed,gr L1 L4] [(7,L5)]) (co E7 (au (ax [Qo] iq) (au (au (ax [] [(4,V1)]) (dg 2 (.loop [8,9] AP))) (au (ax [Qo,i (.clr (.int .i64 0) L0)] []) (au (ax [i (.slice 1 E0 none (some E2))] lN) .ret)))) .skip))) Kw)
def PW:av:=au kA (au (au (ax [pc,jW L0 dS] vj) (co E5 (au (ax [] [(1,E0)]) .ret) .skip)) (au (au (ax [] [(2,V1)]) (dg 0 (.loop [1,3,4,6,7,8,9] qJ))) (au (ax [] [(1,E0)]) .ret)))
def aoB:aM:=⟨10,1,.keep,[.env 1],PW⟩
def abV:av:=au mQ (au (ax [eP,eP,eR,CT L2 E0,i (.slice 1 L0 (some L3) none),ND] [(3,L5)]) (au (ax [eP,eP,eR,CT L2 E0,i (.slice 1 L0 none (some L3)),ez 1 E1 L4] []) Kc))
def apE:aM:=⟨4,2,.keep,[.env 2],abV⟩
def CD:av:=au ms (au (dg 0 (au (ax [gr E0 V1,ln,QN,ov] rB) (co E2 sD (au (ax [KQ E0 gh,u7,g L0 true (.bin .leq L1 ww),tQ] tD) (co E3 zy (au (ax [KQ E0 Ez,u7,g L0 true (.bin .leq L1 AQ),tQ] [(4,L3)]) Ru)))))) zJ)
def anV:aM:=⟨5,1,.pure,[.env 1],CD⟩
def qV:av:=au oA (au ow (au (dg 1 (au qR (au (ax [wt,aS,uv] lL) qY))) pb))
def WV:av:=au kx (au (au ou (dg 0 (.loop [2,3,6,7] qV))) mE)
def aoT:aM:=⟨8,2,.pure,[.env 2],WV⟩
def UT:av:=au mQ (au (au (ax [jW E1 V0] iq) (co E3 (ax [i .bad,i .bad] []) .skip)) (au (au (ax [i (.cap E0),pc,CT L0 L1,CT E1 L2] qy) (au (ax [JO E1 V0] gp) (co E4 (ax [i (.cap E0),i (.slice 1 E0 none (some L0)),i (.appz 1 (.int .i64 0) L1 E1),pc,i (.slice 1 L2 none (some L3))] [(0,L4)]) .skip))) (au I6 .ret)))
def aoU:aM:=⟨5,2,.keep,[.env 2],UT⟩
def abo:av:=au iE (au (ax [jW E0 V0,ln,g L0 false (ld E1),Le,g L0 false (.bin .geq L1 L3),Im] [(2,L5)]) .ret)
def apc:aM:=⟨3,2,.pure,[.env 2],abo⟩
def qO:av:=au oA KF
def UZ:av:=au kx (au (au ou (dg 0 (.loop [2,3,6,7] qO))) mE)
def aoG:aM:=⟨8,2,.pure,[.env 2],UZ⟩
def Lb:av:=au ms (au (au (ax [gr E0 fT,ln,g L0 false (.bin .geq L1 xR),Jj,KP,g L3 true (.bin .leq L4 DS),Qd,eI L0 Vt L6] [(2,L7)]) (co E2 zJ .skip)) (au (ax [cW 277 [E0]] lN) .ret))
def aob:aM:=⟨3,1,.pure,[.env 1],Lb⟩
def QQ:av:=au (ax [mz 8 E0] ta) (au (au AF (dg 0 (au Dx (co E4 (au (ax [wk,sB,cW 278 [L1],BM,kT,Rw,sk] qG) .ret) (au Dk (co E5 (au (ax [wk,sB,uU,DK,C7,p8,g L3 true (.bin .geq L5 V0),wh,g L7 true (.fld 3 E1),Bk,g L7 true (.bin .lss L9 up),eI L7 fP Vf] [(2,iS)]) .ret) .skip)))))) (au (ax [wk,sB,uU,DK,C7,p8,g L3 true (.bin .eql L5 V0),wh] [(2,L7)]) .ret))
def aor:aM:=⟨6,1,.pure,[.env 2],QQ⟩
def af6:av:=au kx (au (ax [cW 25 [E0,E1]] gU) .ret)
def arf:aM:=⟨3,2,.pure,[.env 2],af6⟩
def ajO:av:=au ms (au (au (ax [cW 57 [E0,v (.fn 14 [] [])]] gU) (au (ax [KQ E2 V0] iq) (co E3 Cb .skip))) (au (ax [wP] lN) .ret))
def arb:aM:=⟨4,1,.pure,[.env 1],ajO⟩
def XM:av:=au oA (au ow (au (dg 1 (au qR (au (ax [wt,aS,uv] lL) qY))) pb))
def ahb:av:=au kx (au (au ou (dg 0 (.loop [2,3,6,7] XM))) mE)
def aqG:aM:=⟨8,2,.pure,[.env 2],ahb⟩
def aiq:av:=au iE (au (ax [eP,cW 61 [L0,E0]] my) .ret)
def aqH:aM:=⟨3,2,.pure,[.env 2],aiq⟩
def aha:av:=au iE (au (ax [cW 62 [E0,E1]] gU) .ret)
def aqX:aM:=⟨3,2,.pure,[.env 2],aha⟩
def Yn:av:=dg 1 (au (au (ax [cW 4 [E0,E1,Vn],zZ] ua) (co E8 (au (ax [] [(4,E5)]) .ret) .skip)) (au (ax [cf,g8,dr,Dy,ei 2 L3,lH,i (.lookk [] (.int .i64 0) true E2 L5),yf,yQ] [(6,L7),(7,L8)]) (au (au (ax [i (.una .not E7)] sd) (co E9 (au (ax [] [(4,E5)]) .ret) .skip)) (au Fh (ax [i (.callv E3 []),lX 1 [E5,L0],cW 165 [E6,L1]] nN)))))
def ais:av:=au (ax nO gp) (au (ax [i (.callv E3 [])] iD) (dg 0 (.loop [4,6,7,8,9] Yn)))
def aqI:aM:=⟨10,4,.keep,[.env 4],ais⟩
def aeN:av:=au kA (au (ax [tu,i (.mputk [] L0 (v (.str [65,78,68])) Jw),i (.mkfn 111 [E0] []),Rh] qy) .ret)
def aqy:aM:=⟨2,1,.keep,[.env 1],aeN⟩
def acZ:av:=au R0 (au KE (au (dg 3 (au (ax [fr 1 AX KR,aS] [(12,L1)]) (xW [ei 0 oG,aS,fr 2 E4 rh,rR,ed,i (.mins L1 [L4]),ei 1 oG,wo,fr 2 E4 rh,ei 1 L8,so L9,pZ fP V1,i (.maxs L7 [iS]),ei 0 oG,ez 1 lT L5,ei 1 oG,ez 1 wu ml] [] [(8,15),(9,15),(10,15)]))) RY))
def adF:av:=au B0 (au (co yb .skip gZ) (au (dg 1 (au (ax PV [(7,L2),(6,xN)]) (au (ax [xj,aS,cW 66 [L1]] Ii) (au (au (ax [jW E8 V0,Q6,JK,Le,RM,Im,g L5 false (.load true 9 E7),g L5 false (.call 67 [L6] false),Qm,eI L5 Vt L8] [(17,L9)]) (co AJ JM .skip)) (au (ax [uV E5,CT L0 E8,i (.slice 1 E5 (some L1) none)] yP) (au (ax [i (.mksl 1 [gY,gY])] px) (au (ax [i (.copy 1 mc E9)] []) (au (au (ax [ei 1 E7,aS,fr 1 mc V0,dL,Ko,g L4 false (.fld 2 E7),BT,g L4 false (.mov mc),g L4 false (.idxs 1 L7 V1),Ke,g L4 false (.bin .neq L6 L9),eI L4 Vt fP] [(18,iS)]) Qe) (au (ax [mD [n0,n0] [(0,1,E6),(1,1,V1)],mz 2 (v (.agg [n0,n0])),uI] [(11,L1)]) (au (au (ax [uV E9] [(19,E9),(20,L0),(21,V0)]) (dg 2 (.loop [12,22] acZ))) (au (ax [iz 2 oG,Ki,oE 2 E4 L1] sI) (ax [uV E5,CT L0 E8,i (.slice 1 E5 none (some L1)),lX 1 [E6],oE 1 L2 L3] [(5,L4)])))))))))))) A5))
def al4:av:=au (ax wG [(1,L0),(2,L1),(3,Vf)]) (au (ax [Tw 2] gp) (au (ax tG iD) (au (au (ax za Jr) (dg 0 (.loop [2,3,6,7,8,9,10,11,12,16,17,18,19,20,21,22] adF))) (au (ax [uV E5,gr L0 V1,g L1 true (.mov E4),g L1 true (.len L2),g L1 true (.bin .leq L3 (v (.int .i64 300))),Di,g L5 true (.mov E4),g L5 true (.mov E4),g L5 true (.len L7),g L5 true (.bin .sub L8 V1),g L5 true (.idxs 2 L6 L9),g L5 true (.fld 1 fP),g L5 true (ld iS),g L5 true (.bin .leq ml Kf),eI L5 lT Vf] [(2,E4),(3,mi)]) .ret))))
def anB:aM:=⟨23,1,.pure,[.env 2,.env 3],al4⟩
def X5:av:=au oA (au ow (au (dg 1 (au qR (au (ax [wt,ij,uv] lL) qY))) pb))
def aik:av:=au kx (au (au ou (dg 0 (.loop [2,3,6,7] X5))) mE)
def aqO:aM:=⟨8,2,.pure,[.env 2],aik⟩
def ZO:av:=au oA (au ow (au (dg 1 (au qR (au (ax [fr 9 E0 E3,Mn,uv] lL) qY))) pb))
def agU:av:=au kx (au (au ou (dg 0 (.loop [2,3,6,7] ZO))) mE)
def aqp:aM:=⟨8,2,.pure,[.env 2],agU⟩
def YT:av:=au oA KF
def ag1:av:=au kx (au (au ou (dg 0 (.loop [2,3,6,7] YT))) mE)
def aqY:aM:=⟨8,2,.pure,[.env 2],ag1⟩
def YU:av:=au (ax [jW mc E9] tw) (au (co oG .skip gZ) (au (dg 1 (au (ax [fr 1 E8 mc,ij,fG,mC] [(7,L2),(6,mc)]) (au (ax [qw,cW 102 [E4,L0]] tk) (ax [uV E4,Dp,iIa 2 1 E5 E6,mC] [])))) Pd))
def afk:av:=au (ax Dw Bp) (au (ax [Tw 8] gp) (au (ax Qz vj) (au (au (ax CH [(8,E1),(9,L0),(10,V0)]) (dg 0 (.loop [6,7,11] YU))) (au (xW [iIa 2 1 E5 V0,aS,iIa 2 1 E5 V1,dL,fw,ez 1 L4 L1,nT,ez 1 L6 L3] [] [(2,6),(3,6)]) (au (ax [iz 8 E2,lX 8 [L0],oE 8 E4 L1,OS,ez 1 E3 L3] []) .ret)))))
def aqw:aM:=⟨12,2,.pure,[.cell true 1 3],afk⟩
def PS:av:=au (ax [mz 8 E0] ta) (au (au AF (dg 0 (au Dx (co E4 (au (ax [wk,sB,cW 26 [L1],BM,kT,Rw,sk] qG) .ret) (au Dk (co E5 (au (ax [wk,sB,uU,DK,C7,p8,g L3 true (.bin .geq L5 V0),wh,g L7 true (.fld 3 E1),Bk,g L7 true (.bin .lss L9 up),eI L7 fP Vf] [(2,iS)]) .ret) .skip)))))) (au (ax [wk,sB,uU,DK,C7,p8,g L3 true (.bin .eql L5 V0),wh] [(2,L7)]) .ret))
def aom:aM:=⟨6,1,.pure,[.env 2],PS⟩
def Hg:av:=au ms (au (dg 0 (au (ax [jW E0 V1,ln,g L0 false (.bin .gtr L1 AQ),ov] rB) (co E2 zJ (au (ax [iLq E0 fT] iq) (co E3 sD (au (ax [iLq E0 DS] gp) (co E4 zy .skip))))))) Dc)
def an7:aM:=⟨5,1,.pure,[.env 1],Hg⟩
def abX:av:=au KO (au (ax [zt,cW 187 [L0],g L1 true (.fld 0 E1),g L1 true (ld L2),g L1 true (.bin .neq L3 gh),Di] [(2,L5)]) .ret)
def ao7:aM:=⟨3,1,.pure,[.env 2],abX⟩
def agn:av:=au kx (au (ax [cW 58 [E0,E1,Vt]] gU) .ret)
def aqb:aM:=⟨3,2,.pure,[.env 2],agn⟩
def agL:av:=au lg (au (ax [cW 15 [E0],zZ] qh) .ret)
def aqK:aM:=⟨2,1,.pure,[.env 1],agL⟩
def aib:av:=au lg (au (ax [cW 3 [E0],ln,g L0 false (.call 1 [L1] false),ov,Js,g L3 false (.call 19 [L4] false),Gy,RP,g L6 false (.bin .eql L7 (v (.int .i32 95))),eI L6 Vt L8] [(1,L9)]) .ret)
def ara:aM:=⟨2,1,.pure,[.env 1],aib⟩
def aj8:av:=au iE (au (ax [wP,iLt E1,KQ L0 L1,g L2 true (.mov E0),Kp,g L2 true (.lent L4),g L2 true (.slicet L3 none (some L5)),Kp,g L2 true (.bin .eql L6 L7),eI L2 L8 Vf] [(2,L9)]) .ret)
def ap8:aM:=⟨3,2,.pure,[.env 2],aj8⟩
def ZA:av:=au B0 (au Iz (au (dg 3 (au (ax PV Ii) (au (au (ax [Dj,aS,yy] [(17,L2)]) (co AJ (ax [Dj,aS,pZ L1 E7,Dj,sY] []) .skip)) (au (au (ax QM [(18,L2)]) (co Ec (ax [DR,aS,pZ L1 E7,DR,sY] []) .skip)) (ax [iz 9 E8,KC,oE 9 E4 L1] sI))))) A5))
def Zu:av:=au BL (au Bw (au (dg 1 (au (ax [fr 1 E9 oG,aS] [(5,oG),(6,L1)]) (au (ax [uV E4] kz) (au (au (ax [uV E6] [(13,E6),(14,L0),(15,V0)]) (dg 2 (.loop [8,16,17,18] ZA))) (au (ax [gr E5 V0] FR) (co AX (ax [uV E4,Dp,uM,mC] []) (ax [uV E4,Dp,J0,mC] []))))))) BQ))
def ahi:av:=au mQ (au (ax [mD [n0,n0,n0,n0,n0,.int .u64 0,.str [],.str [],.str []] [(0,1,E0),(1,1,gY),(2,1,gY)],DU,ez 9 L1 L0] tq) (au (ax [Tw 9] gp) (au (au (ax CH [(9,E1),(10,L0),(11,V0)]) (dg 0 (.loop [5,6,7,8,12,13,14,15,16,17,18,19] Zu))) (au (ax [iz 9 E3,KC,oE 9 E4 L1] oU) .ret))))
def aqa:aM:=⟨20,2,.pure,[.env 2],ahi⟩
def agG:av:=au kA (au (au (ax [cW 18 [E0,V1,v (.str [78,79,84])]] gU) (co E2 (au (ax [cW 111 [E0],lX 1 [L0],cW 165 [ig,L1]] xe) .ret) .skip)) (au (ax [cW 112 [E0]] lN) .ret))
def aqB:aM:=⟨3,1,.keep,[.env 1],agG⟩
def alF:av:=au ms (au (dg 0 (au (ax [jW E0 V1,ln,g L0 false (.bin .gtr L1 AQ),ov] rB) (co E2 zJ (au (ax [iLq E0 fT] iq) (co E3 sD (au (ax [iLq E0 DS] gp) (co E4 zy .skip))))))) Dc)
def anG:aM:=⟨5,1,.pure,[.env 1],alF⟩
def alj:av:=au DI (au (ax [uN,aS,pT L1 jM,g L2 false (.fld 8 E1),yI,g L2 false (.bin .neq L4 jM),C1,qa,iz 4 L7,uU,i (.eqa true [0,0,0,2] L8 L9)] [(3,L6),(4,fP)]) (au (au (ax Ot vj) (dg 0 (au (ax [gr E5 V1] iH) (co E6 (au (ax [Bb,g L0 true (.fld 3 E1),g L0 true (.load true 4 L1),g L0 true (.call 26 [L2] false),eI L0 L3 Vf,g L4 true (.fld 3 E1),g L4 true (.fld 1 L5),g L4 true (ld L6),g L4 true (.bin .geq L7 V0),eI L4 L8 Vf,g L9 true (.fld 3 E1),g L9 true (.fld 3 fP),g L9 true (ld iS),g L9 true (.call 133 [ml] false),eI L9 lT Vf] [(2,mi)]) .ret) (au (ax [gr E5 dS] kz) (co E7 (au (ax [i (.una .not E4),g L0 true (.fld 8 E1),g L0 true (ld L1),g L0 true (.call 11 [L2] false),eI L0 L3 Vf,g L4 true (.fld 7 E1),BH,RH,Ja] [(2,L8)]) .ret) .skip)))))) (au (ax [Bb,Jx,RO,tQ] rB) .ret)))
def anC:aM:=⟨8,1,.pure,[.env 2],alj⟩
def YI:av:=au Af (au rW (au (dg 1 (au (ax Rq nN) (au (au (ax VN [(10,L2)]) (co mc (ax [wI,aS,pZ L1 E4,wI,sY] []) .skip)) (au (au (ax T1 [(11,L2)]) (co oG (ax [ET,aS,pZ L1 E4,ET,sY] []) .skip)) (ax [iz 8 E5,lX 8 [L0],oE 8 E0 L1] [(0,L2)]))))) rM))
def aiZ:av:=au (ax [mS,vY] Bp) (au (ax Fu gp) (au (au (ax Bi Nx) (dg 0 (.loop [5,9,10,11] YI))) (au (ax [] [(3,E0)]) .ret)))
def arj:aM:=⟨12,2,.keep,[.env 3],aiZ⟩
def aaF:av:=au KO (au (ax [zt,cW 27 [L0],D9,g L2 true (.fld 0 E1),kT,g L2 true (.bin .neq L4 gh),sk] qG) .ret)
def apM:aM:=⟨3,1,.pure,[.env 2],aaF⟩
def pY:av:=au KO (au (au AF (dg 0 (au (ax [gr E3 V0] gp) (co E4 (au (ax [zt,uU,i (.eqa false [0,0,0,2] L0 L1)] oU) .ret) (au (ax [gr E3 V1] iD) (co E5 (au (ax [qb,aS,gr L1 C2,BM,kT,IF,sk,g L6 true (.fld 1 E1),JP,g L6 true (.bin .eql L8 V0),g L6 true (.mov L9),g fP false (.fld 1 E1),B3,g fP false (.bin .eql ml V1),g L6 true (.pick fP Vt lT),eI L6 mi Vf] [(2,wu)]) .ret) (au (ax [gr E3 dS] iH) (co E6 (au (ax [qb,aS,gr L1 C2,BM,kT,IF,sk] qG) .ret) (au (ax [gr E3 fT] kz) (co E7 (au (ax [lP,aS,D9,g L2 true (.fld 2 E1),kT,g L2 true (.bin .eql L4 C2),sk,g L6 true (.fld 3 E1),JP,g L6 true (.lent L8),g L6 true (.bin .leq L9 (v (.int .i64 40))),eI L6 fP Vf] [(2,iS)]) .ret) .skip)))))))))) (au (ax [gn,aS,gr L1 gh,BM,kT,IF,sk] qG) .ret))
def anK:aM:=⟨8,1,.pure,[.env 2],pY⟩
def Yy:av:=au (ax [i (.nexts E6),BD] [(7,L0),(8,L1)]) (au yj (dg 1 (au (ax [xK 1 E7,xK 2 E7] [(4,L0),(5,L1)]) (au (ax [i (.callv E1 [E5]),i (.eqb false L0 E2)] [(9,L1)]) (co E9 Iq .skip)))))
def akE:av:=au yU (au (au (ax [i (.rngs E0)] iH) (dg 0 (.loop [3,4,5,7,8,9] Yy))) (au (ax [] [(3,gY)]) .ret))
def arv:aM:=⟨10,3,.pure,[.env 3],akE⟩
def aip:av:=au lg (au (ax [KQ E0 (v (.int .i32 65)),u7,g L0 true (.bin .leq L1 (v (.int .i32 90))),tQ] qy) .ret)
def aro:aM:=⟨2,1,.pure,[.env 1],aip⟩
def aju:av:=au kA (au (ax [cW 95 [E0]] gU) (au (ax [tu,i (.mputk [] L0 (v (.str [61])) up),i (.mputk [] L0 (v (.str [60,62])) (v (.int .i64 17))),i (.mputk [] L0 (v (.str [60])) (v (.int .i64 18))),i (.mputk [] L0 (v (.str [60,61])) (v (.int .i64 19))),i (.mputk [] L0 (v (.str [62])) Kf),i (.mputk [] L0 (v (.str [62,61])) (v (.int .i64 21)))] iq) (au (au (ax [cW 4 [E0,ig,Vn]] kz) (co E7 (au (ax [cf,g8,dr,Dy,ei 2 L3,lH,i (.lookk [] (.int .i64 0) true E3 L5),yf,yQ] [(4,L7),(5,L8)]) (au (ax [] [(8,E5)]) (co E8 (au Fh (au (ax [cW 95 [E0],lX 1 [E2,L0],cW 165 [E4,L1]] xe) .ret)) .skip))) .skip)) (au (au (ax [cW 18 [E0,V1,v (.str [73,83])],zZ] [(9,L1)]) (co E9 Cb .skip)) (au (ax [] [(6,vP)]) (au (au (ax [cW 18 [E0,V1,v (.str [78,79,84])]] px) (co mc (ax [] [(6,ww)]) .skip)) (au (ax [lX 1 [IK],wK] []) (au (ax [lX 1 [E2],cW 165 [E6,L0]] qh) .ret))))))))
def ary:aM:=⟨11,1,.keep,[.env 1],aju⟩
def adc:av:=au (ax [jW E4 E3] iD) (au F0 (au (dg 1 (au (ax [] [(2,E4)]) (au (ax [i (.idxt E0 E2),jW L0 (v (.int .u8 32)),NU,QS,g L1 false (.idxt L2 L3),g L1 false (.bin .gtr L4 (v (.int .u8 126))),eI L1 Vt L5] [(6,L6)]) (co E6 Eh .skip)))) Gi))
def amb:av:=au lg (au (au (ax [wP] [(3,L0),(4,V0)]) (dg 0 (.loop [1,2,5,6] adc))) Ob)
def aq2:aM:=⟨7,1,.pure,[.env 1],amb⟩
def Hf:av:=au (ax [mz 4 E0] [(1,L0),(2,V0)]) (au (au (ax [zt,cW 28 [L0],uU,i (.eqa true [0,0,0,2] L1 L2)] tD) (co E3 (au (ax [] [(2,v (.int .i64 120))]) .ret) .skip)) yr)
def an1:aM:=⟨4,1,.pure,[.env 2],Hf⟩
def aft:av:=au kA (au (ax [tu,i (.mputk [] L0 (v (.str [43])) Ez),i (.mputk [] L0 (v (.str [45])) (v (.int .i64 13))),i (.mkfn 96 [E0] []),QH] [(1,L4)]) .ret)
def arq:aM:=⟨2,1,.keep,[.env 1],aft⟩
def ye:av:=au (ax [mz 4 E0,mz 4 (v (.agg [n0,n0,.int .u64 0,.str []]))] vd) (au (au AF (dg 0 (au (dg 5 (au (dg 4 (au (dg 3 (au (dg 2 (au (dg 1 (au (au (au Dx (co E4 LH .skip)) (au (au Dk (co E5 mX .skip)) (au (au (ax [gr E3 V0] iH) (co E6 (.exit 3) .skip)) (au (au (ax [gr E3 fT] kz) (co E7 FE .skip)) (au (ax [gr E3 gh] uB) (co E8 (.exit 5) .skip)))))) gZ)) (au (ax [lP,aS,Iw,I4,kT,g L2 true (.bin .neq L4 V1),sk] [(9,L6)]) (co E9 gZ .skip)))) (ax [lP,Ax] []))) (au (ax [gn,Ax] []) gZ))) (au (au (ax [qa,aS,iLt L1,iLq L2 (v (.int .i64 40))] [(10,L3)]) (co mc (ax [gn,Ax,qa,ez 1 L2 jM] []) .skip)) gZ))) (au (ax [gn,Ax,lP,ez 1 L2 V0,qb,ez 1 L4 C2] []) gZ)))) (au (ax [zt,xr] []) .ret))
def anQ:aM:=⟨11,1,.pure,[.cell true 4 2],ye⟩
def af4:av:=au kA (au (ax [tu,i (.mputk [] L0 (v (.str [42])) (v (.int .i64 14))),i (.mputk [] L0 (v (.str [47])) (v (.int .i64 15))),i (.mkfn 97 [E0] []),QH] [(1,L4)]) .ret)
def aqF:aM:=⟨2,1,.keep,[.env 1],af4⟩
def afY:av:=au kA (au (au (ax [cW 18 [E0,ig,v (.str [45])]] gU) (co E2 (au (ax [cW 97 [E0],lX 1 [L0],cW 165 [gh,L1]] xe) .ret) .skip)) (au (ax [cW 98 [E0]] lN) .ret))
def arl:aM:=⟨3,1,.keep,[.env 1],afY⟩
def aiz:av:=au kA (au (dg 0 (au (ax [cW 4 [E0,fT,Vn]] gp) (co E4 (au (ax [Bv,i (.fldv false 1 3 L0),i (.conv .i64 L1),cW 164 [dS,L2,jM]] qy) .ret) (au (ax [cW 4 [E0,gh,Vn]] iD) (co E5 (au (ax [Bv,xk,cW 164 [fT,V0,L1]] xe) .ret) (au (ax [cW 18 [E0,V1,RV]] iH) (co E6 (au (ax [cW 164 [V1,V1,jM]] lN) .ret) (au (ax [cW 18 [E0,V1,Qi]] kz) (co E7 (au (ax [cW 164 [V1,V0,jM]] lN) .ret) (au (ax [cW 18 [E0,V1,IK]] uB) (co E8 (au (ax [cW 164 [V0,V0,jM]] lN) .ret) (au (ax [lX 1 [Ry,v (.str [83,85,77]),v (.str [77,73,78]),v (.str [77,65,88])],Nw] [(9,L1)]) (co E9 (au (ax [Bv,xk,cW 215 [E0,L1]] xe) .ret) (au (ax [cW 18 [E0,ig,v (.str [40])]] px) (co mc (au (ax [cW 109 [E0]] gU) (au (ax [lX 1 [v (.str [41])],cW 73 [E0,ig,L0]] []) Cb)) .skip))))))))))))))) (au (ax [cW 113 [E0],uH,uI] tq) (au (ax [iA,aS,uM,dL,mD [n0,n0,n0,n0,n0,.int .u64 0,.str [],.str [],.str []] [(0,1,dS),(7,1,L1),(8,1,L3)],cW 99 [L4]] [(1,L5)]) .ret)))
def aru:aM:=⟨11,1,.keep,[.env 1],aiz⟩
def ajj:av:=au (ax nO iq) (au (ax [mD [n0,n0,.int .u64 0,.str []] [(0,1,E0),(1,1,E1),(3,1,E2)],mD [n0,n0,n0,n0,n0,.int .u64 0,.str [],.str [],.str []] [(0,1,V1),(3,4,L0)],cW 99 [L1]] qM) .ret)
def ap7:aM:=⟨4,3,.pure,[.env 3],ajj⟩
def ajt:av:=au (ax [FP,vY] vd) (au (ax [lP,J6,qb,ez 1 L2 gY] []) (au (ax [iz 9 E1,KC] my) .ret))
def aqZ:aM:=⟨3,1,.pure,[.env 2],ajt⟩
def tbl:List jq:=[
.none,
.fn aps,
.fn anV,
.fn apy,
.fn aqi,
.fn apH,
.fn aoX,
.fn aom,
.prim 4,
.fn apP,
.fn ao9,
.fn anW,
.nilfn apv,
.fn apj,
.fn aqK,
.fn ara,
.fn apZ,
.fn aoC,
.fn aqe,
.fn aro,
.fn apE,
.fn apg,
.fn apk,
.fn aqM,
.fn arf,
.prim 6,
.fn apM,
.fn an1,
.fn anQ,
.fn aoN,
.fn apw,
.fn anU,
.fn anS,
.fn anO,
.fn apQ,
.round ot,
.fn api,
.fn aoZ,
.fn apW,
.fn apa,
.fn ap3,
.fn aof,
.fn apo,
.prim 2,
.none,
.none,
.none,
.none,
.fn aoB,
.fn aoO,
.fn apu,
.fn aqI,
.fn apO,
.fn aoh,
.fn aoL,
.fn are,
.fn arb,
.fn aqb,
.fn arv,
.round Gf,
.fn aqH,
.fn aqX,
.fn ap8,
.fn aqQ,
.nilfn apU,
.prim 8,
.fn anG,
.fn anC,
.fn anA,
.fn aoa,
.nilfn apm,
.nilfn ao3,
.nilfn ap5,
.fn aqr,
.fn ap6,
.fn aoT,
.fn aph,
.fn an8,
.fn ape,
.fn aoY,
.fn an6,
.fn ap9,
.fn aq9,
.fn aqq,
.fn aqw,
.fn aoQ,
.fn ao0,
.fn apd,
.fn ao1,
.fn anz,
.fn anB,
.fn ao5,
.fn apA,
.fn arh,
.fn aqh,
.fn arq,
.fn aqF,
.fn arl,
.fn aru,
.fn aqZ,
.fn aqL,
.fn art,
.fn arj,
.fn aqN,
.fn aou,
.fn apn,
.fn aoz,
.fn aq4,
.fn aq8,
.fn aqW,
.fn aqy,
.fn aqB,
.fn ary,
.fn aqk,
.fn aqc,
.fn aqU,
.fn aqO,
.fn aqu,
.fn aoF,
.fn apb,
.fn aqJ,
.fn ari,
.fn ark,
.fn aqT,
.fn aqC,
.fn aq6,
.fn aqD,
.fn aqn,
.fn aql,
.fn aqV,
.fn aq7,
.fn aqz,
.fn arc,
.fn aq2,
.fn aqs,
.fn anD,
.fn aqS,
.fn arn,
.fn anx,
.fn anE,
.fn anH,
.fn aqt,
.fn ars,
.fn aqj,
.fn aqE,
.fn aq1,
.fn arx,
.fn aqx,
.fn aqm,
.fn aqd,
.fn aqv,
.fn aqf,
.fn aqo,
.fn aqY,
.fn ard,
.fn aqP,
.fn aqp,
.fn aqA,
.fn aoE,
.fn an3,
.fn apK,
.fn aoG,
.fn aq3,
.fn aqG,
.fn ap7,
.fn aqa,
.fn arp,
.fn aq5,
.fn aqg,
.fn arw,
.fn aq0,
.fn anZ,
.fn aoH,
.fn aog,
.fn ao2,
.fn aoP,
.fn ao8,
.fn apt,
.fn apC,
.fn aoK,
.fn anT,
.fn aoS,
.fn aoM,
.fn aoV,
.fn aoo,
.fn aqR,
.fn aoy,
.fn anK,
.fn ap4,
.none,
.none,
.fn apY,
.none,
.none,
.none,
.none,
.none,
.none,
.fn arm,
.fn apN,
.fn an2,
.fn apL,
.fn aoI,
.fn apI,
.none,
.none,
.none,
.none,
.none,
.none,
.none,
.none,
.none,
.none,
.none,
.none,
.fn apl,
.fn ap2,
.fn aoe,
.fn apr,
.fn an9,
.fn aow,
.fn apT,
.fn apV,
.fn aos,
.fn aon,
.fn aoD,
.fn anX,
.fn apf,
.fn aoA,
.fn aot,
.fn aok,
.fn anJ,
.fn aoi,
.fn ao4,
.fn apz,
.fn apG,
.fn aoj,
.fn anY,
.fn apR,
.fn apq,
.fn aov,
.fn aox,
.fn aol,
.fn aop,
.fn anI,
.fn anL,
.fn anF,
.fn apB,
.fn ap0,
.fn apX,
.fn apD,
.fn apF,
.fn ao6,
.fn aoq,
.fn apJ,
.fn ap1,
.fn anR,
.fn aod,
.fn anP,
.fn an0,
.fn apS,
.fn aoJ,
.fn an5,
.fn anN,
.fn aoc,
.fn aoR,
.fn an4,
.fn apx,
.fn anM,
.fn aoW,
.fn aoU,
.fn apc,
.fn aor,
.fn aob,
.none,
.none,
.fn an7,
.fn ao7]
end Go.AM.P
namespace Go.AM
def code:Code:=⟨fun n=>P.tbl.getD n .none,prims⟩
end Go.AM
namespace Go.AM.I
abbrev qel:Nat:=1
abbrev qdw:Nat:=2
abbrev qef:Nat:=3
abbrev qhr:Nat:=5
abbrev qie:Nat:=6
abbrev qdp:Nat:=7
abbrev strings_ToUpper:Nat:=8
abbrev qea:Nat:=9
abbrev qcy:Nat:=10
abbrev qdz:Nat:=11
abbrev qhh:Nat:=12
abbrev qdf:Nat:=13
abbrev qdh:Nat:=16
abbrev qdq:Nat:=17
abbrev qdv:Nat:=20
abbrev qdk:Nat:=21
abbrev qda:Nat:=22
abbrev qik:Nat:=26
abbrev qij:Nat:=27
abbrev qil:Nat:=28
abbrev qhz:Nat:=29
abbrev qdc:Nat:=30
abbrev qes:Nat:=31
abbrev qfo:Nat:=32
abbrev qev:Nat:=33
abbrev qfj:Nat:=34
abbrev qcz:Nat:=36
abbrev qhu:Nat:=37
abbrev qdg:Nat:=38
abbrev qfe:Nat:=39
abbrev qfm:Nat:=40
abbrev qdj:Nat:=41
abbrev qdi:Nat:=42
abbrev slices_Sort_int_int:Nat:=43
abbrev qhi:Nat:=48
abbrev qdu:Nat:=49
abbrev qdb:Nat:=50
abbrev qcw:Nat:=52
abbrev qcv:Nat:=53
abbrev qdd:Nat:=54
abbrev qhe:Nat:=64
abbrev qfg:Nat:=69
abbrev qhg:Nat:=70
abbrev qhd:Nat:=71
abbrev qhf:Nat:=72
abbrev qhq:Nat:=74
abbrev qib:Nat:=75
abbrev qdo:Nat:=76
abbrev qfi:Nat:=77
abbrev qet:Nat:=78
abbrev qfd:Nat:=80
abbrev qem:Nat:=85
abbrev qcu:Nat:=86
abbrev qho:Nat:=87
abbrev qde:Nat:=88
abbrev qex:Nat:=91
abbrev qfn:Nat:=92
abbrev qfh:Nat:=104
abbrev qfz:Nat:=105
abbrev qfc:Nat:=106
abbrev qfv:Nat:=118
abbrev qep:Nat:=119
abbrev qga:Nat:=158
abbrev qfa:Nat:=159
abbrev qhm:Nat:=160
abbrev qhx:Nat:=161
abbrev qbc:Nat:=162
abbrev qfp:Nat:=171
abbrev qgb:Nat:=172
abbrev qfx:Nat:=173
abbrev qfy:Nat:=174
abbrev qn:Nat:=175
abbrev qo:Nat:=176
abbrev qu:Nat:=177
abbrev qeo:Nat:=178
abbrev qft:Nat:=179
abbrev qfu:Nat:=180
abbrev qfw:Nat:=181
abbrev qfq:Nat:=182
abbrev qen:Nat:=183
abbrev qhs:Nat:=184
abbrev qcj:Nat:=186
abbrev qbe:Nat:=187
abbrev qci:Nat:=188
abbrev qeq:Nat:=191
abbrev qez:Nat:=199
abbrev qey:Nat:=200
abbrev qew:Nat:=201
abbrev qff:Nat:=202
abbrev qfb:Nat:=203
abbrev qaw:Nat:=216
abbrev qbz:Nat:=217
abbrev qcr:Nat:=218
abbrev qfs:Nat:=219
abbrev qcq:Nat:=220
abbrev qbw:Nat:=221
abbrev qbb:Nat:=222
abbrev qal:Nat:=223
abbrev qap:Nat:=224
abbrev qau:Nat:=225
abbrev qat:Nat:=226
abbrev qbx:Nat:=227
abbrev qaz:Nat:=228
abbrev qao:Nat:=229
abbrev qav:Nat:=230
abbrev qas:Nat:=231
abbrev qcd:Nat:=232
abbrev qcs:Nat:=233
abbrev qck:Nat:=234
abbrev qct:Nat:=235
abbrev qcb:Nat:=236
abbrev qca:Nat:=237
abbrev qbf:Nat:=238
abbrev qby:Nat:=239
abbrev qba:Nat:=240
abbrev qan:Nat:=241
abbrev qam:Nat:=242
abbrev qar:Nat:=243
abbrev qce:Nat:=244
abbrev qco:Nat:=245
abbrev qcl:Nat:=246
abbrev qcf:Nat:=247
abbrev qbq:Nat:=248
abbrev qbr:Nat:=249
abbrev qbl:Nat:=250
abbrev qbj:Nat:=251
abbrev qbh:Nat:=252
abbrev qbg:Nat:=253
abbrev qaq:Nat:=254
abbrev qch:Nat:=255
abbrev qcc:Nat:=256
abbrev qcg:Nat:=257
abbrev qcp:Nat:=258
abbrev qcn:Nat:=259
abbrev qbn:Nat:=260
abbrev qbi:Nat:=261
abbrev qbk:Nat:=262
abbrev qcm:Nat:=263
abbrev qbu:Nat:=264
abbrev qbp:Nat:=265
abbrev qhj:Nat:=266
abbrev qer:Nat:=267
abbrev qfk:Nat:=268
abbrev qbv:Nat:=269
abbrev qbt:Nat:=270
abbrev qht:Nat:=271
abbrev qfl:Nat:=272
abbrev qbs:Nat:=273
abbrev qbo:Nat:=274
abbrev qbm:Nat:=277
abbrev qbd:Nat:=278
abbrev row_right:Nat:=294
abbrev slices_Clone_api_Row_api_Value:Nat:=299
end Go.AM.I
