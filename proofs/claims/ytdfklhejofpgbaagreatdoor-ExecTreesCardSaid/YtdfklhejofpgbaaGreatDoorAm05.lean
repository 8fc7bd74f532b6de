/- Part of the proof. -/
import Derived.Test.YtdfklhejofpgbaaGreatDoorAm04
set_option linter.unusedVariables false
set_option linter.unusedSimpArgs false
namespace Go.AM.P
abbrev u9(x y:cP):cj:=i (.bin .add x y)
abbrev oI(n:Nat)(x y:cP):cj:=i (.app n x y)
abbrev dF:=az.blk
abbrev pj(n:Nat)(x:cP):cj:=i (.box n x)
abbrev Cw(x:List ap)(y:List (Nat×Nat×cP)):cj:=i (.build x y)
abbrev dA(f:Nat)(x:List cP):cj:=i (.call f x false)
abbrev cY:=az.cond
abbrev jG(x y:cP):cj:=i (.bin .eql x y)
abbrev ta(n:Nat)(x:cP):cj:=i (.ext n x)
abbrev eu(n:Nat)(x:cP):cj:=i (.fld n x)
abbrev PI(x y:cP):cj:=i (.bin .geq x y)
abbrev QG(x y:cP):cj:=i (.bin .gtr x y)
abbrev iIa(m n:Nat)(x y:cP):cj:=i (.idxa m n x y)
abbrev f8(n:Nat)(x y:cP):cj:=i (.idxs n x y)
abbrev sG(x:cP):cj:=i (.len x)
abbrev iLt(x:cP):cj:=i (.lent x)
abbrev iLq(x y:cP):cj:=i (.bin .leq x y)
abbrev nM(n:Nat)(x:cP):cj:=i (.load true n x)
abbrev ov(x y:cP):cj:=i (.bin .lss x y)
abbrev mG(n:Nat)(x:List cP):cj:=i (.mkl n x)
abbrev Ye(n:Nat):cj:=i (.mknil n)
abbrev iMv(x:cP):cj:=i (.mov x)
abbrev iMu(x y:cP):cj:=i (.bin .mul x y)
abbrev pN(x y:cP):cj:=i (.bin .neq x y)
abbrev DL(x:cP):cj:=i (.nilck x)
abbrev gI(x y z:cP):cj:=i (.pick x y z)
abbrev aB:=az.reg
abbrev Kr:=az.regd
abbrev ax:=az.seq
abbrev eT(n:Nat)(x y:cP):cj:=i (.store n x y)
abbrev CM(x y:cP):cj:=i (.bin .sub x y)
abbrev wj(x:cP):cj:=i (ld x)
abbrev CZ(x:cP):cj:=i (lt x)
abbrev tT:az:=aB [] [(2,Vf)]
abbrev J0:cj:=i (.una .not L0)
abbrev S8:List (Nat×cP):=[(10,L1)]
abbrev Ll:az:=ax tT .ret
abbrev Kw:cP:=v (.int .i64 10)
abbrev aiW:cj:=Cw [.aj] [(0,1,L0)]
abbrev wW:cj:=pj 1 (v (.agg [.aj]))
abbrev Cp:cj:=eT 1 L2 L1
abbrev zQ:List (Nat×cP):=[(3,L2)]
abbrev D7:cP:=v (.int .i64 12)
abbrev rX:List (Nat×cP):=[(4,L2)]
abbrev kN:cj:=ta 0 L2
abbrev kL:cj:=ta 1 L2
abbrev vC:cP:=v (.int .i64 140)
abbrev adf:cj:=g L0 true (.bin .neq L1 vC)
abbrev LQ:cj:=gI L0 L2 Vf
abbrev Rg:az:=ax (aB [] [(2,Vt)]) .ret
abbrev nQ:cj:=eu 0 E3
abbrev bN:cj:=wj L0
abbrev mO:cj:=eu 0 E4
abbrev fC:cj:=wj L3
abbrev RU:cj:=ta 0 L5
abbrev Rn:cj:=ta 1 L5
abbrev Ue:cP:=v (.int .i64 291)
abbrev GN:List (Nat×cP):=[(12,L0)]
abbrev jF:cj:=ta 0 L1
abbrev jH:cj:=ta 1 L1
abbrev iY:List (Nat×cP):=[(2,L0)]
abbrev adq:cj:=g L0 false (.mov E8)
abbrev P1:cj:=g L0 false (.mov E6)
abbrev ac0:cj:=g L0 false (.bin .eql L1 L2)
abbrev eh:cP:=v (.int .i64 2)
abbrev kE:cP:=v (.int .i64 3)
abbrev uG:cj:=pj 12 (v (.agg [n0,n0,n0,n0,.aj,nf,.aj,.aj,.aj,.aj,.aj,n0]))
abbrev F2:cj:=nM 12 E2
abbrev pb:cP:=v (.int .i64 5)
abbrev zB:cP:=v (.int .i64 7)
abbrev lR:cP:=v (.int .i64 (-1))
abbrev rH:List (Nat×cP):=[(5,L4)]
abbrev w9:cj:=nM 4 E5
abbrev abm:cj:=g L0 true (.bin .eql L1 V0)
abbrev Sc:cj:=gI L3 L6 Vf
abbrev im:cP:=v (.int .i64 4)
abbrev Xo:cj:=gI mY Rq Vf
abbrev WX:cj:=gI AZ L28 Vf
abbrev GU:List (Nat×cP):=[(21,L0)]
abbrev pa:cj:=CZ L0
abbrev Qj:cj:=eu 9 E5
abbrev R7:cj:=eT 1 L4 L3
abbrev MT:List (Nat×cP):=[(20,L0)]
abbrev US:az:=aB [ov Ek CE] [(17,L0)]
abbrev ml:az:=.exit 2
abbrev zk:cj:=nM 2 L0
abbrev MH:cj:=pj 2 (v (.agg [n0,.aj]))
abbrev BO:cj:=eT 2 L2 L1
abbrev aaK:List cj:=[f8 2 va Ek,zk,MH,BO]
abbrev Ru:cj:=eu 8 E5
abbrev GX:cj:=eT 1 L6 L4
abbrev xw:List (Nat×cP):=[(16,L0)]
abbrev U8:az:=aB [u9 Ek V1] xw
abbrev vh:List (Nat×cP):=[(13,L0)]
abbrev qK:az:=aB [ov sO rq] vh
abbrev g7:az:=.exit 0
abbrev xx:az:=cY A3 .skip g7
abbrev DB:cj:=nM 12 L0
abbrev EL:cj:=eT 12 L2 L1
abbrev Us:List cj:=[f8 12 lJ sO,DB,uG,EL]
abbrev Jc:cP:=v (.int .i64 17)
abbrev yw:cP:=v (.int .i64 6)
abbrev so:cj:=wj L6
abbrev qI:cj:=wj xh
abbrev iw:cj:=sG L1
abbrev Px:List (Nat×cP):=[(14,L1),(15,L2),(16,V0)]
abbrev BD:cj:=eT 1 L3 L2
abbrev rc:az:=aB [u9 sO V1] GN
abbrev pS:cj:=iMv Vn
abbrev fR:List cj:=[pS]
abbrev kv:az:=aB fR iY
abbrev lV:List (Nat×cP):=[(3,L0)]
abbrev uq:az:=ax (aB [] [(2,E3)]) .ret
abbrev lZ:List (Nat×cP):=[(9,L0)]
abbrev qS:az:=aB [ov E8 E7] lZ
abbrev tI:az:=cY E9 .skip g7
abbrev Bq:List cj:=[f8 1 E6 E8,bN]
abbrev r9:cP:=v (.int .i64 8)
abbrev qY:List (Nat×cP):=[(10,L0)]
abbrev JX:cj:=mG 1 [L0]
abbrev r8:List (Nat×cP):=[(8,L0)]
abbrev sy:az:=aB [u9 E8 V1] r8
abbrev vK:List cj:=[Ye 1]
abbrev NW:az:=aB vK lV
abbrev fd:cj:=sG E0
abbrev uu:List cj:=[fd]
abbrev DU:az:=aB uu [(6,E0),(7,L0),(8,V0)]
abbrev I3:az:=aB [ov BP TW] MT
abbrev WJ:az:=cY Rs .skip g7
abbrev VU:List cj:=[f8 12 Gi BP,DB,uG,EL]
abbrev BF:cj:=ta 0 L4
abbrev By:cj:=ta 1 L4
abbrev Ax:cP:=v (.int .i64 8000)
abbrev Pt:cj:=gI L0 L3 Vf
abbrev F3:List cj:=[pN sO V0]
abbrev D6:List (Nat×cP):=[(22,L0)]
abbrev EO:cj:=ta 0 L0
abbrev DV:cj:=ta 1 L0
abbrev nL:cj:=CZ E2
abbrev At:cj:=DL E7
abbrev lh:cj:=eu 1 L0
abbrev dw:cj:=wj L1
abbrev AD:cj:=oI 1 L2 L3
abbrev Kq:az:=aB [u9 BP V1] [(19,L0)]
abbrev sc:cj:=pj 1 E0
abbrev vz:cj:=pj 1 E1
abbrev Pv:List (Nat×cP):=[(2,L0),(3,L1),(4,L2),(5,V0)]
abbrev UY:List cj:=[nL,dA 32 [L0],jF,jH]
abbrev Bz:List cj:=[pN E6 V0]
abbrev yt:List (Nat×cP):=[(15,L0)]
abbrev FA:cj:=i (.una .not L2)
abbrev Uv:cj:=Cw [.aj,.aj,.aj] [(0,1,L0)]
abbrev kj:List (Nat×cP):=[(7,L2)]
abbrev EJ:cj:=i .mkmap
abbrev kS:cj:=eu 0 E2
abbrev Ie:List cj:=[kS,bN,iw]
abbrev PR:List (Nat×cP):=[(17,L1),(18,L2),(19,V0)]
abbrev nk:cj:=wj L4
abbrev vB:cj:=wj L8
abbrev vp:cj:=eu 7 L0
abbrev r7:List (Nat×cP):=[(9,L2)]
abbrev AO:cj:=PI L1 V0
abbrev sr:cj:=pj 4 E0
abbrev IM:List (Nat×cP):=[(3,L0),(4,L1),(5,V0)]
abbrev Jz:List cj:=[pN E7 V0]
abbrev g8:cj:=nM 4 E3
abbrev vI:List (Nat×cP):=[(8,L2)]
abbrev vc:cj:=eu 0 L0
abbrev Jr:cj:=eu 0 L1
abbrev eZ:cj:=wj L2
abbrev Wh:List cj:=[DL E8,vc,Jr,eZ,sG L3]
abbrev pZ:List (Nat×cP):=[(11,L0)]
abbrev vV:List cj:=[sc]
abbrev Xg:List cj:=[CZ E1,dA 94 [L0],jF,jH,ta 2 L1]
abbrev lX:List (Nat×cP):=[(6,L0)]
abbrev PD:cP:=v (.int .i64 230)
abbrev OC:az:=aB [ov CE va] xw
abbrev EZ:cj:=nM 8 L0
abbrev Fw:cj:=pj 8 (v (.agg [n0,n0,n0,n0,n0,n0,.int .u64 0,.str []]))
abbrev FI:cj:=eT 8 L2 L1
abbrev Jt:cj:=eu 1 E8
abbrev Pd:az:=aB [u9 CE V1] yt
abbrev Bd:az:=aB [ov rq lJ] GN
abbrev FT:az:=cY sO .skip g7
abbrev eV:cj:=eu 1 E2
abbrev lB:cj:=eu 2 E2
abbrev AL:az:=aB [u9 rq V1] pZ
abbrev ff:List (Nat×cP):=[(4,L0)]
abbrev q9:cj:=sG E1
abbrev AX:List cj:=[q9]
abbrev FO:cj:=eT 1 E3 L0
abbrev sm:List (Nat×cP):=[(2,L0),(3,L1),(4,V0)]
abbrev tR:cj:=i (.una .not L1)
abbrev si:List (Nat×cP):=[(5,L2)]
abbrev jx:List (Nat×cP):=[(7,L0)]
abbrev FB:az:=aB [ov E6 E5] jx
abbrev Bx:az:=cY E7 .skip g7
abbrev qB:List (Nat×cP):=[(3,L1)]
abbrev PO:az:=aB [f8 1 E4 E6,bN] qB
abbrev sD:cj:=mG 4 [L0]
abbrev sF:List (Nat×cP):=[(2,L2)]
abbrev Fc:az:=aB [u9 E6 V1] lX
abbrev ur:List (Nat×cP):=[(1,L0)]
abbrev lW:az:=aB fR ur
abbrev EQ:List cj:=[Ye 4]
abbrev HS:az:=aB uu [(4,E0),(5,L0),(6,V0)]
abbrev Jm:az:=ax (aB [] [(1,E2)]) .ret
abbrev kV:List (Nat×cP):=[(5,L1)]
abbrev Bb:cj:=f8 1 E0 E3
abbrev DK:az:=aB [u9 E3 V1] lV
abbrev JP:List cj:=[fd,q9,pN L0 L1]
abbrev yc:az:=aB [] [(3,V0)]
abbrev BI:cj:=i (.mins L1 [E1])
abbrev Pm:az:=ax (aB [Ye 1,fd,BI,i (.slice 1 E0 none (some L2)),oI 1 L0 L3] [(2,L4)]) .ret
abbrev DY:az:=aB [ov E7 E6] r8
abbrev En:az:=cY E8 .skip g7
abbrev Pk:cj:=eT 1 L7 L6
abbrev D2:az:=aB [u9 E7 V1] jx
abbrev Eg:List (Nat×cP):=[(1,L0),(2,L1)]
abbrev su:cj:=eu 0 E1
abbrev O1:cP:=v (.int .i64 60)
abbrev I5:cj:=eT 1 E2 L0
abbrev Ja:az:=cY A3 .skip ml
abbrev OQ:cj:=f8 4 E5 E6
abbrev pT:cj:=eu 3 L0
abbrev Ia:az:=aB [ov E9 E8] qY
abbrev Ju:az:=cY lJ .skip g7
abbrev I6:cj:=f8 1 E7 E9
abbrev vU:List (Nat×cP):=[(4,L1)]
abbrev kg:List (Nat×cP):=[(5,L0)]
abbrev sk:cj:=sG E5
abbrev DR:List cj:=[sk]
abbrev JO:az:=aB [u9 E9 V1] lZ
abbrev qZ:cj:=sG L0
abbrev xA:az:=aB [ov lJ E9] pZ
abbrev xT:az:=cY rq .skip g7
abbrev yq:List (Nat×cP):=[(6,L2)]
abbrev FJ:cj:=jG L1 V1
abbrev rh:cj:=g L2 true (ld L3)
abbrev Pg:az:=ax (aB [] [(4,Vf)]) .ret
abbrev yh:az:=aB [u9 lJ V1] qY
abbrev NR:List cj:=[sc,vz]
abbrev ni:az:=aB [pj 12 E1,pS] sm
abbrev cD:cj:=DL E0
abbrev vj:cj:=eu 3 E2
abbrev I4:cj:=f8 1 L3 L5
abbrev tU:cj:=wj E8
abbrev vE:cj:=eu 6 E2
abbrev Ps:cj:=eT 1 E3 Vn
abbrev EM:cj:=mG 1 [lJ]
abbrev HT:cj:=oI 1 L0 L1
abbrev ut:cj:=pj 1 Vn
abbrev D5:cj:=pj 1 V0
abbrev kw:cj:=f8 1 L2 L4
abbrev gr:cj:=wj L5
abbrev Ev:cj:=eu 1 L7
abbrev tL:cj:=wj o7
abbrev Au:cj:=f8 1 L9 mR
abbrev Vi:List cj:=[sk,i (.make 1 (.bool false) L0 L0),ut,Cp]
abbrev OE:az:=aB [ut] r8
abbrev md:List (Nat×cP):=[(6,L1)]
abbrev Fm:az:=aB vK kg
abbrev Wb:List cj:=[cD,lh,dw,eV,fC,kw,gr,sG L6]
abbrev Ov:az:=ax (aB [] [(3,E5),(4,V0)]) .ret
abbrev Pz:az:=aB [ov OG Rs] D6
abbrev Nj:az:=cY E22 .skip ml
abbrev xX:List (Nat×cP):=[(10,L2)]
abbrev vt:cj:=ta 0 L3
abbrev vQ:cj:=ta 1 L3
abbrev fk:cj:=pj 4 (v (.agg [n0,n0,.int .u64 0,.str []]))
abbrev PU:az:=aB [u9 OG V1] GU
abbrev EW:az:=aB [ov Gi Ek] [(18,L0)]
abbrev NI:cj:=pj 2 (v (.agg [.aj,.aj]))
abbrev Jo:cj:=eu 0 E8
abbrev XI:cj:=i (.call 114 [L1] true)
abbrev EU:cj:=eu 8 E2
abbrev FD:List cj:=[EU,bN,iw]
abbrev AW:List (Nat×cP):=[(7,L1)]
abbrev Ei:az:=aB [u9 Gi V1] [(17,L0)]
abbrev yf:cj:=eu 7 E2
abbrev vS:cj:=wj L7
abbrev V8:cj:=g L3 true (.bin .eql L5 V0)
abbrev Kd:az:=cY TW .skip ml
abbrev yk:az:=aB [ov A3 sO] [(14,L0)]
abbrev If:az:=cY va .skip g7
abbrev xC:List cj:=[f8 1 rq A3,bN]
abbrev Ar:cj:=eu 9 E2
abbrev Ig:List cj:=[Ar,bN,iw]
abbrev I0:List (Nat×cP):=[(15,L1),(16,L2),(17,V0)]
abbrev xU:az:=aB [u9 A3 V1] vh
abbrev N7:cj:=mG 1 [L6,mY]
abbrev EV:cj:=eu 10 E2
abbrev AQ:List (Nat×cP):=[(1,L0),(2,V0)]
abbrev OU:az:=aB fR AQ
abbrev Uf:cj:=i (.call 80 [E0] true)
abbrev IC:cj:=Cw [.aj] []
abbrev HR:cj:=ov E1 V0
abbrev uo:List (Nat×cP):=[(4,V0)]
abbrev Pu:List cj:=[sc,pS]
abbrev NO:cj:=i (.call 95 [L4] true)
abbrev FY:az:=aB [ov va A3] yt
abbrev Jh:az:=cY CE .skip g7
abbrev N5:az:=aB [] [(6,E7)]
abbrev F7:az:=aB [u9 va V1] [(14,L0)]
abbrev Xa:cj:=g L1 false (.len L2)
abbrev HZ:cj:=gI L1 Vt L4
abbrev Fy:cj:=g L0 true (.mov E4)
abbrev Wt:cj:=g L0 true (.nilck L1)
abbrev JH:cj:=gI L0 L6 Vf
abbrev tf:az:=aB [pj 12 E1,pS] [(2,L0),(3,L1),(4,Vf)]
abbrev xH:cP:=v (.int .i64 9)
abbrev Uy:cj:=g L3 false (.mov E5)
abbrev Nw:az:=ax (aB fR [(3,L0),(4,Vf)]) .ret
abbrev Nh:az:=aB [] [(0,v .nilm)]
abbrev FV:cP:=v (.int .i64 11)
abbrev qW:cj:=wj E5
abbrev OT:List cj:=[su,bN,iw]
abbrev vv:cj:=gI L0 Vt L2
abbrev VX:cj:=g L2 false (.bin .eql L4 V0)
abbrev xF:cj:=gI L2 Vt L5
abbrev uA:cj:=eu 1 E3
abbrev A4:cj:=eT 1 L0 V0
abbrev Ef:cj:=eu 2 E3
abbrev xS:List cj:=[fk]
abbrev PN:az:=aB xS ur
abbrev DN:cj:=eT 4 E1 L0
abbrev Jd:cj:=gI L1 L5 Vf
abbrev IA:cj:=f8 4 E0 E3
abbrev kl:cj:=nM 4 L0
abbrev No:az:=aB [pN E4 V0] lX
abbrev iT:az:=aB [] [(2,V0)]
abbrev ye:az:=ax iT .ret
abbrev xD:cj:=eT 4 L2 L1
abbrev BB:cj:=dA 255 [L0]
abbrev yd:cj:=pN L1 V0
abbrev tV:cj:=g L2 false (ld L3)
abbrev UO:cj:=g L6 true (.fld 0 E5)
abbrev PB:cj:=g L6 true (ld L7)
abbrev DI:List (Nat×cP):=[(11,L2)]
abbrev Pa:az:=aB NR [(2,L0),(3,L1),(4,v .nilf)]
abbrev sE:List (Nat×cP):=[(2,L1)]
abbrev J8:az:=aB [i .bad,i .bad] []
abbrev Oo:az:=ax tI (ax (dF 1 (ax (aB Bq qB) (ax (aB [sG E3,u9 E2 L0] sE) (ax (aB [ov E2 V0] qY) (cY lJ J8 .skip))))) sy)
abbrev Po:az:=aB uu [(11,E0),(12,L0),(13,V0)]
abbrev Ik:az:=ax (aB [] [(1,E4)]) .ret
abbrev lT:cj:=wj E2
abbrev AE:az:=ax (aB [i (.nils false E0)] iY) (cY E2 (ax lW .ret) .skip)
abbrev Be:cj:=iMv (v .aj)
abbrev tS:List (Nat×cP):=[(1,L1)]
abbrev Pb:List cj:=[kS,bN,FJ]
abbrev II:cj:=eT 4 E3 L1
abbrev tj:cj:=Cw [n0,n0,.int .u64 0,.str []] []
abbrev DE:cj:=eT 4 E3 L0
abbrev DC:List cj:=[tj,DE]
abbrev NK:cj:=jG L1 kE
abbrev vi:cj:=gI L2 L5 Vf
abbrev Ox:cj:=jG L1 eh
abbrev Kp:az:=aB [f8 1 lJ sO,bN] AW
abbrev Xl:cj:=g L2 false (.mov E7)
abbrev DH:cj:=eT 4 E4 L0
abbrev F9:List cj:=[tj,DH]
abbrev W0:List cj:=[nL,dA 207 [L0],iw]
abbrev vX:cj:=eT 4 E4 L3
abbrev pW:az:=aB [] [(1,V0)]
abbrev A7:az:=ax pW .ret
abbrev HU:cj:=eT 1 L5 L3
abbrev NA:az:=ax AE (ax (aB [Be,oI 1 L0 E0] tS) .ret)
abbrev Ur:az:=cY Ek .skip g7
abbrev Ej:az:=aB [] [(3,Vf)]
abbrev xy:az:=ax Ej .ret
abbrev vo:cj:=eu 15 L0
abbrev AU:List (Nat×cP):=[(4,L5)]
abbrev X4:cj:=g L0 false (.mov E5)
abbrev tE:cj:=g L0 false (.mov E0)
abbrev UH:cj:=g L0 false (.nilck L2)
abbrev XE:cj:=g L0 false (.len L5)
abbrev O3:cj:=gI L0 Vt L7
abbrev Xb:List cj:=[Cw [n0,n0] [(0,1,lR),(1,1,lR)],pj 2 (v (.agg [n0,n0])),eT 2 L1 L0]
abbrev xL:cj:=eu 1 E4
abbrev XY:cj:=Cw [n0,n0] [(0,1,L2),(1,1,L4)]
abbrev Wy:cj:=i (.eqa true [0,0] L0 L5)
abbrev NL:az:=cY sO xy .skip
abbrev O7:cj:=g L2 false (.fld 0 E4)
abbrev WQ:cj:=g L8 false (.mov E0)
abbrev tF:cP:=v (.int .i64 16)
abbrev Oz:az:=ax (aB [] [(3,Vt)]) .ret
abbrev yj:List (Nat×cP):=[(2,L0),(3,Vf)]
abbrev U7:List cj:=[cD,vp,dw,eV,fC,kw,gr,sG L6]
abbrev Bm:az:=aB vV [(1,L0),(2,v .nilf)]
abbrev DQ:az:=aB uu [(8,E0),(9,L0),(10,V0)]
abbrev Av:az:=aB [ov E5 E4] lX
abbrev tY:az:=cY E6 .skip g7
abbrev yv:az:=aB [] [(3,E5)]
abbrev DW:cj:=i (.callv E1 [L1])
abbrev Ay:az:=cY E7 uq .skip
abbrev xP:az:=aB [u9 E5 V1] kg
abbrev Bv:az:=aB uu [(4,L0),(5,V0)]
abbrev vJ:az:=ax (aB [] [(2,lR)]) .ret
abbrev fb:cj:=wj E1
abbrev OR:cj:=g L2 true (ld E1)
abbrev VZ:List cj:=[f8 2 Gi BP,zk,MH,BO]
abbrev OY:cj:=eT 4 L5 L3
abbrev A6:cj:=nM 4 E6
abbrev Xh:List cj:=[dA 202 [],fk,eT 4 L1 L0]
abbrev Xj:cj:=g L2 true (.fld 0 E2)
abbrev Ut:cj:=g E5 true (.fld 1 E2)
abbrev WL:cj:=g E5 true (.bin .eql L2 V0)
abbrev JR:List cj:=[sr,pj 4 E1,fk]
abbrev sA:az:=aB JR Pv
abbrev me:cj:=nM 4 E2
abbrev ES:cP:=v (.int .i64 120)
abbrev Iz:cj:=g L0 false (.mov E7)
abbrev Vs:cj:=g L0 false (.bin .neq L1 V0)
abbrev ua:cj:=jG L1 V0
abbrev PT:cj:=eT 4 E4 L4
abbrev HN:az:=aB [sr,pj 4 E1] sm
abbrev Iw:cj:=pN L1 L3
abbrev Ij:cj:=ov L1 L3
abbrev HQ:cj:=dA 137 [L4]
abbrev DD:cj:=eu 3 E3
abbrev r6:cj:=nM 4 E1
abbrev F5:List (Nat×cP):=[(1,L0),(2,Vf)]
abbrev JQ:az:=aB [sr] F5
abbrev NP:az:=ax (aB [HR] lV) (cY E3 J8 .skip)
abbrev JD:cj:=i (.cap E0)
abbrev PJ:az:=aB [JD,fd,CM L0 L1,CM E1 L2] [(1,L3)]
abbrev N1:az:=aB [QG E1 V0] ff
abbrev Ih:az:=aB [] [(2,E0)]
abbrev zF:az:=ax Ih .ret
abbrev QK:cj:=g L1 false (.mov E1)
abbrev Rz:az:=cY E8 (ax (aB [] [(1,E3)]) .ret) .skip
abbrev C5:cj:=f8 4 E0 E4
abbrev wI:List (Nat×cP):=[(6,V0)]
abbrev Kj:az:=aB [] wI
abbrev wE:cj:=PI L0 V0
abbrev CC:List cj:=[f8 4 E8 lJ,kl,fk,xD]
abbrev uz:cj:=nM 4 E4
abbrev Rk:cj:=i (.callv E1 [L1,L2])
abbrev Qv:az:=cY E7 (aB [C5,kl,II] []) .skip
abbrev J2:az:=aB [u9 E4 V1] ff
abbrev IQ:az:=aB [] [(4,V1)]
abbrev wm:cj:=eT 4 E2 L0
abbrev JF:cP:=v (.fn 293 [] [])
abbrev J9:cP:=v (.int .i64 23)
abbrev RX:cj:=i (.callv E1 [L0,L4])
abbrev I2:az:=aB [] [(8,V0)]
abbrev IS:cj:=eT 4 E5 L4
abbrev zV:cj:=eT 4 E5 L0
abbrev RO:cj:=i (.callv E1 [L1,L4])
abbrev QD:cj:=i (.slice 1 E0 (some E3) none)
abbrev IB:az:=aB [] [(3,V1)]
abbrev R3:cj:=i (.slice 1 E0 none (some L0))
abbrev Sb:cj:=i (.slice 1 L2 none (some L3))
abbrev fB:az:=aB [] [(1,Vf)]
abbrev Kf:cj:=g L1 true (.una .not L4)
abbrev Q4:cj:=g E2 true (.nilck L0)
abbrev P5:cj:=g E2 true (.fld 3 L1)
abbrev Q3:cj:=g E2 true (.fld 3 L2)
abbrev Qp:cj:=g E2 true (.bin .geq L4 V0)
abbrev Sr:cj:=g L6 true (.nilck L7)
abbrev QR:cj:=g L6 true (.fld 3 L8)
abbrev RJ:cj:=g L6 true (.fld 3 L9)
abbrev RS:cj:=g mY true (.mov E0)
abbrev QL:cj:=g mY true (.nilck yy)
abbrev Rf:cj:=g mY true (.fld 3 uU)
abbrev RA:cj:=g mY true (.fld 4 ws)
abbrev RG:cj:=g mY true (.len Nt)
abbrev P2:cj:=g mY true (.bin .gtr Kv V0)
abbrev QN:cj:=g AZ true (.mov E0)
abbrev Qi:cj:=g AZ true (.nilck QV)
abbrev Q2:cj:=g AZ true (.fld 3 ZO)
abbrev RE:cj:=g AZ true (.fld 4 L24)
abbrev QJ:cj:=g AZ true (.len L26)
abbrev rO:cj:=eu 17 L0
abbrev zJ:az:=ax fB .ret
abbrev IR:cj:=iLq L2 kE
abbrev Q5:cj:=g L3 true (.fld 8 E2)
abbrev tq:cj:=g L3 true (ld L4)
abbrev Dv:cj:=g L3 true (.len L5)
abbrev Q8:cj:=g L3 true (.bin .leq L6 D7)
abbrev Ir:cj:=gI L3 L7 Vf
abbrev Se:cj:=g L8 true (.fld 7 E2)
abbrev Dj:cj:=g L8 true (ld L9)
abbrev Ss:cj:=g L8 true (.len o7)
abbrev Sa:cj:=g L8 true (.fld 8 E2)
abbrev JS:cj:=g L8 true (ld xh)
abbrev Qk:cj:=g L8 true (.len mY)
abbrev QX:cj:=g L8 true (.bin .add mR yy)
abbrev Rl:cj:=g L8 true (.bin .gtr uU V0)
abbrev J6:az:=aB [cD,rO,eT 1 L1 Vn] []
abbrev Dq:List cj:=[yf,bN,iw]
abbrev Rj:az:=cY E5 zJ .skip
abbrev Ib:az:=ax (aB [] [(1,Vt)]) .ret
abbrev Kg:cj:=g E4 true (.mov E9)
abbrev IV:cj:=gI E4 L1 Vf
abbrev Kl:cj:=g mR true (ld xh)
abbrev Sd:cj:=g mR true (.len mY)
abbrev QP:cP:=v (.int .i64 2147483647)
abbrev Jg:az:=ax (aB [] [(1,V1)]) .ret
abbrev Si:cj:=g E5 true (.fld 0 E1)
abbrev Jp:cj:=g L3 false (ld L4)
abbrev Qm:cj:=g L2 true (.bin .eql L4 V0)
abbrev Ke:cj:=g L6 false (ld L7)
abbrev RB:List cj:=[cD,lh,dw,eV,fC,kw,gr]
abbrev CJ:cj:=eu 3 E1
abbrev Jv:az:=aB [su,bN] qB
abbrev J4:az:=aB [jG E3 V1] ff
abbrev Du:cj:=eu 4 E1
abbrev HW:az:=aB [jG E3 eh] kg
abbrev Jq:cj:=eT 1 L0 Vn
abbrev tB:az:=aB [] [(2,V0),(3,Vf)]
abbrev Kk:az:=ax tB .ret
abbrev IW:cj:=g L3 false (.bin .eql L4 V0)
abbrev wo:cj:=eu 1 E1
abbrev wA:cP:=v (.int .u64 0)
abbrev rQ:cj:=ov E0 V0
abbrev Dd:az:=aB vV yj
abbrev Io:az:=aB [sr,fk] [(1,L0),(2,L1),(3,V0)]
abbrev Dl:List cj:=[tj,wm]
abbrev Qc:List cj:=[su,bN,ua]
abbrev JV:cj:=i (.eqa false [0,0,0,2] L1 L2)
abbrev HK:cj:=g L0 false (.len L2)
abbrev Qh:cj:=i (.slice 1 E0 (some E2) none)
abbrev C4:cj:=mG 4 [L0,L1]
abbrev C2:cj:=CM L2 E0
abbrev Qa:cj:=g L0 false (.bin .eql L1 eh)
abbrev Sf:az:=cY E4 (ax (aB [] [(1,eh)]) .ret) .skip
abbrev QY:cj:=g L0 false (.bin .gtr L1 kE)
abbrev Js:cj:=g L0 true (.mov L2)
abbrev Rh:cj:=g L3 false (.mov E4)
abbrev IL:cj:=g L0 true (.pick L3 Vt L5)
abbrev IT:az:=aB [pj 2 E0] yj
abbrev Il:cj:=g L2 false (.fld 0 E2)
abbrev HY:az:=ax (aB [] [(2,V1)]) .ret
abbrev CN:az:=ax (ax (aB [] [(5,E3)]) (cY E5 (ax (ax (aB [] [(6,E4)]) (cY E6 ye .skip)) vJ) .skip)) (ax (ax (aB [] [(7,E4)]) (cY E7 HY .skip)) (ax (ax (aB [ov E0 E1] r8) (cY E8 vJ .skip)) (ax (ax (aB [QG E0 E1] lZ) (cY E9 HY .skip)) ye)))
abbrev R1:cj:=g L3 true (.fld 3 E1)
abbrev Dk:az:=aB JR [(3,L0),(4,L1),(5,L2),(6,V0)]
abbrev Ra:cj:=i (.callv L0 [L1,L2])
abbrev CS:List cj:=[tj,zV]
abbrev RR:List cj:=[nQ,bN,ua,O7,tV,VX,xF]
abbrev Ry:az:=cY rq (ax (aB [dA 202 [],zV] wI) .ret) .skip
abbrev IP:cj:=f8 1 E0 V0
abbrev Jl:cP:=v (.int .u64 4294967295)
abbrev zR:cP:=v (.int .u64 32)
abbrev Rr:cj:=g L0 false (.mov L2)
abbrev Di:az:=ax (aB [pN E0 E0] ur) .ret
def Zy:az:=ax tT (ax (ax (aB [dA 6 [],J0] S8) (cY lJ Ll .skip)) (ax (aB [dA 18 [E0,Kw],aiW,wW,Cp] zQ) (ax (aB [dA 24 [E1,D7],aiW,wW,Cp] rX) (ax (aB [CZ E3,CZ E4,dA 33 [L0,L1],kN,kL] [(5,L3),(6,L4)]) (ax (ax (aB [pN E6 V0,g L0 true (.mov E6),adf,LQ] [(11,L3)]) (cY rq Rg .skip)) (ax (aB [nQ,bN,Cw [.aj,n0,n0,.aj] [(0,1,L1)],mO,fC,dA 2 [L2,L4,Vn],RU,Rn] [(7,L6),(8,L7)]) (ax (ax (aB [jG E8 Ue] GN) (cY sO (ax (aB [CZ E3,dA 32 [L0],jF,jH] [(9,L3)]) (ax (aB [pN E9 V0] iY) .ret)) .skip)) (ax (aB [jG E8 (v (.int .i64 300)),adq,P1,ac0,g L0 false (.mov L3),g L4 true (.mov E7),g L4 true (.mov E5),g L4 true (.call 7 [L5,L6] false),g L0 false (.pick L4 L7 Vf),gI L0 Vt L8] [(2,L9)]) .ret))))))))
def apg:aS:=⟨13,2,.pure,[.env 2],Zy⟩
def akR:az:=ax (aB [] [(0,Vf)]) (ax (aB [Cw [n0,n0,n0,n0,n0,n0,.int .u64 0,.str []] [(0,1,eh),(3,1,V1)],dA 5 [L0,Vn],wW,Cp] [(1,L2)]) (ax (aB [mG 1 [V0],Cw [n0,.aj] [(0,1,V1)],CZ E1,Cw [n0,.aj] [(0,1,kE),(1,1,L2)],mG 2 [L1,L3],Cw [n0,n0,n0,n0,.aj,nf,.aj,.aj,.aj,.aj,.aj,n0] [(0,1,Kw),(7,1,L0),(8,1,L4)],uG,eT 12 L6 L5] [(2,L6)]) (ax (aB [F2,mG 1 [V1,pb],dA 3 [L1],mG 1 [V1,zB],dA 3 [L3],mG 1 [L2,L4],dA 17 [L0,L5],ta 0 L6,ta 1 L6] [(3,L7),(4,L8)]) (ax (aB [mG 1 [eh],Cw [n0,n0,n0,n0,.aj,nf,.aj,.aj,.aj,.aj,.aj,n0] [(0,1,V1),(1,1,lR),(2,1,lR),(4,1,L0)],mG 12 [L1],Cw [.aj,n0,n0,.aj] [(0,1,L2)],pj 4 (v (.agg [.aj,n0,n0,.aj])),eT 4 L4 L3] rH) (ax (aB [w9,mG 1 [eh],dA 3 [L1],mG 1 [V1],dA 3 [L3],mG 1 [L2,L4],mG 1 [L5],dA 2 [L0,L6,Vn],ta 0 L7,ta 1 L7] [(6,L8),(7,L9)]) (ax (aB [jG E4 V0,g L0 true (.mov E7),abm,LQ,g L3 true (.mov E3),g L3 true (.len L4),g L3 true (.bin .eql L5 V1),Sc,g L7 true (.mov E3),g L7 true (.idxs 1 L8 V0),g L7 true (ld L9),g L7 true (.len o7),g L7 true (.bin .eql mR kE),gI L7 xh Vf,g mY true (.mov E3),g mY true (.idxs 1 yy V0),g mY true (ld uU),g mY true (.idxs 4 ws eh),g mY true (.load true 4 wY),g mY true (.build [n0,n0,.int .u64 0,.str []] [(0,1,im),(2,1,v (.int .u64 12))]),g mY true (.eqa false [0,0,0,2] Nt Kv),Xo,g AZ true (.mov E6),g AZ true (.mkl 1 [V1]),g AZ true (.call 3 [ZO] false),g AZ true (.mkl 1 [eh]),g AZ true (.call 3 [L25] false),g AZ true (.mkl 1 [L24,L26]),g AZ true (.call 12 [QV,ZS] false),WX] [(0,L29)]) .ret))))))
def ar7:aS:=⟨8,0,.pure,[.env 0],akR⟩
def zX:az:=ax (aB [ov Rs BP] GU) (ax (cY OG .skip (.exit 4)) (ax (dF 5 (ax (aB [f8 1 TW Rs,pa,wW,Cp] [(9,L2),(8,Rs)]) (aB [Qj,bN,CZ E9,dA 45 [L2],f8 1 L1 E8,R7] []))) (aB [u9 Rs V1] MT)))
def zA:az:=ax US (ax (cY Gi .skip ml) (ax (dF 3 (ax (aB aaK [(7,L2),(6,Ek)]) (aB [Ru,bN,eu 1 E7,CZ L2,dA 45 [L3],f8 2 L1 E6,eu 1 L5,GX] []))) U8))
def tP:az:=ax qK (ax xx (ax (dF 1 (ax (aB Us [(5,L2),(4,sO)]) (ax (Kr [eu 4 E5,bN,dA 46 [L1,Jc],eu 7 E5,fC,dA 46 [L4,yw],Ru,so,dA 47 [L7,v (.int .i64 14)],Qj,wj L9,dA 48 [o7,Jc],eu 10 E5,qI,dA 10 [mY,pb],eu 4 E5,eT 1 uU L2,eu 7 E5,eT 1 wY L5,Ru,eT 1 Kv L8,Qj,eT 1 AZ mR,eu 10 E5,eT 1 ZO yy] [] [(9,0),(10,0),(12,0),(12,9),(13,0),(13,9),(15,0),(15,9)]) (ax (ax (aB [Ru,bN,iw] Px) (dF 2 (.loop [6,7,17] zA))) (ax (ax (aB [Qj,bN,iw] [(18,L1),(19,L2),(20,V0)]) (dF 4 (.loop [8,9,21] zX))) (ax (aB [eu 6 E5,pa,dA 45 [L1],eu 6 E5,BD] []) (aB [nM 12 E5,f8 12 E3 E4,eT 12 L1 L0] []))))))) rc))
def acU:az:=ax kv (ax (aB [dA 49 [E0,E1]] lV) (ax (ax (aB [sG E3] [(10,E3),(11,L0),(12,V0)]) (dF 0 (.loop [4,5,6,7,8,9,13,14,15,16,17,18,19,20,21] tP))) uq))
def arJ:aS:=⟨22,2,.pure,[.env 2],acU⟩
def wu:az:=ax qS (ax tI (ax (dF 1 (ax (aB Bq [(4,E8),(5,L1)]) (ax (aB [ov E4 r9] qY) (cY lJ (aB [dA 11 [E5,E1],JX,oI 1 E3 L1] zQ) .skip)))) sy))
def ab4:az:=ax kv (ax NW (ax (ax DU (dF 0 (.loop [4,5,9,10] wu))) uq))
def aqg:aS:=⟨11,2,.pure,[.env 2],ab4⟩
def pm:az:=ax I3 (ax WJ (ax (dF 1 (ax (aB VU [(10,L2),(9,BP)]) (ax (aB [eu 0 lJ,bN,i (.look .nilf false E8 L1),nM 12 lJ,i (.callv L2 [L3]),BF,By] [(11,L5),(12,L6)]) (ax (ax (aB [jG sO V0,g L0 true (.mov rq),g L0 true (.len L1),g L0 true (.bin .gtr L2 Ax),Pt] [(21,L4)]) (cY OG (aB [] [(12,kE)]) .skip)) (ax (ax (aB F3 D6) (cY E22 (ax (aB fR [(4,L0),(5,sO)]) .ret) .skip)) (ax (ax (aB [eu 0 lJ,bN,pN L1 r9] [(23,L2)]) (cY T1 (aB [dA 29 [rq],EO,DV] [(11,L1)]) .skip)) (ax (aB [nL,dA 84 [L0,E9],jF,jH,wW,eT 1 L4 L2] [(13,L4)]) (ax (aB [CZ A3,dA 83 [L0],jF,jH] [(14,L2)]) (Kr [At,lh,dw,mG 1 [rq],AD,At,eu 2 L5,so,sG va,mG 1 [L8],oI 1 L7 L9,At,eu 1 mR,eT 1 xh L4,At,eu 2 yy,eT 1 uU o7] [] [(5,0),(6,0),(7,0),(8,0)]))))))))) Kq))
def Mx:az:=ax (aB [sc,vz,pS] Pv) (ax (ax (aB UY [(6,L3)]) (ax (aB Bz yt) (cY CE (ax (aB fR [(4,L0),(5,E6)]) .ret) .skip))) (ax (ax (aB [nL,CZ E3,dA 93 [L0,L1],FA] [(16,L3)]) (cY Ek (ax (aB fR [(4,L0),(5,v (.int .i64 250))]) .ret) .skip)) (ax (aB [CZ E3,Uv,pj 3 L1] kj) (ax (aB [EJ,i (.mkfn 85 [E7] []),i (.mput L0 V1 L1),i (.mkfn 86 [E7] []),i (.mput L0 eh L3),i (.mkfn 87 [E7] []),i (.mput L0 kE L5),i (.mkfn 88 [E7] []),i (.mput L0 im L7),i (.mkfn 89 [E7] []),i (.mput L0 pb L9),i (.mkfn 90 [E7] []),i (.mput L0 yw mR),i (.mkfn 91 [E7] []),i (.mput L0 zB mY),i (.mkfn 92 [E7] []),i (.mput L0 r9 uU)] r8) (ax (ax (.lift 7 1 1 (.lift 7 2 1 (aB Ie PR))) (dF 0 (.loop [4,5,9,10,11,12,13,14,20,21,22,23] pm))) (ax (aB [At,lh,dw,At,eu 1 L3,nk,sG L5,CM L6 V1,f8 1 L2 L7,vB] [(4,L9),(5,V0)]) .ret))))))
def aoH:aS:=⟨24,2,.pure,[.env 4,.env 5],Mx⟩
def rR:az:=ax (aB [ov E25 E24] [(26,L0)]) (ax (cY E26 .skip ml) (ax (dF 3 (ax (aB [f8 12 T1 E25,DB,uG,EL] [(13,L2)]) (ax (aB [eu 0 A3,bN,i (.look .nilf false rq L1),nM 12 A3,i (.callv L2 [E8,L3]),BF,By] [(14,L5),(15,L6)]) (ax (dF 4 (ax (aB [pN CE V0] [(27,L0)]) (cY E27 (aB [] [(12,vC)]) (ax (aB [sG va,QG L0 (v (.int .i64 200))] [(28,L1)]) (cY E28 (aB [] [(12,v (.int .i64 300))]) .skip))))) (ax (ax (aB F3 [(29,L0)]) (cY E29 ml .skip)) (aB [DL E8,vp,dw,mG 1 [va],AD,DL E8,eu 7 L5,GX] [])))))) (aB [u9 E25 V1] [(25,L0)])))
def wi:az:=ax I3 (ax WJ (ax (dF 1 (ax (aB VU r7) (ax (ax (aB [eu 1 E9,bN,AO] [(21,L2)]) (cY OG (.exit 1) .skip)) (ax (aB [nM 12 E9,dA 36 [E8,L0],jF,jH] [(10,L3)]) (ax (aB [i (.una .not lJ)] D6) (cY E22 (ax (aB fR [(4,L0),(5,eh)]) .ret) .skip)))))) Kq))
def P9:az:=ax (aB [sr,pS] IM) (.scope (ax (aB [nQ,bN,dA 37 [L1],kN,kL,ta 2 L2] [(6,L3),(7,L5)]) (ax (ax (aB Jz xw) (cY Ek (ax (aB fR [(4,L0),(5,E7)]) .ret) .skip)) (ax (aB [g8,Cw [.aj,n0,n0,.aj,.aj,.aj,.aj,.aj] [(0,4,L0),(4,1,E1),(5,1,E2),(6,1,E6)],pj 8 L1] vI) (ax (ax (.lift 8 7 1 (aB Wh [(17,L3),(18,L4),(19,V0)])) (dF 0 (.loop [4,5,9,10,20,21,22] wi))) (ax (aB [dA 35 []] pZ) (ax (aB [] [(12,V0)]) (ax (ax (aB Wh [(23,L3),(24,L4),(25,V0)]) (dF 2 (.loop [13,14,15,26,27,28,29] rR))) (ax (ax (aB F3 [(30,L0)]) (cY E30 (ax (aB fR [(4,L0),(5,sO)]) .ret) .skip)) (ax (aB [DL E8,vp,dw,DL E8,eu 7 L3,nk,sG L5,CM L6 V1,f8 1 L2 L7,vB] [(4,L9),(5,V0)]) .ret))))))))))
def ao3:aS:=⟨31,3,.pure,[.env 4,.env 5],P9⟩
def WC:az:=ax (aB vV [(1,L0),(2,V0),(3,V0)]) (ax (aB Xg [(4,L3),(5,L4)]) (ax (ax (aB [i (.una .not E5)] lX) (cY E6 (ax (aB [] [(2,E4),(3,PD)]) .ret) .skip)) (ax (aB [] [(2,V0),(3,V0)]) .ret)))
def apn:aS:=⟨7,1,.pure,[.env 2,.env 3],WC⟩
def akd:az:=ax tT (ax (aB [dA 44 [E0,E1]] iY) .ret)
def aq2:aS:=⟨3,2,.pure,[.env 2],akd⟩
def YH:az:=ax OC (ax (cY Ek .skip ml) (ax (dF 3 (ax (aB [f8 8 A3 CE,EZ,Fw,FI] vI) (ax (ax (aB [Jt,bN,AO] [(17,L2)]) (cY Gi (aB [Jt,bN,u9 L1 E7,Jt,BD] []) .skip)) (ax (ax (aB [eu 2 E8,bN,AO] [(18,L2)]) (cY TW (aB [eu 2 E8,bN,u9 L1 E7,eu 2 E8,BD] []) .skip)) (aB [mO,bN,nM 8 E8,mG 8 [L2],oI 8 L1 L3,mO,eT 1 L5 L4] []))))) Pd))
def YC:az:=ax Bd (ax FT (ax (dF 1 (ax (aB [f8 1 E9 rq,pa,wW,Cp] [(6,L2),(5,rq)]) (ax (aB [mO,bN,iw] kj) (ax (ax (aB [eu 0 E6,bN,iw] [(13,L1),(14,L2),(15,V0)]) (dF 2 (.loop [8,16,17,18] YH))) (ax (aB [jG E5 V0] [(19,L0)]) (cY BP (aB [mO,bN,iw,CM L2 V1,eV,R7] []) (aB [mO,bN,iw,CM L2 V1,lB,R7] []))))))) AL))
def agS:az:=ax (aB [pj 8 E0,wW] [(2,L0),(3,L1)]) (ax (aB [wW] ff) (ax (aB [eV,eT 1 L0 lR,lB,eT 1 L2 lR] []) (ax (ax (.lift 4 0 8 (aB AX [(9,E1),(10,L0),(11,V0)])) (dF 0 (.loop [5,6,7,8,12,13,14,15,16,17,18,19] YC))) (ax (aB [mO,bN,nM 8 E2,mG 8 [L2],oI 8 L1 L3,mO,eT 1 L5 L4] []) (ax (aB [CZ E4,FO] []) .ret)))))
def arY:aS:=⟨20,2,.pure,[.cell true 1 3],agS⟩
def ahL:az:=ax (aB [pj 12 E0,pS] sm) (ax (ax (aB [F2,dA 51 [L0,Kw,E1],tR] si) (cY E5 (ax (aB fR [(3,L0),(4,eh)]) .ret) .skip)) (ax (aB [F2,dA 50 [L0,E1],jF,jH] [(3,L2),(4,L3)]) .ret))
def ar9:aS:=⟨6,2,.pure,[.env 3,.env 4],ahL⟩
def YL:az:=ax FB (ax Bx (ax (dF 1 (ax PO (aB [dA 34 [E3],sD,oI 4 E2 L1] sF))) Fc))
def ahq:az:=ax lW (ax (aB EQ iY) (ax (ax HS (dF 0 (.loop [3,7] YL))) Jm))
def ar2:aS:=⟨8,1,.pure,[.env 1],ahq⟩
def Y5:az:=ax (ax (aB [fd,ov E3 L0] kV) (cY E5 .skip g7)) (ax (dF 1 (ax (aB [Bb,bN,f8 1 E1 E3,eZ,dA 60 [L1,L3],pN L4 V0] [(6,L5)]) (cY E6 Ll .skip))) DK)
def aiB:az:=ax tT (ax (ax (aB JP rX) (cY E4 Ll .skip)) (ax (ax yc (dF 0 (.loop [2,5,6] Y5))) Rg))
def ar8:aS:=⟨7,2,.pure,[.env 2],aiB⟩
def Z8:az:=ax kv (ax (aB [Ye 12,fd,BI,i (.slice 12 E0 none (some L2)),oI 12 L0 L3] [(2,L4)]) .ret)
def apd:aS:=⟨3,2,.keep,[.env 2],Z8⟩
def QB:az:=ax kv Pm
def aoQ:aS:=⟨3,2,.pure,[.env 2],QB⟩
def Zf:az:=ax kv (ax (aB [Ye 2,fd,BI,i (.slice 2 E0 none (some L2)),oI 2 L0 L3] [(2,L4)]) .ret)
def ao0:aS:=⟨3,2,.keep,[.env 2],Zf⟩
def Zl:az:=ax kv Pm
def apa:aS:=⟨3,2,.keep,[.env 2],Zl⟩
def YQ:az:=ax kv (ax (aB [Ye 2,fd,BI,i (.slice 2 E0 none (some L2)),oI 2 L0 L3] [(2,L4)]) .ret)
def ao9:aS:=⟨3,2,.pure,[.env 2],YQ⟩
def wP:az:=ax DY (ax En (ax (dF 1 (ax (aB [] [(4,E7)]) (ax (aB [nQ,bN,f8 8 L1 E4,eu 4 L2,eu 3 L3] rH) (aB [DL E5,bN,DL E5,eZ,iLt L3,i (.mins L4 [v (.int .i64 41)]),i (.slicet L1 none (some L5)),DL E5,Pk] [])))) D2))
def acJ:az:=ax (aB [sc,wW] Eg) (ax (aB [su,bN,i (.call 117 [L1,O1] true),Cw [.aj] [(0,1,L2)],wW,R7] [(3,L4)]) (ax (ax (aB [nQ,bN,iw] [(6,L2),(7,V0)]) (dF 0 (.loop [4,5,8] wP))) (ax (aB [CZ E3,I5] []) .ret)))
def aqs:aS:=⟨9,1,.pure,[.cell true 1 2],acJ⟩
def wg:az:=ax qK (ax Ja (ax (dF 3 (ax (aB [] [(6,sO)]) (aB [OQ,pT,dw,OQ,eu 3 L3,nk,iLt L5,i (.mins L6 [v (.int .i64 41)]),i (.slicet L2 none (some L7)),OQ,eu 3 L9,eT 1 o7 L8] []))) rc))
def An:az:=ax Ia (ax Ju (ax (dF 1 (ax (aB [I6,bN] vU) (ax (aB [i (.call 38 [E4,Jc] true)] kg) (ax (ax (aB DR [(11,L0),(12,V0)]) (dF 2 (.loop [6,13] wg))) (aB [mG 1 [E5],oI 1 E3 L0] qB))))) JO))
def abi:az:=ax kv (ax NW (ax (ax (aB [dA 39 [E0,E1],qZ] [(7,L0),(8,L1),(9,V0)]) (dF 0 (.loop [4,5,6,10,11,12,13] An))) uq))
def ary:aS:=⟨14,2,.pure,[.env 2],abi⟩
def ul:az:=ax xA (ax xT (ax (dF 1 (ax (aB [f8 12 E8 lJ,DB,uG,EL] yq) (ax (aB [eu 0 E6,bN,FJ,g L2 true (.fld 3 E6),rh,g L2 true (.fld 0 E3),g L2 true (ld L5),g L2 true (.len L6),g L2 true (.bin .geq L4 L7),g L2 true (.mov L8),g L9 false (.fld 0 E3),g L9 false (ld o7),g L9 false (.fld 3 E6),g L9 false (ld xh),g L9 false (.idxs 1 mR mY),g L9 false (ld yy),g L9 false (.fld 4 E6),g L9 false (ld ws),g L9 false (.call 167 [uU,wY] false),g L9 false (.una .not Nt),g L2 true (.pick L9 Vt Kv),gI L2 Rq Vf] [(12,AZ)]) (cY sO Pg .skip)))) yh))
def W2:az:=ax (aB NR [(2,L0),(3,L1),(4,Vf)]) (ax (ax (aB UY [(5,L3)]) (ax (aB [pN E5 V0] jx) (cY E7 Pg .skip))) (ax (ax (aB Ie [(8,L1),(9,L2),(10,V0)]) (dF 0 (.loop [4,6,11,12] ul))) (ax (aB [] [(4,Vt)]) .ret)))
def api:aS:=⟨13,2,.pure,[.env 4],W2⟩
def aaV:az:=ax ni (ax (aB [cD,vc,Jr,eZ,vj,nk,I4,so] [(3,L7),(4,V0)]) .ret)
def ard:aS:=⟨5,2,.keep,[.env 3,.env 4],aaV⟩
def om:az:=ax (aB [ov T1 E22] [(24,L0)]) (ax (cY E24 .skip ml) (ax (dF 3 (ax (aB [f8 1 OG T1,bN] [(13,T1),(14,L1)]) (ax (aB [eu 5 E2,bN,g L1 true (ld E7),g L1 true (.mov A3),g L1 true (.idxs 1 L2 L3),g L1 true (ld L4),g L1 true (.una .not L5),gI L1 L6 Vf] [(25,L7)]) (cY E25 (Kr [tU,cD,eu 2 L1,eZ,lB,nk,I4,so,i (.make 4 (.agg [n0,n0,.int .u64 0,.str []]) L7 L7),mG 1 [va,L8],dA 168 [L9],mG 1 [o7],oI 1 L0 mR,eT 1 E8 xh] [] [(0,9)]) .skip)))) (aB [u9 T1 V1] [(23,L0)])))
def jK:az:=dF 1 (ax (aB [vE,pa,dA 169 [L1,lJ],kN,kL] [(11,L3),(12,L4)]) (ax (ax (aB F3 [(19,L0)]) (cY BP (ax (aB [Ps,eT 1 E4 sO] []) .ret) .skip)) (ax (aB [] [(20,rq)]) (cY Rs (ax (aB [wj E7,f8 1 L0 E9,eT 1 L1 Vt] []) (aB [tU,EM,HT,eT 1 E8 L2] [])) .skip))))
def ju:az:=ax (aB [] [(9,Gi)]) (aB [] [(10,TW)])
def M7:az:=ax (aB [pj 12 E1,ut,D5] [(2,L0),(3,L1),(4,L2)]) (ax (aB [cD,lh,dw,eV,fC,kw,gr,cD,Ev,vB,lB,tL,Au,qI] [(5,L6),(6,mY)]) (ax (ax (aB [sk,sG E6,iMu L0 L1,QG L2 (v (.int .i64 40000))] [(15,L3)]) (cY CE (ax (aB [Ps,eT 1 E4 kE] []) .ret) .skip)) (ax (aB Vi kj) (ax OE (ax (ax (.lift 8 0 1 (aB [dA 171 [E5,E6]] xw)) (dF 0 (.rng 26 Ek 170))) (ax (ax (aB DR [(21,E5),(22,L0),(23,V0)]) (dF 2 (.loop [13,14,24,25] om))) (ax (aB [tU,FO,eT 1 E4 V0] []) .ret)))))))
def aoI:aS:=⟨26,2,.pure,[.cell false 1 3,.cell false 1 4],M7⟩
def ij:re:=⟨26,[17,18],ju,jK⟩
def wn:az:=ax Bd (ax FT (ax (dF 1 (ax (aB [f8 1 E9 rq,bN] md) (ax (aB [vE,pa,dA 169 [L1,E6],kN,kL] [(7,L3),(8,L4)]) (ax (ax (aB [pN E8 V0] vh) (cY A3 (ax (aB fR [(3,L0),(4,E8)]) .ret) .skip)) (ax (aB [] [(14,E7)]) (cY va (aB [mG 1 [E6],oI 1 E5 L0] kV) .skip)))))) AL))
def Vg:az:=ax ni (ax Fm (ax (ax (aB Wb [(9,L6),(10,L7),(11,V0)]) (dF 0 (.loop [3,4,6,7,8,12,13,14] wn))) Ov))
def apq:aS:=⟨15,2,.pure,[.env 3,.env 4],Vg⟩
def th:az:=ax Pz (ax Nj (ax (dF 3 (ax (aB [f8 2 BP OG,zk,MH,BO] xX) (ax (aB [nM 2 lJ,Jt,dw,dA 70 [L0,L2],vt,vQ,fk,eT 4 L6 L4] [(11,L6),(12,L5)]) (ax (ax (aB F3 [(23,L0)]) (cY T1 (ax (aB fR [(3,L0),(4,sO)]) .ret) .skip)) (aB [nM 4 rq,sD,oI 4 E9 L1] r7))))) PU))
def nJ:az:=ax EW (ax (cY TW .skip g7) (ax (dF 1 (ax (aB [f8 2 CE Gi,zk,NI,BO] vI) (ax (aB [Jo,bN,XI] r7) (ax (ax (aB FD [(19,L1),(20,L2),(21,V0)]) (dF 2 (.loop [3,4,10,11,12,22,23] th))) (aB [mG 1 [E9],oI 1 E7 L0] AW))))) Ei))
def Fh:az:=ax ni (ax (aB [cD,lh,dw,eV,fC,kw,gr,yf,vS,dA 20 [L6,L8],ta 0 L9,ta 1 L9] [(5,o7),(6,mR)]) (ax (ax (aB Bz vh) (cY A3 (ax (aB fR [(3,L0),(4,E6)]) .ret) .skip)) (ax (ax (aB [yf,bN,iw,jG L2 V0,g L3 true (.mov E5),g L3 true (.len L4),V8,Sc] [(14,L7)]) (cY va (aB [Cw [.aj,.aj] [],mG 2 [L0]] kV) .skip)) (ax (aB vK jx) (ax (ax (aB DR [(15,E5),(16,L0),(17,V0)]) (dF 0 (.loop [3,4,8,9,10,11,12,18,19,20,21,22,23] nJ))) (ax (aB [] [(3,E7),(4,V0)]) .ret))))))
def aop:aS:=⟨24,2,.pure,[.env 3,.env 4],Fh⟩
def uy:az:=ax EW (ax Kd (ax (dF 3 (ax (aB [f8 1 CE Gi,pa,wW,Cp] vI) (ax (aB [CZ E8,dA 172 [L0,E6],jF,jH,fk,eT 4 L4 L2] [(9,L4),(10,L3)]) (ax (ax (aB [pN lJ V0] [(19,L0)]) (cY BP (ax (aB fR [(3,L0),(4,lJ)]) .ret) .skip)) (aB [nM 4 E9,sD,oI 4 E7 L1] kj))))) Ei))
def zq:az:=ax yk (ax If (ax (dF 1 (ax (aB xC md) (ax (aB EQ jx) (ax (ax (aB Ig I0) (dF 2 (.loop [3,4,8,9,10,18,19] uy))) (aB [mG 1 [E7],oI 1 E5 L0] kV))))) xU))
def Up:az:=ax ni (ax Fm (ax (ax (aB Wb [(11,L6),(12,L7),(13,V0)]) (dF 0 (.loop [3,4,6,7,8,9,10,14,15,16,17,18,19] zq))) Ov))
def apL:aS:=⟨20,2,.pure,[.env 3,.env 4],Up⟩
def aco:az:=ax ni (ax (aB [cD,lh,dw,eV,fC,kw,gr,dA 173 [L6],ta 0 L7,ta 1 L7] [(3,L8),(4,L9)]) .ret)
def arQ:aS:=⟨5,2,.pure,[.env 3,.env 4],aco⟩
def acn:az:=ax ni (ax (aB [cD,lh,dw,eV,fC,kw,gr,cD,Ev,vB,lB,tL,Au,qI,N7,dA 78 [yy]] [(3,uU),(4,V0)]) .ret)
def arn:aS:=⟨5,2,.pure,[.env 3,.env 4],acn⟩
def adF:az:=ax ni (ax (aB [cD,lh,dw,eV,fC,kw,gr,EV,vS,eu 11 E2,wj L9,dA 40 [L6,L8,o7]] [(3,mR),(4,V0)]) .ret)
def arT:aS:=⟨5,2,.pure,[.env 3,.env 4],adF⟩
def adr:az:=ax OU (ax (ax (aB [mG 1 [E0],dA 79 [L0]] qB) (ax (aB [pN E3 V0] ff) (cY E4 (ax (aB fR [(1,L0),(2,E3)]) .ret) .skip))) (ax (aB [Uf] AQ) .ret))
def aqL:aS:=⟨5,1,.pure,[.env 1,.env 2],adr⟩
def CX:az:=ax (ax (aB [iLq E8 E1] pZ) (cY rq .skip (.exit 1))) (ax (dF 2 (aB [eu 0 E7,bN,kS,eZ,f8 12 L3 E8,nM 12 L4,DL E5,eu 2 L6,vS,f8 1 L8 E1,wj L9,i (.una .neg o7),dA 174 [L5,mR],mG 12 [xh],oI 12 L1 mY,eu 0 E7,eT 1 uU yy] [])) sy)
def aa7:az:=ax (aB [sc,wW] sm) (ax (aB [nL,dA 94 [L0],jF,jH,ta 2 L1] [(5,L2),(6,L4)]) (ax (dF 0 (ax (aB [i (.una .not E6)] lZ) (cY E9 (ax (aB [IC,FO] [(4,PD)]) .ret) (ax (aB [HR,g L0 false (.mov E1),g L0 false (.fld 0 E2),g L0 false (ld L2),g L0 false (.len L3),g L0 false (.bin .geq L1 L4),gI L0 Vt L5] [(10,L6)]) (cY lJ (ax (aB [IC,FO] [(4,eh)]) .ret) .skip))))) (ax (aB [wW] jx) (ax (ax (.lift 7 0 12 (aB [DL E5,eu 2 L0,dw,f8 1 L2 E1,fC] [(8,L4)])) (dF 1 (.loop [11] CX))) (ax (aB [CZ E7,FO] uo) .ret)))))
def aqK:aS:=⟨12,2,.pure,[.cell true 1 3,.env 4],aa7⟩
def acv:az:=ax (aB Pu [(1,L0),(2,L1),(3,V0)]) (ax (aB Xg [(4,L2),(5,L3),(6,L4)]) (ax (ax (aB [i (.una .not E6)] jx) (cY E7 (ax (aB fR [(2,L0),(3,PD)]) .ret) .skip)) (ax (aB [DL E4,lh,dw,f8 1 L2 E5,fC,NO] [(2,L5),(3,V0)]) .ret)))
def aqq:aS:=⟨8,1,.pure,[.env 2,.env 3],acv⟩
def Dr:az:=ax Pz (ax Nj (ax (dF 3 (ax (aB [f8 1 BP OG,bN] S8) (aB [i (.call 95 [lJ] true),JX,oI 1 E9 L1] r7))) PU))
def tO:az:=ax FY (ax Jh (ax (dF 1 (ax (aB [f8 12 sO va,DB,uG,EL] [(8,L2),(7,va)]) (ax (aB [Jo,bN,i (.look .nilf false E5 L1),dA 96 [E4,E7,L2],i (.una .not L3)] [(16,L4)]) (cY Ek (ax N5 g7) .skip)))) F7))
def GI:az:=ax (aB fR [(1,L0),(2,V0),(3,V0)]) (.scope (ax (ax (aB [fd,ov L0 V1,g L1 false (.mov E0),Xa,g L1 false (.bin .gtr L3 O1),HZ] [(11,L5)]) (cY rq (ax (aB fR [(1,L0),(2,V0),(3,Ue)]) .ret) .skip)) (ax (aB [Cw [.aj,.aj,.aj,n0,n0,n0,n0,.aj,nf,.aj,.aj,.aj,.aj,.aj,n0,.aj,.aj,.aj] [(0,1,E0)],pj 18 L0] vU) (ax (.lift 4 1 1 (.lift 4 2 1 (aB [dA 97 []] kg))) (ax (aB [] [(6,lR)]) (ax (ax (aB uu [(12,E0),(13,L0),(14,V0)]) (dF 0 (.loop [7,8,15,16] tO))) (ax (ax (aB [ov E6 V0,Fy,Wt,g L0 true (.fld 2 L2),g L0 true (ld L3),g L0 true (.len L4),g L0 true (.bin .neq L5 V1),JH] [(17,L7)]) (cY Gi (aB [fd,CM L0 V1] md) .skip)) (ax (ax (aB [PI E6 V0] [(18,L0)]) (cY TW (ax (aB fR [(1,L0),(2,E6),(3,Ue)]) .ret) .skip)) (ax (aB vK lZ) (ax (ax (aB [DL E4,lh,dw,sG L2] [(19,L2),(20,L3),(21,V0)]) (dF 2 (.loop [10,22] Dr))) (ax (aB [] [(1,E9),(2,V0),(3,V0)]) .ret)))))))))))
def aou:aS:=⟨23,1,.pure,[.env 1,.env 2,.env 3],GI⟩
def LK:az:=ax tf (ax (aB [cD,eu 4 L0,dw] si) (ax (ax (aB [kS,bN,jG L1 xH] yq) (cY E6 (aB [cD,eu 5 L0,dw] si) .skip)) (ax (ax (aB [vj,bN,sk,PI L1 L2,Uy,g L3 false (.fld 3 E2),g L3 false (ld L5),g L3 false (.idxs 1 L4 L6),g L3 false (ld L7),g L3 false (.fld 4 E2),g L3 false (ld L9),g L3 false (.call 75 [L8,o7] false),g L3 false (.una .not mR),gI L3 Vt xh] [(7,mY)]) (cY E7 Nw .skip)) (ax (aB [vj,bN,f8 1 E5 L1,eZ] [(3,L3),(4,Vt)]) .ret))))
def aoC:aS:=⟨8,2,.keep,[.env 3,.env 4],LK⟩
def acr:az:=ax Nh (ax (aB [EJ,i (.mput L0 V1 (v (.fn 98 [] []))),i (.mput L0 xH (v (.fn 98 [] []))),i (.mput L0 eh (v (.fn 99 [] []))),i (.mput L0 kE (v (.fn 100 [] []))),i (.mput L0 pb (v (.fn 101 [] []))),i (.mput L0 im (v (.fn 102 [] []))),i (.mput L0 Kw (v (.fn 103 [] []))),i (.mput L0 FV (v (.fn 104 [] []))),i (.mput L0 yw (v (.fn 105 [] []))),i (.mput L0 zB (v (.fn 106 [] []))),i (.mput L0 r9 (v (.fn 107 [] [])))] [(0,L0)]) .ret)
def aqS:aS:=⟨1,0,.pure,[.env 0],acr⟩
def qP:az:=dF 1 (ax (aB [i (.una .not E8)] vh) (cY A3 (ax (aB [qW,I5,eT 1 E3 E7,eT 1 E4 Vf] []) .ret) .skip))
def oN:az:=ax (aB [] [(7,rq)]) (aB [] [(8,sO)])
def Lh:az:=ax (aB [sc,pj 1 (v .nilp),D5,pj 1 Vf] [(1,L0),(2,L1),(3,L2),(4,L3)]) (ax (aB [CZ E1,Uv,pj 3 L1,pj 1 (v .nilp),BD] [(5,L3)]) (ax (aB OT yq) (ax (ax (aB [ov E6 V1,P1,g L0 false (.bin .gtr L1 O1),vv] [(9,L3)]) (cY E9 (ax (aB [qW,I5,eT 1 E3 V0,eT 1 E4 Vf] []) .ret) .skip)) (ax (ax (aB [qW,dA 176 [L0]] S8) (dF 0 (.rng 14 lJ 175))) (ax (Kr [qW,CM E6 V1,qW,DL L2,eu 2 L3,nk,CM E6 V1,f8 1 L5 L6,vS,jG L8 V0,I5,eT 1 E3 L1,eT 1 E4 L9] [] [(2,11),(2,12),(3,11),(3,12),(4,11),(4,12),(5,11),(5,12),(7,11),(7,12),(8,11),(8,12)]) .ret)))))
def aoM:aS:=⟨14,1,.keep,[.cell false 1 2,.cell false 1 3,.cell false 1 4],Lh⟩
def nz:re:=⟨14,[11,12],oN,qP⟩
def acR:az:=ax tT (ax (aB [dA 115 [E0,E1,v (.fn 116 [] [])]] iY) .ret)
def ari:aS:=⟨3,2,.pure,[.env 2],acR⟩
def Yq:az:=ax Bd (ax FT (ax (dF 1 (ax (aB [D5,eT 1 L0 rq] lX) (ax (aB [i (.mkfn 118 [] [E6]),dA 112 [E2,L0]] AW) (ax (aB [PI E7 V0] vh) (cY A3 (aB [wj E6,f8 1 E2 E7,dw,wj E6,f8 4 L2 L3,eu 0 L4,gr,f8 1 E5 L0,Pk] []) .skip))))) AL))
def ahZ:az:=ax (aB [pj 12 E0] [(3,L0),(4,Vf)]) (ax (ax (aB [nQ,bN,pN L1 E1,g L2 false (.mov E2),g L2 false (.len L3),VX,xF,g L6 false (.mov E2),g L6 false (.len L7),g L6 false (.bin .gtr L8 Ax),gI L6 Vt L9] [(9,o7)]) (cY E9 Pg .skip)) (ax (aB [f8 1 E2 V0,bN,iw,i (.make 1 (.int .i64 0) L2 L2)] [(5,L3)]) (ax (ax (aB DR [(10,L0),(11,V0)]) (dF 0 (.loop [6,7,12,13] Yq))) (ax (aB [uA,A4,Ef,eT 1 L2 lR] []) (ax (aB [Cw [n0,n0,n0,n0,.aj,nf,.aj,.aj,.aj,.aj,.aj,n0] [(0,1,xH),(1,1,lR),(2,1,lR),(4,1,E5)],nM 12 E3,mG 12 [L0,L1],dA 37 [L2],vt,vQ,ta 2 L3] [(8,L6)]) (ax (aB [jG E8 V0,g L0 true (.mov E2),g L0 true (.mov E5),g L0 true (.call 75 [L1,L2] false),Pt] [(4,L4)]) .ret))))))
def ar6:aS:=⟨14,3,.pure,[.env 4],ahZ⟩
def ajD:az:=ax (aB [pj 12 E0,pS] sm) (ax (aB [F2,dA 119 [E1,L0,Vf,v (.fn 120 [] [])],jF,jH] [(3,L2),(4,L3)]) .ret)
def arX:aS:=⟨5,2,.pure,[.env 3,.env 4],ajD⟩
def ahA:az:=ax PN (ax (aB [Cw [n0,n0,.int .u64 0,.str []] [(0,1,eh),(1,1,E0)],DN] []) .ret)
def asa:aS:=⟨2,1,.pure,[.cell true 4 1],ahA⟩
def Zo:az:=ax (ax (aB [fd,ov E3 L0,g L1 true (.mov E3),g L1 true (.mov E1),g L1 true (.len L3),g L1 true (.bin .lss L2 L4),Jd] [(5,L6)]) (cY E5 .skip g7)) (ax (dF 1 (ax (aB [IA,kl,f8 4 E1 E3,nM 4 L2,dA 136 [L1,L3]] [(4,L4)]) (ax No (cY E6 (ax (aB [] [(2,E4)]) .ret) .skip)))) DK)
def ajK:az:=ax iT (ax (ax yc (dF 0 (.loop [2,4,5,6] Zo))) (ax (ax (aB [fd,q9,jG L0 L1] kj) (cY E7 ye .skip)) (ax (aB [fd,q9,ov L0 L1,dA 137 [L2]] [(2,L3)]) .ret)))
def asc:aS:=⟨8,2,.pure,[.env 2],ajK⟩
def aac:az:=ax kv (ax (aB [Ye 8,fd,BI,i (.slice 8 E0 none (some L2)),oI 8 L0 L3] [(2,L4)]) .ret)
def ape:aS:=⟨3,2,.fresh 8,[.env 2],aac⟩
def Yg:az:=ax kv Pm
def aoS:aS:=⟨3,2,.keep,[.env 2],Yg⟩
def Qn:az:=ax kv (ax (aB [Ye 4,fd,BI,i (.slice 4 E0 none (some L2)),oI 4 L0 L3] [(2,L4)]) .ret)
def apb:aS:=⟨3,2,.fresh 4,[.env 2],Qn⟩
def pw:az:=ax FY (ax (cY CE .skip ml) (ax (dF 3 (ax (aB [f8 4 sO va,kl,fk,xD] [(5,L2),(4,va)]) (ax (aB [w9,BB,yd,g L2 false (.fld 0 E5),tV,g L2 false (.bin .neq L4 V0),g L2 false (.mov L5),UO,PB,g L6 true (.mov E1),g L6 true (.mov E4),g L6 true (.idxs 1 L9 o7),g L6 true (ld mR),g L6 true (.bin .neq L8 xh),g L2 false (.pick L6 mY Vf),gI L2 Vt yy] [(16,uU)]) (cY Ek Ll .skip)))) F7))
def wy:az:=ax Ia (ax Ju (ax (dF 1 (ax (aB [I6,bN] qB) (ax (ax (aB [sG E3,q9,pN L0 L1] DI) (cY rq Ll .skip)) (ax (aB [sG E3] [(12,E3),(13,L0),(14,V0)]) (dF 2 (.loop [2,4,5,15,16] pw)))))) JO))
def Rx:az:=ax tT (ax (ax (aB [fd,QG L0 D7] md) (cY E6 Ll .skip)) (ax (ax (aB uu [(7,E0),(8,L0),(9,V0)]) (dF 0 (.loop [2,3,4,5,10,11,12,13,14,15,16] wy))) Rg))
def ao8:aS:=⟨17,2,.pure,[.env 2],Rx⟩
def ady:az:=ax Pa (ax (aB [i (.mkfn 263 [] [E2,E3])] ff) .ret)
def arm:aS:=⟨5,2,.keep,[.env 4],ady⟩
def ac9:az:=ax (aB vV [(2,L0),(3,Vf),(4,V0)]) (ax (aB [nL,dA 172 [L0,E1],jF,jH,fk,eT 4 L4 L2] [(5,L4),(6,L3)]) (ax (aB [w9,dA 264 [L0]] [(3,L1),(4,E6)]) .ret))
def aqD:aS:=⟨7,2,.pure,[.env 3,.env 4],ac9⟩
def rF:az:=ax yk (ax (cY va .skip ml) (ax (dF 3 (ax (aB xC kV) (aB [oI 4 E4 E5] ff))) xU))
def C6:az:=ax qS Oo
def Wg:az:=ax lW (ax iT (ax (ax DU (dF 0 (.loop [3,9,10] C6))) (ax (aB [dA 265 [Vn,E2]] ff) (ax (ax Po (dF 2 (.loop [5,14] rF))) Ik))))
def apD:aS:=⟨15,1,.pure,[.env 1],Wg⟩
def vY:az:=dF 1 (Kr [tU,f8 1 E9 V0,dw,lT,dA 61 [L2,L3],i (.call 62 [E9] true),Cw [.aj,.aj] [(0,1,L4),(1,1,L5)],mG 2 [L6],oI 2 L0 L7,eT 1 E8 L8] [] [(0,6)])
def uC:az:=aB [] [(9,sO)]
def adJ:az:=ax (aB [vz,pS] sm) (ax (ax (aB [lT,dA 69 [E0,L0]] kV) (ax (aB [pN E5 V0] qY) (cY lJ (ax (aB fR [(3,L0),(4,E5)]) .ret) .skip))) (ax (aB [i (.call 68 [E0] true)] lX) (ax (aB [i (.mkfn 66 [] [E2]),dA 67 [E6,L0]] []) (ax (aB [i (.mkfn 65 [] [E2])] jx) (ax OE (ax (ax (.lift 8 0 2 (aB [dA 64 [E6,E7]] pZ)) (dF 0 (.rng 13 rq 63))) (ax (aB [tU] [(3,L0),(4,V0)]) .ret)))))))
def aqE:aS:=⟨13,2,.pure,[.env 3,.env 4],adJ⟩
def qC:re:=⟨13,[12],uC,vY⟩
def XC:az:=ax lW (ax AE (ax (aB [Be,oI 4 L0 E0] tS) .ret))
def apE:aS:=⟨3,1,.fresh 4,[.env 1],XC⟩
def vN:az:=ax (aB [pj 2 E0,fk] sm) (ax (ax (aB Pb vI) (cY E8 (ax (aB [q9,dA 149 [L0],II] uo) .ret) .skip)) (ax (aB [nM 2 E2,dA 154 [L0,E1],jF,jH] [(5,L2),(6,L3)]) (ax (ax (aB [jG E6 eh] lZ) (cY E9 (ax (aB DC [(4,E6)]) .ret) .skip)) (ax (aB [iMv (v (.fn 153 [] []))] jx) (ax (dF 0 (ax (aB [kS,bN,NK,g L2 true (.mov E5),g L2 true (.mov E7),g L2 true (.call 152 [L3,L4] false),vi] [(10,L6)]) (cY lJ (ax (aB DC [(4,eh)]) .ret) (ax (aB Bz pZ) (cY rq (ax (aB DC [(4,E6)]) .ret) (ax (aB [kS,bN,Ox] [(12,L2)]) (cY sO (ax (aB [sk,dA 149 [L0],II] uo) .ret) (ax (aB [kS,bN,NK] [(13,L2)]) (cY A3 (ax (aB [dA 150 [E5],EO,DV,II] rX) .ret) (ax (aB [sk,jG L0 V0] [(14,L1)]) (cY va (ax (aB DC uo) .ret) (ax (aB [kS,bN,jG L1 im] [(15,L2)]) (cY CE (ax (aB [dA 151 [E5,v (.fn 148 [] [])],DE] uo) .ret) .skip))))))))))))) (ax (aB [dA 147 [E5,v (.fn 148 [] [])],DE] uo) .ret))))))
def aog:aS:=⟨16,2,.pure,[.cell true 4 3,.env 4],vN⟩
def wJ:az:=ax qK (ax xx (ax (dF 1 (ax Kp (ax (aB [wj E3,qZ,PI E7 L1,g L2 false (ld E3),Xl,g L2 false (.idxs 4 L3 L4),g L2 false (.load true 4 L5),g L2 false (.call 206 [L6] false),g L2 false (.una .not L7),gI L2 Vt L8] [(14,L9)]) (cY va (ax (aB F9 [(5,eh)]) .ret) .skip)))) rc))
def Rm:az:=ax (aB [sc,vz,fk] Pv) (ax (ax (aB [nL,dA 71 [L0]] md) (ax (aB Bz lZ) (cY E9 (ax (aB F9 [(5,E6)]) .ret) .skip))) (ax (ax (aB W0 [(10,L1),(11,L2),(12,V0)]) (dF 0 (.loop [5,7,13,14] wJ))) (ax (aB [dA 205 [],pj 1 (v .nilm),eT 1 L1 L0] [(8,L1)]) (ax (aB [nL,i (.mkfn 203 [] [E3,E8]),dA 204 [L0,L1],kN,kL,vX] rH) .ret))))
def apc:aS:=⟨15,2,.pure,[.cell true 4 4,.env 5],Rm⟩
def acM:az:=ax OU (ax (ax (aB [mG 1 [E0],dA 79 [L0]] qB) (ax (aB [pN E3 V0] ff) (cY E4 (ax (aB fR [(1,L0),(2,E3)]) .ret) .skip))) (ax (aB [Uf,dA 266 [L0,v (.fn 116 [] [])]] [(1,L1),(2,V0)]) .ret))
def aqA:aS:=⟨5,1,.pure,[.env 1,.env 2],acM⟩
def rT:az:=ax yk (ax (cY va .skip ml) (ax (dF 3 (ax (aB xC kV) (aB [oI 1 E4 E5] ff))) xU))
def CR:az:=ax qS Oo
def WD:az:=ax lW (ax iT (ax (ax DU (dF 0 (.loop [3,9,10] CR))) (ax (aB [dA 164 [Vn,E2]] ff) (ax (ax Po (dF 2 (.loop [5,14] rT))) Ik))))
def apo:aS:=⟨15,1,.pure,[.env 1],WD⟩
def Aj:az:=ax qS (ax tI (ax (dF 1 (ax (aB Bq kV) (aB [i (.call 114 [E5] true),JX,oI 1 E4 L1] rX))) sy))
def RT:az:=ax (aB fR lV) (ax (aB vK ff) (ax (ax DU (dF 0 (.loop [5,9] Aj))) (ax (aB [dA 113 [E1],dA 67 [E4,L0]] []) (ax (ax (aB [PI E2 V0,g L0 true (.mov E2),Fy,g L0 true (.len L2),g L0 true (.bin .lss L1 L3),gI L0 L4 Vf] [(10,L5)]) (cY lJ (aB [i (.slice 1 E4 none (some E2))] ff) .skip)) (ax (aB [] [(3,E4)]) .ret)))))
def aoV:aS:=⟨11,3,.pure,[.env 3],RT⟩
def zu:az:=ax Bd (ax (cY sO .skip ml) (ax (dF 3 (ax (aB [f8 1 E9 rq,bN] vU) (ax (aB [dA 163 [E4],J0] [(13,L1)]) (cY A3 (ax (aB [] [(1,v (.int .i64 150))]) .ret) .skip)))) AL))
def C0:az:=ax DY (ax En (ax (dF 1 (ax (aB [f8 1 E5 E7,bN] qB) (ax (ax (aB [sG E3] [(9,E3),(10,L0),(11,V0)]) (dF 2 (.loop [1,4,12,13] zu))) (aB [sG E3,i (.maxs E2 [L0])] sE)))) D2))
def adb:az:=ax pW (ax iT (ax (ax (aB uu [(5,E0),(6,L0),(7,V0)]) (dF 0 (.loop [1,3,4,8,9,10,11,12,13] C0))) (ax (ax (aB [QG E2 Ax] [(14,L0)]) (cY va (ax (aB [] [(1,kE)]) .ret) .skip)) A7)))
def apZ:aS:=⟨15,1,.pure,[.env 1],adb⟩
def abx:az:=ax lW (ax (aB [i (.call 68 [E0] true)] iY) (ax (aB [dA 67 [E2,v (.fn 140 [] [])]] []) Jm))
def aqW:aS:=⟨3,1,.fresh 1,[.env 1],abx⟩
def Df:az:=ax qK (ax Ja (ax (dF 3 (ax (aB [] [(5,sO)]) (Kr [Ar,bN,Ar,eZ,f8 1 L3 E5,eu 0 L4,gr,i (.call 267 [L6] true),f8 1 L1 E5,eu 0 L8,eT 1 L9 L7] [] [(0,8),(1,8)]))) rc))
def CU:az:=ax Ia (ax Ju (ax (dF 1 (ax (aB [] [(4,E9)]) (Kr [EU,bN,EU,eZ,f8 2 L3 E4,eu 1 L4,eu 0 L5,so,i (.call 267 [L7] true),f8 2 L1 E4,eu 1 L9,eu 0 o7,eT 1 mR L8] [] [(0,9),(1,9)]))) JO))
def KG:az:=ax (aB [pj 12 E0,uG] [(2,L0),(3,L1)]) (ax (ax (aB [eV,bN,AO] yq) (cY E6 (aB [eV,bN,u9 L1 E1,eV,BD] []) .skip)) (ax (ax (aB [lB,bN,AO] kj) (cY E7 (aB [lB,bN,u9 L1 E1,lB,BD] []) .skip)) (ax (Kr [eu 4 E2,bN,i (.call 95 [L1] true),yf,fC,NO,EV,so,i (.call 270 [L7] true),eu 4 E2,eT 1 L9 L2,yf,eT 1 mR L5,EV,eT 1 mY L8] [] [(3,0),(4,0),(6,0),(6,3),(7,0),(7,3),(9,3),(9,6)]) (ax (aB [vE,vc,dw,i (.call 267 [L2] true),vE,eu 0 L4,HU] []) (ax (Kr [EU,bN,i (.call 268 [L1] true),Ar,fC,i (.call 269 [L4] true),EU,eT 1 L6 L2,Ar,eT 1 L8 L5] [] [(3,0),(4,0),(6,3)]) (ax (ax (aB FD [(8,L2),(9,V0)]) (dF 0 (.loop [4,10] CU))) (ax (ax (aB Ig [(11,L2),(12,V0)]) (dF 2 (.loop [5,13] Df))) (ax (aB [F2,eT 12 E3 L0] []) .ret))))))))
def aoN:aS:=⟨14,2,.pure,[.cell true 12 3],KG⟩
def ach:az:=ax lW NA
def aro:aS:=⟨3,1,.fresh 1,[.env 1],ach⟩
def abe:az:=ax Nh (ax (aB [EJ,i (.mput L0 V1 (v (.fn 177 [] []))),i (.mput L0 xH (v (.fn 178 [] []))),i (.mput L0 eh (v (.fn 179 [] []))),i (.mput L0 kE (v (.fn 180 [] []))),i (.mput L0 im (v (.fn 181 [] []))),i (.mput L0 Kw (v (.fn 182 [] []))),i (.mput L0 FV (v (.fn 183 [] []))),i (.mput L0 pb (v (.fn 184 [] []))),i (.mput L0 yw (v (.fn 185 [] []))),i (.mput L0 zB (v (.fn 186 [] []))),i (.mput L0 r9 (v (.fn 187 [] [])))] [(0,L0)]) .ret)
def arp:aS:=⟨1,0,.pure,[.env 0],abe⟩
def gc:az:=ax OC (ax Ur (ax (dF 1 (ax (aB [f8 1 A3 CE,bN] [(7,CE),(8,L1)]) (ax (aB [cD,lh,dw,f8 1 L2 E8,fC] [(9,L4)]) (ax (ax (aB [mO,bN,pN L1 FV,g L2 true (.mov E9),g L2 true (.call 188 [L3,im] false),gI L2 L4 Vf] [(17,L5)]) (cY Gi xy .skip)) (ax (aB [jG E7 V0] [(18,L0)]) (cY TW (aB [cD,vo,eT 1 L1 E9] []) (aB [cD,eu 16 L0,eT 1 L1 E9] []))))))) Pd))
def ip:az:=ax Ej (ax (aB [cD,vc,dw,f8 12 L2 E1,nM 12 L3,uG,eT 12 L5 L4] AU) (ax (aB [mO,bN,dA 190 [L1]] si) (ax (ax (aB [ov E5 V0,X4,tE,UH,g L0 false (.fld 2 L3),g L0 false (ld L4),XE,g L0 false (.bin .gtr L1 L6),O3,g L8 false (.load true 12 E4),g L8 false (.call 189 [L9] false),g L8 false (.una .not o7),gI L8 Vt mR] [(11,xh)]) (cY rq xy .skip)) (ax (aB Xb md) (ax (aB [i (.aslice 2 E6),cD,eu 2 L1,eZ,cD,eu 2 L4,gr,sG L6,CM L7 E5,i (.slice 1 L3 (some L8) none),i (.copy 1 L0 L9)] []) (ax (ax (aB [nM 2 E6,xL,dw,eu 2 E4,fC,XY,Wy] [(12,L6)]) NL) (ax (aB [nM 12 E4,cD,eu 3 L1,eT 12 L2 L0,cD,eu 15 L4,eT 1 L5 Vn,cD,eu 16 L7,eT 1 L8 Vn] []) (ax (ax (aB [cD,eu 2 L0,dw,cD,eu 2 L3,nk,sG L5,CM L6 E5,i (.slice 1 L2 (some L7) none),sG L8] [(13,L8),(14,L9),(15,V0)]) (dF 0 (.loop [3,7,8,9,16,17,18] gc))) (ax (aB [mO,bN,jG L1 r9,O7,tV,g L2 false (.bin .eql L4 Kw),xF] [(10,L6)]) (ax (ax (aB [g lJ true (.mov E1),g lJ true (.mov E0),g lJ true (.nilck L1),g lJ true (.fld 0 L2),g lJ true (ld L3),g lJ true (.len L4),g lJ true (.bin .sub L5 V1),g lJ true (.bin .neq L0 L6),gI lJ L7 Vf,g L8 false (.mov E2),WQ,g L8 false (.callv L9 [o7]),g L8 false (.una .not mR),gI L8 Vt xh,g mY false (.mov E0),g mY false (.nilck yy),g mY false (.fld 17 uU),g mY false (ld ws),g mY false (.len wY),g mY false (.bin .gtr Nt tF),gI mY Vt Kv] [(19,Rq)]) (cY BP xy .skip)) (ax (Kr [cD,lh,dw,cD,eu 17 L3,nk,mG 1 [L5],oI 1 L2 L6,cD,eu 2 L8,wj L9,cD,eu 2 mR,qI,sG mY,CM yy E5,i (.slice 1 o7 none (some uU)),mG 1 [E1],oI 1 ws wY,cD,eu 1 Kv,eT 1 Rq L7,cD,eu 2 QV,eT 1 ZO Nt] [] [(8,0),(9,0),(10,0),(11,0),(12,0),(13,0),(14,0),(16,0)]) Oz)))))))))))
def aod:aS:=⟨20,3,.keep,[.env 3],ip⟩
def XT:az:=ax (aB [vz] yj) (ax (ax (aB [fd,QG L0 Ax] vU) (cY E4 xy .skip)) (ax (aB [i (.mkfn 161 [] [E2]),dA 42 [E0,L0],tR] zQ) .ret))
def apj:aS:=⟨5,2,.pure,[.env 3],XT⟩
def aaD:az:=ax ni (ax (aB [F2,dA 36 [E0,L0],jF,jH] si) (ax (aB [dA 191 [E5],EO,DV] [(3,L1),(4,L2)]) .ret))
def aqJ:aS:=⟨6,2,.pure,[.env 3,.env 4],aaD⟩
def wL:az:=ax (aB [ov T1 E22] [(24,L0)]) (ax (cY E24 .skip ml) (ax (dF 3 (ax (aB [f8 1 OG T1,bN] [(13,T1),(14,L1)]) (ax (aB [tU,f8 1 L0 A3,dw,FA] [(25,L3)]) (cY E25 (Kr [wj E7,cD,eu 6 L1,eZ,lB,nk,I4,so,sG L7,i (.make 4 (.agg [n0,n0,.int .u64 0,.str []]) L8 L8),mG 1 [va,L9],dA 168 [o7],mG 1 [mR],oI 1 L0 xh,eT 1 E7 mY] [] [(0,10)]) .skip)))) (aB [u9 T1 V1] [(23,L0)])))
def kW:az:=dF 1 (ax (aB [vE,pa,dA 192 [L1,lJ],kN,kL] [(11,L3),(12,L4)]) (ax (ax (aB [i (.una .not sO)] [(18,L0)]) (cY TW (ax (aB [Ps,eT 1 E4 vC] []) .ret) .skip)) (ax (aB [] [(19,rq)]) (cY BP (ax (aB [tU,f8 1 L0 E9,eT 1 L1 Vt] []) (aB [wj E7,EM,HT,eT 1 E7 L2] [])) .skip))))
def kz:az:=ax (aB [] [(9,Ek)]) (aB [] [(10,Gi)])
def LW:az:=ax (aB [pj 12 E1,ut,D5] [(2,L0),(3,L1),(4,L2)]) (ax (aB [cD,vp,dw,eV,fC,kw,gr,cD,eu 7 L7,vB,lB,tL,Au,qI] [(5,L6),(6,mY)]) (ax (aB [ut] jx) (ax (aB Vi vI) (ax (ax (.lift 7 0 1 (aB [dA 194 [E5,E6]] yt)) (dF 0 (.rng 26 CE 193))) (ax (ax (aB [eu 5 E2,bN] [(20,L1)]) (cY Rs (ax (aB DR [(21,E5),(22,L0),(23,V0)]) (dF 2 (.loop [13,14,24,25] wL))) .skip)) (ax (aB [wj E7,dA 191 [L0],jF,jH,eT 1 E3 L2,eT 1 E4 L3] []) .ret))))))
def aoG:aS:=⟨26,2,.pure,[.cell false 1 3,.cell false 1 4],LW⟩
def jp:re:=⟨26,[16,17],kz,kW⟩
def wt:az:=ax Bd (ax FT (ax (dF 1 (ax (aB [f8 1 E9 rq,bN] md) (ax (aB [vE,pa,dA 192 [L1,E6],kN,kL] [(7,L3),(8,L4)]) (ax (ax (aB [i (.una .not E8)] vh) (cY A3 (ax (aB fR [(3,L0),(4,vC)]) .ret) .skip)) (ax (aB [] [(14,E7)]) (cY va (aB [mG 1 [E6],oI 1 E5 L0] kV) .skip)))))) AL))
def W8:az:=ax ni (ax Fm (ax (ax (aB U7 [(9,L6),(10,L7),(11,V0)]) (dF 0 (.loop [3,4,6,7,8,12,13,14] wt))) Ov))
def apS:aS:=⟨15,2,.pure,[.env 3,.env 4],W8⟩
def tX:az:=ax EW (ax Kd (ax (dF 3 (ax (aB [f8 1 CE Gi,pa,wW,Cp] vI) (ax (aB [CZ E8,dA 172 [L0,E6],jF,jH,fk,eT 4 L4 L2] [(9,L4),(10,L3)]) (ax (ax (aB [pN lJ V0] [(19,L0)]) (cY BP (ax (aB fR [(3,L0),(4,vC)]) .ret) .skip)) (aB [nM 4 E9,sD,oI 4 E7 L1] kj))))) Ei))
def Aa:az:=ax yk (ax If (ax (dF 1 (ax (aB xC md) (ax (aB EQ jx) (ax (ax (aB Ig I0) (dF 2 (.loop [3,4,8,9,10,18,19] tX))) (aB [mG 1 [E7],oI 1 E5 L0] kV))))) xU))
def Xv:az:=ax ni (ax Fm (ax (ax (aB U7 [(11,L6),(12,L7),(13,V0)]) (dF 0 (.loop [3,4,6,7,8,9,10,14,15,16,17,18,19] Aa))) (ax (aB [dA 191 [E5],EO,DV] [(3,L1),(4,L2)]) .ret)))
def apy:aS:=⟨20,2,.pure,[.env 3,.env 4],Xv⟩
def aaJ:az:=ax ni (ax (aB [cD,vp,dw,eV,fC,kw,gr,F2,dA 119 [L6,L7,Vt,v (.fn 195 [] [])],ta 0 L8,ta 1 L8] [(3,L9),(4,o7)]) .ret)
def aqH:aS:=⟨5,2,.pure,[.env 3,.env 4],aaJ⟩
def acl:az:=ax ni (ax (aB [cD,vp,dw,eV,fC,kw,gr,dA 173 [L6],ta 0 L7,ta 1 L7] [(3,L8),(4,L9)]) .ret)
def apY:aS:=⟨5,2,.pure,[.env 3,.env 4],acl⟩
def aby:az:=ax ni (ax (aB [cD,vp,dw,eV,fC,kw,gr,cD,eu 7 L7,vB,lB,tL,Au,qI,N7,dA 78 [yy],dA 191 [uU],ta 0 ws,ta 1 ws] [(3,wY),(4,Nt)]) .ret)
def aqi:aS:=⟨5,2,.pure,[.env 3,.env 4],aby⟩
def adE:az:=ax ni (ax (aB [cD,vp,dw,eV,fC,kw,gr,EV,vS,eu 11 E2,wj L9,dA 8 [L6,L8,o7],ta 0 mR,ta 1 mR] [(3,xh),(4,mY)]) .ret)
def arP:aS:=⟨5,2,.pure,[.env 3,.env 4],adE⟩
def adz:az:=ax Bm (ax (.lift 0 1 1 (.lift 0 2 1 (aB [i (.mkfn 271 [] [E1])] iY))) .ret)
def apW:aS:=⟨3,1,.keep,[.env 2],adz⟩
def CF:az:=ax xA (ax xT (ax (dF 1 (ax (aB [f8 1 E8 lJ,bN] [(4,lJ),(5,L1)]) (ax (aB [f8 1 E1 E4,bN] md) (ax (aB [i (.callv E2 [E5,E6]),J0] [(12,L1)]) NL)))) yh))
def aaC:az:=ax Ej (ax (ax (aB JP kj) (cY E7 xy .skip)) (ax (ax DQ (dF 0 (.loop [3,4,5,6,11,12] CF))) Oz))
def arc:aS:=⟨13,3,.pure,[.env 3],aaC⟩
def Vm:az:=ax tT (ax (aB [dA 144 [E0,E1]] iY) .ret)
def apO:aS:=⟨3,2,.pure,[.env 2],Vm⟩
def jn:az:=ax Av (ax tY (ax (dF 1 (ax yv (ax (aB [Bb,bN,DW] kj) Ay))) xP))
def KW:az:=ax iT (ax (ax Bv (dF 0 (.loop [2,3,6,7] jn))) vJ)
def aoD:aS:=⟨8,2,.pure,[.env 2],KW⟩
def ajg:az:=ax tT (ax (aB [fb,fd,ov L0 L1,g L2 true (.mov E0),OR,g L2 true (.idxs 4 L3 L4),g L2 true (.fld 0 L5),g L2 true (ld L6),g L2 true (.bin .neq L7 V0),gI L2 L8 Vf] [(2,L9)]) .ret)
def arW:aS:=⟨3,2,.pure,[.env 2],ajg⟩
def lL:az:=ax I3 (ax (cY Rs .skip ml) (ax (dF 3 (ax (aB VZ [(12,L2),(11,BP)]) (ax (aB [qW,nM 2 sO,eu 1 E9,eZ,i (.callv L0 [rq,L1,L3]),BF,By,fk,eT 4 L7 L5] [(13,L7),(14,L6)]) (ax (ax (aB [pN va V0] GU) (cY OG (ax (aB [eT 1 E6 Vn,eT 1 E7 vC] []) .ret) .skip)) (aB [nM 4 A3,sD,oI 4 lJ L1] xX))))) Kq))
def jN:az:=dF 1 (ax (aB [eu 0 E9,bN,XI] xX) (ax (ax (aB [eu 8 E4,bN,iw] PR) (dF 2 (.loop [20] lL))) (aB [tU,EM,HT,eT 1 E8 L2] [])))
def jm:az:=aB [NI,eT 2 L0 Ek] lZ
def Hw:az:=ax (aB [pj 12 E1,pj 1 E3,ut,D5] [(4,L0),(5,L1),(6,L2),(7,L3)]) (ax OE (ax (ax (.lift 8 0 1 (aB [eu 7 E4,bN,dA 200 [E0,L1,E2]] [(15,L2)])) (dF 0 (.rng 22 CE 199))) (ax (aB [tU,dA 191 [L0],jF,jH,eT 1 E6 L2,eT 1 E7 L3] []) .ret)))
def aoB:aS:=⟨22,4,.pure,[.cell false 1 6,.cell false 1 7],Hw⟩
def gD:re:=⟨22,[16],jm,jN⟩
def YD:az:=ax yk (ax If (ax (dF 1 (ax (aB xC AW) (ax (aB [uA,pa,dA 172 [L1,E7],kN,kL,fk,OY] [(8,L5),(9,L4)]) (ax (ax (aB [jG E9 V0] yt) (cY CE (aB [A6,nM 4 E8,dA 201 [L0,L1],kN,kL,eT 4 E6 L3] [(9,L4)]) .skip)) (ax (aB [pN E9 V0] xw) (cY Ek (ax (aB [A6,DH] [(5,E9)]) .ret) .skip)))))) xU))
def ahM:az:=ax (aB [pj 2 E1,fk] IM) (ax (ax (aB [nQ,bN,pN L1 kE] xX) (cY lJ (ax (aB [nM 2 E3,dA 19 [L0,E2],jF,jH,eT 4 E4 L2] [(5,L3)]) .ret) .skip)) (ax (aB Xh md) (ax (ax (aB [sG E2] [(11,E2),(12,L0),(13,V0)]) (dF 0 (.loop [5,7,8,9,14,15,16] YD))) (ax (aB [A6,DH] [(5,V0)]) .ret))))
def ar3:aS:=⟨17,3,.pure,[.cell true 4 4,.env 5],ahM⟩
def yQ:az:=ax (aB [pj 2 E0,fk] sm) (ax (aB [kS,bN,PI L1 V1,Xj,rh,g L2 true (.bin .leq L4 pb),vi,g L6 true (.mov E1),g L6 true (.call 41 [L7] false),gI L6 L8 Vf] [(5,L9)]) (ax (ax (aB Pb yq) (cY E6 (aB [Ut,g E5 true (.fld 0 L0),g E5 true (ld L1),g E5 true (.len L2),g E5 true (.bin .eql L3 V0),gI E5 L4 Vf] [(5,L5)]) (aB [Ut,g E5 true (lt L0),g E5 true (.call 71 [L1] false),WL,gI E5 L3 Vf] rH))) (ax (ax (aB [i (.una .not E5)] jx) (cY E7 (ax (aB DC [(4,eh)]) .ret) .skip)) (ax (aB [nM 2 E2,dA 70 [L0,E1],jF,jH,eT 4 E3 L2] [(4,L3)]) .ret))))
def aok:aS:=⟨8,2,.pure,[.cell true 4 3,.env 4],yQ⟩
def acg:az:=ax (aB xS [(0,L0)]) (ax (aB [tj,eT 4 E0 L0] []) .ret)
def aq5:aS:=⟨1,0,.pure,[.cell true 4 0],acg⟩
def TL:az:=ax sA (ax (ax (aB [me,sD,dA 210 [im,L1],g8,mG 4 [L3],dA 210 [eh,L4]] [(6,L2),(7,L5)]) (dF 0 (ax (aB [jG E6 ES,Iz,g L0 false (.bin .eql L1 ES),vv] [(8,L3)]) (cY E8 (ax (aB F9 [(5,ES)]) .ret) (ax (aB [pN E6 V0,Iz,Vs,vv] [(9,L3)]) (cY E9 (ax (aB F9 [(5,eh)]) .ret) (ax (aB [nQ,bN,ua] xX) (cY lJ (ax (aB [me,DH] [(5,V0)]) .ret) (ax (aB [kS,bN,ua] DI) (cY rq (ax (aB [g8,dA 208 [L0],eT 4 E4 L1] [(5,V0)]) .ret) .skip)))))))))) (ax (aB [me,g8,dA 208 [L1],dA 209 [L0,L2],vt,vQ,PT] [(5,L5)]) .ret))
def aow:aS:=⟨12,2,.pure,[.cell true 4 4,.env 5],TL⟩
def ake:az:=ax HN (ax (ax (aB [kS,bN,nQ,eZ,Iw] rH) (cY E5 (ax (aB [kS,bN,nQ,eZ,Ij,HQ] AU) .ret) .skip)) (ax (ax (aB [eV,bN,uA,eZ,Iw] [(6,L4)]) (cY E6 (ax (aB [eV,bN,uA,eZ,Ij,HQ] AU) .ret) .skip)) (ax (ax (aB [lB,bN,Ef,eZ,Iw] [(7,L4)]) (cY E7 (ax (aB [lB,bN,Ef,eZ,Ij,HQ] AU) .ret) .skip)) (ax (ax (aB [vj,bN,DD,eZ,Iw] [(8,L4)]) (cY E8 (ax (aB [vj,bN,DD,eZ,Ij,HQ] AU) .ret) .skip)) (ax (aB [] uo) .ret)))))
def arZ:aS:=⟨9,2,.pure,[.env 4],ake⟩
def GT:az:=ax (aB [sr] AQ) (ax (ax (aB [r6,dA 256 [L0],tj,i (.eqa true [0,0,0,2] L1 L2)] [(3,L3)]) (cY E3 (ax (aB [] [(2,ES)]) .ret) .skip)) ye)
def aov:aS:=⟨4,1,.pure,[.env 2],GT⟩
def tQ:az:=ax qK (ax Ja (ax (dF 3 (ax (aB [f8 1 lJ sO,bN] kV) (ax (aB [mG 1 [E4,E5],dA 168 [L0],i (.callv E0 [E3,L1]),FA] [(14,L3)]) (cY va .ret .skip)))) rc))
def yM:az:=ax qS (ax tI (ax (dF 1 (ax (aB Bq [(3,E8),(4,L1)]) (ax (aB [lT,qZ] [(10,L0),(11,L1),(12,V0)]) (dF 2 (.loop [5,13,14] tQ))))) sy))
def Wd:az:=ax (aB [fb,qZ] [(6,L0),(7,L1),(8,V0)]) (dF 0 (.loop [3,4,5,9,10,11,12,13,14] yM))
def apt:aS:=⟨15,3,.keep,[],Wd⟩
def aa6:az:=ax JQ (ax (aB [r6,dA 321 [Vt],i (.eqa false [0,0,0,2] L0 L1)] sF) .ret)
def aru:aS:=⟨3,1,.pure,[.env 2],aa6⟩
def XS:az:=ax kv (ax NP (ax (ax PJ (ax N1 (cY E4 (aB [JD,i (.slice 4 E0 none (some L0)),i (.appz 4 (.agg [n0,n0,.int .u64 0,.str []]) L1 E1),fd,i (.slice 4 L2 none (some L3))] [(0,L4)]) .skip))) zF))
def apk:aS:=⟨5,2,.keep,[.env 2],XS⟩
def Dt:az:=ax xA (ax xT (ax (dF 1 (ax (aB [f8 1 E8 lJ,bN] kV) (ax (aB [dA 138 [E5,E1],J0] [(12,L1)]) (cY sO (ax (aB [] [(2,eh)]) .ret) .skip)))) yh))
def abp:az:=ax iT (ax (ax (aB [mG 1 [E0],dA 79 [L0]] qB) (ax (aB [pN E3 V0] lX) (cY E6 uq .skip))) (ax (aB [iMv (v (.fn 139 [] []))] ff) (ax (ax (aB [q9,QG L0 tF,QK,g L1 false (.mov E4),g L1 false (.call 77 [L2,L3] false),HZ] [(7,L5)]) (cY E7 (ax (aB [] [(2,eh)]) .ret) .skip)) (ax (ax DQ (dF 0 (.loop [2,5,11,12] Dt))) ye))))
def arq:aS:=⟨13,2,.pure,[.env 2],abp⟩
def CQ:az:=ax FB (ax Bx (ax (dF 1 (ax PO (aB [i (.call 114 [E3] true),JX,oI 1 E2 L1] sF))) Fc))
def adH:az:=ax lW (ax (aB vK iY) (ax (ax HS (dF 0 (.loop [3,7] CQ))) Jm))
def aqP:aS:=⟨8,1,.fresh 1,[.env 1],adH⟩
def aaX:az:=ax yc (ax (aB [lT,dA 61 [E0,L0],lT,dA 61 [E1,L2],dA 140 [L1,L3],dA 140 [E0,E1],mG 1 [L4,L5],dA 141 [L6]] [(3,L7)]) .ret)
def aqT:aS:=⟨4,3,.pure,[.env 3],aaX⟩
def lK:az:=ax FB (ax Bx (ax (dF 1 (ax PO (ax (aB [pN E3 E2] r8) Rz))) Fc))
def sY:az:=ax pW (ax iT (ax (ax HS (dF 0 (.loop [1,3,7,8] lK))) Jm))
def aoe:aS:=⟨9,1,.pure,[.env 1],sY⟩
def abQ:az:=ax iT (ax (aB [dA 142 [E0,E1,v (.fn 143 [] [])]] iY) .ret)
def aqX:aS:=⟨3,2,.pure,[.env 2],abQ⟩
def CD:az:=ax DY (ax En (ax (dF 1 (ax (aB [f8 1 E5 E7,bN] vU) (aB [C5,kl,mG 4 [L1],oI 4 E3 L2] [(3,L3)]))) D2))
def aas:az:=ax kv (ax (aB EQ lV) (ax (ax (aB AX [(5,E1),(6,L0),(7,V0)]) (dF 0 (.loop [4,8] CD))) uq))
def aqn:aS:=⟨9,2,.pure,[.env 2],aas⟩
def aaI:az:=ax Ej (ax (aB [lT,dA 61 [E0,L0],lT,dA 61 [E1,L2],dA 116 [L1,L3]] [(3,L4)]) .ret)
def aqh:aS:=⟨4,3,.pure,[.env 3],aaI⟩
def aba:az:=ax Pa (ax (aB [i (.mkfn 145 [] [E2,E3])] ff) .ret)
def aqR:aS:=⟨5,2,.keep,[.env 4],aba⟩
def aa2:az:=ax lW NA
def ara:aS:=⟨3,1,.fresh 1,[.env 1],aa2⟩
def abv:az:=ax PN (ax (aB [Cw [n0,n0,.int .u64 0,.str []] [(0,1,eh),(1,1,E0)],DN] []) .ret)
def aq0:aS:=⟨2,1,.pure,[.cell true 4 1],abv⟩
def tu:az:=ax qK (ax xx (ax (dF 1 (ax Kp (ax (aB [eV,pa,dA 172 [L1,E7],kN,kL,fk,OY] [(8,L5),(9,L4)]) (dF 2 (ax (aB [jG E9 vC] [(14,L0)]) (cY va (aB [] [(6,E9)]) (ax (aB [pN E9 V0] yt) (cY CE (ax (aB fR [(3,L0),(4,eh)]) .ret) (ax (aB [Jo,bN,yd] [(16,L2)]) (cY Ek (aB [nM 4 E8,sD,oI 4 E5 L1] si) .skip)))))))))) rc))
def VY:az:=ax (aB [pj 2 E0,pS] sm) (ax (aB EQ kg) (ax Kj (ax (ax (aB AX [(10,E1),(11,L0),(12,V0)]) (dF 0 (.loop [3,4,7,8,9,13,14,15,16] tu))) (ax (aB [] [(3,E5),(4,E6)]) .ret))))
def apA:aS:=⟨17,2,.pure,[.env 3,.env 4],VY⟩
def adu:az:=ax JQ (ax (aB [su,bN,pN L1 eh] sF) .ret)
def aqZ:aS:=⟨3,1,.pure,[.env 2],adu⟩
def acD:az:=ax tT (ax (aB [dA 248 [E0,E1],wE] sE) .ret)
def arB:aS:=⟨3,2,.pure,[.env 2],acD⟩
def Ka:az:=ax xA (ax xT (ax (dF 1 (ax (aB CC rX) (ax (aB [g8,uz,dA 201 [L0,L1],kN,kL,fk,OY] [(5,L5),(6,L4)]) (ax (ax (aB Bz GN) (cY sO (ax (aB [w9,DN] [(2,E6)]) .ret) .skip)) (aB [w9,DE] []))))) yh))
def ahz:az:=ax (aB xS AQ) (ax (ax (aB [fd,QG L0 (v (.int .i64 1048576))] AW) (cY E7 (ax (aB [tj,DN] [(2,kE)]) .ret) .skip)) (ax (aB Xh qB) (ax (ax DQ (dF 0 (.loop [2,4,5,6,11,12] Ka))) (ax (aB [g8,dA 215 [L0],jF,jH,eT 4 E1 L2] [(2,L3)]) .ret))))
def aob:aS:=⟨13,1,.pure,[.cell true 4 1,.env 2],ahz⟩
def Ak:az:=ax (ax (aB [fd,ov E4 L0] md) tY) (ax (dF 1 (ax (aB [C5,kl,g8,Rk,ov L3 V0] [(7,L4)]) Qv)) J2)
def abU:az:=ax (aB xS iY) (ax (ax (aB [fd,ov L0 V1] kV) (cY E5 J8 .skip)) (ax (aB [f8 4 E0 V0,kl,fk,xD] zQ) (ax (ax IQ (dF 0 (.loop [6,7] Ak))) (ax (aB [g8,wm] []) .ret))))
def aqQ:aS:=⟨8,2,.pure,[.cell true 4 2],abU⟩
def acA:az:=ax HN (ax (aB [me,sD,g8,mG 4 [L2],dA 214 [L1,L3]] [(4,L4)]) .ret)
def aqB:aS:=⟨5,2,.pure,[.env 4],acA⟩
def zW:az:=ax (ax (aB [fd,ov E4 L0] md) tY) (ax (dF 1 (ax (aB [C5,kl,g8,Rk,QG L3 V0] [(7,L4)]) Qv)) J2)
def ac7:az:=ax (aB xS iY) (ax (ax (aB [fd,ov L0 V1] kV) (cY E5 J8 .skip)) (ax (aB [f8 4 E0 V0,kl,fk,xD] zQ) (ax (ax IQ (dF 0 (.loop [6,7] zW))) (ax (aB [g8,wm] []) .ret))))
def arO:aS:=⟨8,2,.pure,[.cell true 4 2],ac7⟩
def aca:az:=ax (aB vV AQ) (ax (ax (aB [CZ E1,dA 146 [L0],jF,jH] [(3,L3)]) (ax (aB [i (.una .not E3)] ff) (cY E4 (ax (aB [] [(2,v (.int .i64 200))]) .ret) .skip))) ye)
def ap3:aS:=⟨5,1,.pure,[.env 2],aca⟩
def zl:az:=ax qS (ax tI (ax (dF 1 (ax (aB [f8 8 E6 E8,EZ,Fw,FI] rX) (ax (aB [mO,bN,Ox] xX) (cY lJ (aB [eu 3 E4,bN,mG 1 [L1],oI 1 E3 L2] [(3,L3)]) .skip)))) sy))
def adi:az:=ax (aB Pu Eg) (ax (ax (aB [CZ E1,dA 71 [L0],yd] si) (cY E5 (ax kv .ret) .skip)) (ax NW (ax (ax (aB OT [(6,L1),(7,L2),(8,V0)]) (dF 0 (.loop [4,9,10] zl))) (ax (aB [dA 282 [E3]] []) (ax (aB [dA 281 [E3]] iY) .ret)))))
def arw:aS:=⟨11,1,.pure,[.env 2],adi⟩
def acB:az:=ax JQ (ax (aB [r6,BB,ua,g L2 true (.fld 0 E1),rh,g L2 true (.bin .neq L4 im),vi] [(2,L6)]) .ret)
def aqe:aS:=⟨3,1,.pure,[.env 2],acB⟩
def akN:az:=ax Nh (ax (aB [dA 296 [JF]] ur) (ax (aB [EJ,dA 283 [v (.fn 284 [] [])],i (.mput L0 im L1),dA 283 [v (.fn 285 [] [])],i (.mput L0 pb L3),dA 286 [Vt],i (.mput L0 yw L5),dA 286 [Vf],i (.mput L0 zB L7),i (.mput L0 D7 (v (.fn 287 [] []))),i (.mput L0 (v (.int .i64 13)) (v (.fn 288 [] []))),i (.mput L0 (v (.int .i64 14)) (v (.fn 289 [] []))),i (.mput L0 (v (.int .i64 15)) (v (.fn 290 [] []))),i (.mput L0 tF (v (.fn 291 [] []))),dA 292 [v (.fn 291 [] [])],i (.mput L0 Jc yy),i (.mput L0 (v (.int .i64 18)) JF),i (.mput L0 (v (.int .i64 20)) E1),dA 292 [E1],i (.mput L0 (v (.int .i64 19)) Nt),dA 292 [JF],i (.mput L0 (v (.int .i64 21)) Rq),i (.mput L0 (v (.int .i64 22)) (v (.fn 294 [] []))),i (.mput L0 J9 (v (.fn 295 [] [])))] [(0,L0)]) .ret))
def ar1:aS:=⟨2,0,.pure,[.env 0],akN⟩
def Ae:az:=ax FY (ax Jh (ax (dF 1 (ax (aB [f8 8 sO va,EZ,Fw,FI] r7) (ax (Kr [nM 8 E9,eu 0 E9,dw,dA 247 [L2],i (.callv E7 [L3]),RX,RU,Rn,fk,eT 4 L8 L6] [(10,L8),(11,L7)] [(0,5),(0,9),(1,9),(2,9),(3,9)]) (ax (ax (aB [pN rq V0] xw) (cY Ek (ax (aB [] [(8,rq)]) g7) .skip)) (aB [qW,nM 4 lJ,mG 4 [L1],oI 4 L0 L2,eT 1 E5 L3] []))))) F7))
def Vc:az:=ax (aB [sc,fk] sm) (.scope (ax (aB [ut] kg) (ax (aB xS lX) (ax (aB [i (.mkfn 297 [] [E5])] jx) (ax I2 (ax (ax (.lift 5 0 4 (aB Ie [(12,L1),(13,L2),(14,V0)])) (dF 0 (.loop [9,10,11,15,16] Ae))) (ax (ax (aB [pN E8 V0] [(17,L0)]) (cY Gi (ax (aB [A6,DE] [(4,E8)]) .ret) .skip)) (ax (aB [qW,f8 4 L0 V0,nM 4 L1,eT 4 E3 L2] uo) .ret))))))))
def apz:aS:=⟨18,2,.pure,[.cell true 4 3,.env 4],Vc⟩
def Hu:az:=ax (aB [pj 8 E0,fk] [(4,L0),(5,L1),(6,V0)]) (ax (ax (aB [mO,bN] [(9,L1)]) (dF 0 (ax (aB [jG E9 V1] qY) (cY lJ (ax (aB [eu 4 E4,kl,eT 4 E5 L1] wI) .ret) (ax (aB [jG E9 eh] pZ) (cY rq (ax (aB [lT,eu 3 E4,dw,f8 4 L0 L2,nM 4 L3,IS] wI) .ret) .skip)))))) (ax (Kr [wj E3,mO,dw,i (.look .nilf false L0 L2),f8 4 E1 V0,nM 4 L4,q9,CM L6 V1,f8 4 E1 L7,nM 4 L8,i (.callv L3 [L5,L9]),ta 0 o7,ta 1 o7,fk,eT 4 mY mR] [(7,mY),(8,xh)] [(0,14),(1,14),(2,14),(3,14),(4,14),(5,14),(6,14),(8,14),(9,14)]) (ax (ax (aB [pN E8 V0,g L0 true (.mov E8),adf,LQ] [(12,L3)]) (cY sO (aB [] [(8,v (.int .i64 201))]) .skip)) (ax (aB [nM 4 E7,zV] [(6,E8)]) .ret))))
def aoz:aS:=⟨13,4,.pure,[.cell true 4 5,.env 6],Hu⟩
def yN:az:=ax (ax (aB [sG E4,ov E5 L0] [(9,L1)]) (cY E9 .skip ml)) (ax (dF 3 (ax (aB [f8 1 E4 E5,bN,CM E5 V1,f8 1 E4 L2,fC,RO,i (.una .not L5)] [(10,L6)]) (cY lJ (ax (aB [f8 1 E4 E5,bN,Bb,Cp] []) DK) .skip))) xP)
def pf:az:=ax (ax (aB [fd,ov E3 L0] AW) Bx) (ax (dF 1 (ax (aB [Bb,bN,CM E3 V1,f8 1 E0 L2,fC,RO] [(8,L5)]) (cY E8 (ax (aB [QD] ff) (ax (ax (aB [] [(5,V1)]) (dF 2 (.loop [9,10] yN))) (ax (aB [QD,i (.clr .aj L0)] []) (ax (aB [i (.slice 1 E0 none (some E3))] iY) .ret)))) .skip))) DK)
def P8:az:=ax kv (ax (ax (aB [fd,ov L0 eh] md) (cY E6 zF .skip)) (ax (ax IB (dF 0 (.loop [2,4,5,7,8,9,10] pf))) zF))
def ao1:aS:=⟨11,2,.keep,[.env 2],P8⟩
def XU:az:=ax kv (ax NP (ax (ax PJ (ax N1 (cY E4 (aB [JD,R3,i (.appz 1 .aj L1 E1),fd,Sb] [(0,L4)]) .skip))) zF))
def apr:aS:=⟨5,2,.keep,[.env 2],XU⟩
def adw:az:=ax Bm (ax (aB [i (.mkfn 198 [] [E1])] iY) .ret)
def arD:aS:=⟨3,1,.pure,[.env 2],adw⟩
def WB:az:=ax fB (ax (aB [iMv (v (.fn 260 [] []))] iY) (ax (aB [fd,iLq L0 tF,g L1 true (.mov E0),g L1 true (.mov E2),g L1 true (.call 259 [L2,L3] false),Kf,Jd] [(1,L6)]) .ret))
def apR:aS:=⟨3,1,.pure,[.env 1],WB⟩
def adx:az:=ax lW (ax AE (ax (aB [Be,oI 2 L0 E0] tS) .ret))
def arl:aS:=⟨3,1,.fresh 2,[.env 1],adx⟩
def adc:az:=ax lW (ax AE (ax (aB [Be,oI 8 L0 E0] tS) .ret))
def aqG:aS:=⟨3,1,.fresh 8,[.env 1],adc⟩
def abh:az:=ax lW (ax AE (ax (aB [Be,oI 2 L0 E0] tS) .ret))
def ap6:aS:=⟨3,1,.fresh 2,[.env 1],abh⟩
def acj:az:=ax lW NA
def arE:aS:=⟨3,1,.fresh 1,[.env 1],acj⟩
def adS:az:=ax fB (ax (aB [cD,pT,eu 4 L1,eZ,cD,eu 17 L4,HU] []) (ax (aB [cD,pT,eu 4 L1,eZ,dA 77 [L3,v (.fn 272 [] [])],i (.una .not L4)] [(2,L5)]) (ax (aB [g E2 true (.mov E0),Q4,P5,Q3,g E2 true (ld L3),Qp,gI E2 L5 Vf,g L6 true (.mov E0),Sr,QR,RJ,g L6 true (ld o7),g L6 true (.bin .lss mR im),gI L6 xh Vf,RS,QL,Rf,RA,g mY true (ld wY),RG,P2,Xo,QN,Qi,Q2,RE,g AZ true (ld L25),QJ,g AZ true (.bin .leq ZS im),WX] [(1,L29)]) .ret)))
def arh:aS:=⟨3,1,.keep,[.env 1],adS⟩
def aaS:az:=ax fB (ax (aB [cD,pT,eu 4 L1,eZ,cD,eu 17 L4,HU] []) (ax (aB [cD,pT,eu 4 L1,eZ,dA 77 [L3,v (.fn 273 [] [])],i (.una .not L4)] [(2,L5)]) (ax (aB [g E2 true (.mov E0),Q4,P5,Q3,g E2 true (ld L3),Qp,gI E2 L5 Vf,g L6 true (.mov E0),Sr,QR,RJ,g L6 true (ld o7),g L6 true (.bin .lss mR (v (.int .i64 30))),gI L6 xh Vf,RS,QL,Rf,RA,g mY true (ld wY),RG,P2,Xo,QN,Qi,Q2,RE,g AZ true (ld L25),QJ,g AZ true (.bin .leq ZS tF),WX] [(1,L29)]) .ret)))
def arI:aS:=⟨3,1,.keep,[.env 1],aaS⟩
def ads:az:=ax fB (ax (aB [cD,vo,dw,cD,eu 16 L3,nk,mG 1 [L2,L5],dA 275 [L6],cD,eu 17 L8,eT 1 L9 L7] []) (ax (aB [cD,pT,eu 6 L1,CZ L2,cD,eu 17 L4,gr,dA 274 [L3,L6]] [(1,L7)]) .ret))
def aqp:aS:=⟨2,1,.keep,[.env 1],ads⟩
def abb:az:=ax fB (ax (aB [cD,vo,dw,cD,eu 17 L3,eT 1 L4 L2] []) (ax (aB [cD,pT,eu 6 L1,CZ L2,cD,eu 15 L4,gr,dA 274 [L3,L6]] [(1,L7)]) .ret))
def aqz:aS:=⟨2,1,.keep,[.env 1],abb⟩
def gN:az:=ax US (ax (cY Gi .skip ml) (ax (dF 3 (ax (aB aaK si) (ax (aB [] [(6,eh)]) (ax (ax (aB [eu 0 E5,bN,FJ] [(18,L2)]) (cY TW (aB [g E3 true (.fld 1 E5),g E3 true (.fld 0 L0),g E3 true (ld L1),g E3 true (.len L2),g E3 true (.bin .eql L3 V0),gI E3 L4 Vf] [(3,L5)]) (ax (aB [eu 1 E5,pa,cD,eu 15 L2,fC,dA 276 [L1,L4],RU,Rn] [(7,L6),(8,L7)]) (ax (aB [g E3 true (.mov E8),g E3 true (.bin .eql L0 V0),gI E3 L1 Vf,g L2 true (.fld 0 E5),rh,g L2 true (.bin .gtr L4 V1),vi,UO,PB,g L6 true (.bin .leq L8 pb),gI L6 L9 Vf] [(3,o7)]) (ax (aB [eu 0 E5,bN] [(19,L1)]) (dF 4 (ax (aB [jG BP kE] MT) (cY Rs (aB [g E3 true (.mov E7),g E3 true (.bin .eql L0 eh),g E3 true (.mov L1),Xl,g L2 false (.bin .eql L3 V0),g E3 true (.pick L2 Vt L4),gI E3 L5 Vf] [(3,L6)]) (ax (ax (aB [jG BP im] GU) (cY OG .skip (aB [jG BP pb] GU))) (cY OG N5 .skip)))))))))) (aB [cD,rO,dw,mG 1 [E6],AD,cD,eu 17 L5,GX] []))))) U8))
def wl:az:=ax Bd (ax FT (ax (dF 1 (ax (aB [f8 1 E9 rq,bN] vU) (ax (ax (aB [ov E4 V0,g L0 false (.mov E4),tE,UH,g L0 false (.fld 15 L3),g L0 false (ld L4),XE,g L0 false (.bin .geq L1 L6),O3] [(13,L8)]) (cY A3 zJ .skip)) (aB [cD,rO,dw,cD,eu 15 L3,nk,f8 1 L5 E4,so,mG 1 [L7],oI 1 L2 L8,cD,eu 17 o7,eT 1 mR L9] [])))) AL))
def Fo:az:=ax fB (ax (aB [cD,pT,nM 12 L1,uG,eT 12 L3 L2] [(2,L3)]) (ax (aB [yf,bN,iw,IR,Q5,tq,Dv,Q8,Ir,Se,Dj,Ss,Sa,JS,Qk,QX,Rl,gI L8 ws Vf] [(3,wY)]) (ax J6 (ax (ax (.lift 0 17 1 (aB Dq [(9,L1),(10,L2),(11,V0)])) (dF 0 (.loop [1,4,12,13] wl))) (ax (ax (aB FD Px) (dF 2 (.loop [5,6,7,8,17,18,19,20,21] gN))) (ax (aB [] [(1,E3)]) .ret))))))
def aoq:aS:=⟨22,1,.keep,[.env 1],Fo⟩
def yK:az:=ax qS (ax tI (ax (dF 1 (ax (aB [f8 2 E6 E8,zk,MH,BO] [(4,L2),(3,E8)]) (ax (aB [mO,bN,NK] xX) (cY lJ (aB [cD,rO,dw,cD,eu 3 L3,eu 7 L4,gr,sG L6,u9 L7 E3,f8 1 L2 L8,eT 1 L9 im] []) .skip)))) sy))
def Sp:az:=ax fB (ax (aB [dA 181 [E0]] iY) (ax (ax (aB [i (.una .not E2)] kg) Rj) (ax (ax (aB [cD,pT,eu 8 L1,eZ,sG L3] [(6,L3),(7,L4),(8,V0)]) (dF 0 (.loop [3,4,9,10] yK))) Ib)))
def ao2:aS:=⟨11,1,.keep,[.env 1],Sp⟩
def gL:az:=ax EW (ax Kd (ax (dF 3 (ax (aB [f8 2 CE Gi,zk,MH,BO] [(8,L2),(7,Gi)]) (ax (aB [cD,vo,dw,u9 E3 E7,f8 1 L2 L3,nk] [(9,L5)]) (ax (aB [g E4 true (.fld 1 E8),g E4 true (.fld 0 L0),g E4 true (ld L1),g E4 true (.len L2),g E4 true (.bin .eql L3 V0),gI E4 L4 Vf] AU) (ax (aB [Jo,bN] [(19,L1)]) (dF 4 (ax (ax (aB [jG BP V1] MT) (cY Rs .skip (aB [jG BP eh] MT))) (cY Rs (aB [Kg,g E4 true (.bin .eql L0 eh),IV] rX) (ax (aB [jG BP kE] GU) (cY OG (ax (aB [Kg,g E4 true (.bin .eql L0 im),IV] rX) (aB [cD,rO,dw,u9 E3 E7,f8 1 L2 L3,eT 1 L4 eh] [])) (ax (ax (aB [jG BP im] D6) (cY E22 .skip (aB [jG BP pb] D6))) (cY E22 (aB [Kg,g E4 true (.bin .neq L0 im),IV] rX) (aB [] [(4,Vf)]))))))))))))) Ei))
def wD:az:=ax yk (ax If (ax (dF 1 (ax (aB xC [(5,A3),(6,L1)]) (aB [g E4 true (.mov E6),g E4 true (.mov E5),g E4 true (.bin .eql L0 L1),gI E4 L2 Vf,g L3 true (.mov E0),g L3 true (.nilck L4),g L3 true (.fld 15 L5),g L3 true (ld L6),g L3 true (.mov E5),g L3 true (.idxs 1 L7 L8),g L3 true (ld L9),g L3 true (.bin .neq o7 im),gI L3 mR Vf] [(4,xh)]))) xU))
def Hz:az:=ax fB (ax (aB [cD,pT,nM 12 L1,uG,eT 12 L3 L2] [(2,L3)]) (ax (aB Dq zQ) (ax (aB [cD,vc,dw,eV,fC,f8 12 L2 L4,eu 0 L5,so,jG L7 xH,g L8 true (.mov E3),g L8 true (.bin .leq L9 kE),gI L8 o7 Vf,g mR true (.fld 8 E2),Kl,Sd,g mR true (.bin .leq yy D7),gI mR uU Vf,g ws true (.mov E3),g ws true (.fld 8 E2),g ws true (ld Nt),g ws true (.len Kv),g ws true (.bin .add wY Rq),g ws true (.mov E0),g ws true (.nilck QV),g ws true (.fld 15 ZO),g ws true (ld L24),g ws true (.len L25),g ws true (.bin .eql AZ L26),gI ws ZS Vf] [(4,L28)]) (ax (ax (aB [i (.una .not E4)] qY) (cY lJ zJ .skip)) (ax (aB [cD,vo,dw,i (.call 95 [L2] true),cD,eu 17 L4,HU] []) (ax (ax (aB Dq [(11,L1),(12,L2),(13,V0)]) (dF 0 (.loop [5,6,14] wD))) (ax (ax (aB FD I0) (dF 2 (.loop [7,8,9,18,19,20,21,22] gL))) Ik)))))))
def aor:aS:=⟨23,1,.keep,[.env 1],Hz⟩
def yS:az:=ax DY (ax En (ax (dF 1 (ax (aB [f8 1 E5 E7,pa,wW,Cp] sF) (ax (aB [nL,cD,eu 15 L1,eZ,dA 276 [L0,L3],BF,By] [(3,L5),(4,L6)]) (ax (ax (aB [pN E4 V0] lZ) (cY E9 zJ .skip)) (aB [cD,rO,dw,mG 1 [E3],AD,cD,eu 17 L5,GX] []))))) D2))
def Xn:az:=ax fB (ax J6 (ax (ax (.lift 0 17 1 (aB [cD,pT,eu 9 L1,eZ,sG L3] [(5,L3),(6,L4),(7,V0)])) (dF 0 (.loop [1,2,3,4,8,9] yS))) (ax (aB [cD,rO,dw,sG L2,QG L3 V0] [(1,L4)]) .ret)))
def apP:aS:=⟨10,1,.keep,[.env 1],Xn⟩
def ac6:az:=ax fB (ax (aB [cD,vo,dw,cD,eu 17 L3,eT 1 L4 L2] []) Ib)
def aq3:aS:=⟨2,1,.keep,[.env 1],ac6⟩
def rY:az:=ax qS (ax tI (ax (dF 1 (ax (aB Bq [(2,E8),(3,L1)]) (ax (aB [cD,eu 16 L0,dw,f8 1 L2 E2,fC] [(4,L4)]) (ax (ax (aB [jG E3 V0] qY) (cY lJ (aB [] [(3,E4)]) .skip)) (ax (ax (aB [pN E4 V0,Fy,g L0 true (.mov E3),g L0 true (.bin .neq L1 L2),Pt] [(11,L4)]) (cY rq zJ .skip)) (aB [cD,rO,dw,mG 1 [E3],AD,cD,eu 17 L5,GX] [])))))) sy))
def Q1:az:=ax fB (ax (ax (aB [cD,vo,dw,sG L2,cD,eu 16 L4,gr,sG L6,pN L3 L7] [(5,L8)]) Rj) (ax J6 (ax (ax (.lift 0 17 1 (aB [cD,vo,dw,sG L2] [(6,L2),(7,L3),(8,V0)])) (dF 0 (.loop [1,2,3,4,9,10,11] rY))) Ib)))
def aoW:aS:=⟨12,1,.keep,[.env 1],Q1⟩
def abF:az:=ax (aB vV F5) (ax (aB [fb,fb,DL L1,eu 15 L2,fC,DL L0,eu 17 L5,GX] []) (ax (aB [fb,DL L0,eu 3 L1,eu 10 L2,fC,i (.mkfn 277 [] [E1]),dA 110 [L4,L5]] [(3,L6)]) (ax (aB [i (.una .not E3),g L0 true (ld E1),Wt,g L0 true (.fld 3 L2),g L0 true (.fld 10 L3),g L0 true (ld L4),g L0 true (.len L5),g L0 true (.bin .leq L6 kE),gI L0 L7 Vf,g L8 true (ld E1),g L8 true (.nilck L9),g L8 true (.fld 3 o7),g L8 true (.fld 11 mR),JS,g L8 true (.bin .geq mY lR),gI L8 yy Vf,g uU true (ld E1),g uU true (.nilck ws),g uU true (.fld 3 wY),g uU true (.fld 11 Nt),g uU true (ld Kv),g uU true (.bin .leq Rq QP),gI uU AZ Vf] [(2,QV)]) .ret)))
def aqU:aS:=⟨4,1,.keep,[.env 2],abF⟩
def adP:az:=ax pW (ax (ax Ih (dF 0 (ax (ax (aB [jG E2 V1] lV) (cY E3 .skip (aB [jG E2 xH] lV))) (cY E3 A7 (ax (ax (aB [jG E2 eh] ff) (cY E4 .skip (aB [jG E2 zB] ff))) (cY E4 (ax (aB [] [(1,eh)]) .ret) (ax (ax (aB [jG E2 kE] kg) (cY E5 .skip (ax (aB [jG E2 im] kg) (cY E5 .skip (ax (aB [jG E2 pb] kg) (cY E5 .skip (ax (aB [jG E2 yw] kg) (cY E5 .skip (ax (aB [jG E2 r9] kg) (cY E5 .skip (ax (aB [jG E2 Kw] kg) (cY E5 .skip (aB [jG E2 FV] kg))))))))))))) (cY E5 Jg .skip)))))))) (ax (aB [] [(1,lR)]) .ret))
def aqm:aS:=⟨6,1,.pure,[.env 1],adP⟩
def abG:az:=ax (aB [pj 12 E0] F5) (ax (aB [su,bN,FJ,g L2 false (.fld 0 E1),tV,g L2 false (.bin .eql L4 xH),xF,su,vS,jG L8 im,g L9 false (.fld 0 E1),g L9 false (ld o7),g L9 false (.bin .eql mR Kw),gI L9 Vt xh,g mY false (.fld 0 E1),g mY false (ld yy),g mY false (.bin .eql uU FV),gI mY Vt ws] [(3,L6),(4,wY)]) (ax (aB [g E3 false (.fld 3 E1),g E3 false (ld L0),g E3 false (.bin .eql L1 V0),g E3 false (.mov L2),g L3 true (.fld 4 E1),tq,Dv,g L3 true (.bin .eql L6 V0),g E3 false (.pick L3 L7 Vf),gI E3 Vt L8] [(5,L9)]) (ax (aB [Si,g E5 true (ld L0),g E5 true (.bin .eql L1 eh),g E5 true (.mov L2),g L3 false (.fld 5 E1),Jp,g L3 false (.una .not L5),g E5 true (.pick L3 Vt L6),gI E5 L7 Vf,g L8 true (.fld 0 E1),Dj,g L8 true (.bin .eql o7 eh),g L8 true (.mov mR),g xh false (.fld 0 E1),g xh false (ld mY),g xh false (.bin .eql yy kE),g L8 true (.pick xh Vt uU),g L8 true (.mov ws),g wY false (.fld 6 E1),g wY false (.fld 0 Nt),g wY false (ld Kv),g wY false (.len Rq),g wY false (.bin .eql AZ V0),g L8 true (.pick wY Vt QV),gI L8 ZO Vf] [(5,L24)]) (ax (aB [g E5 true (.mov E4),g E5 true (.mov L0),g L1 false (.fld 7 E1),g L1 false (ld L2),g L1 false (.len L3),g L1 false (.fld 8 E1),g L1 false (ld L5),g L1 false (.len L6),g L1 false (.bin .add L4 L7),g L1 false (.bin .eql L8 V0),g E5 true (.pick L1 Vt L9),gI E5 o7 Vf,g mR true (.fld 0 E1),Kl,g mR true (.bin .eql mY pb),g mR true (.mov yy),g uU false (.fld 9 E1),g uU false (ld ws),g uU false (.len wY),g uU false (.bin .eql Nt V0),g mR true (.pick uU Vt Kv),gI mR Rq Vf] [(5,AZ)]) (ax (aB [Si,g E5 true (ld L0),g E5 true (.bin .eql L1 r9),g E5 true (.mov L2),g L3 false (.fld 10 E1),Jp,g L3 false (.len L5),g L3 false (.bin .eql L6 V0),g L3 false (.mov L7),g L8 true (.fld 11 E1),Dj,g L8 true (.bin .eql o7 V0),g L3 false (.pick L8 mR Vf),g E5 true (.pick L3 Vt xh),gI E5 mY Vf] [(2,yy)]) .ret)))))
def aq1:aS:=⟨6,1,.pure,[.env 2],abG⟩
def aaT:az:=ax tT (ax (aB [dA 278 [E0,E1],wE] sE) .ret)
def aq4:aS:=⟨3,2,.pure,[.env 2],aaT⟩
def Um:az:=ax tT (ax (aB [dA 112 [E0,E1],wE] sE) .ret)
def apF:aS:=⟨3,2,.pure,[.env 2],Um⟩
def acW:az:=ax tT (ax (aB [fb,dA 253 [E0,L0,v (.fn 254 [] [])],tR] sF) .ret)
def arR:aS:=⟨3,2,.pure,[.env 2],acW⟩
def zt:az:=ax xA (ax xT (ax (dF 1 (ax (aB CC [(5,L2),(4,lJ)]) (ax (aB [f8 1 E1 E4,bN] md) (ax (aB [w9,i (.callv E2 [L0,E6]),tR] [(12,L2)]) NL)))) yh))
def Qr:az:=ax Ej (ax (ax (aB JP kj) (cY E7 xy .skip)) (ax (ax DQ (dF 0 (.loop [3,4,5,6,11,12] zt))) Oz))
def aoY:aS:=⟨13,3,.pure,[.env 3],Qr⟩
def ab9:az:=ax (aB [sr] yj) (ax (aB [me,BB,ua,Xj,rh,Qm,g L2 true (.mov L5),g L6 false (.fld 0 E2),Ke,g L6 false (.mov E1),g L6 false (.bin .eql L8 L9),g L2 true (.pick L6 Vt o7),gI L2 mR Vf] [(3,xh)]) .ret)
def apU:aS:=⟨4,2,.pure,[.env 3],ab9⟩
def abX:az:=ax OU (ax (ax (aB [fd,QG L0 Ax] kV) (cY E5 (ax (aB [] [(1,E0),(2,V0)]) .ret) .skip)) (ax (aB [dA 29 [E0],EO,DV] [(3,L1),(4,L2)]) (ax (ax No (cY E6 (ax (aB fR [(1,L0),(2,vC)]) .ret) .skip)) (ax (aB [] [(1,E3),(2,V0)]) .ret))))
def arN:aS:=⟨7,1,.pure,[.env 1,.env 2],abX⟩
def abO:az:=ax Pa (ax (aB [i (.mkfn 279 [] [E2,E3])] ff) .ret)
def arf:aS:=⟨5,2,.keep,[.env 4],abO⟩
def acm:az:=ax (aB vV [(2,L0),(3,Vf),(4,Vf)]) (ax (aB [nL,dA 172 [L0,E1],jF,jH,fk,eT 4 L4 L2] [(5,L4),(6,L3)]) (ax (aB [w9,dA 264 [L0],jG E6 V0] [(3,L1),(4,L2)]) .ret))
def arv:aS:=⟨7,2,.pure,[.env 3,.env 4],acm⟩
def adv:az:=ax (aB [pj 2 E1,fk] IM) (ax (aB [nM 2 E3,dA 19 [L0,E2],jF,jH,eT 4 E4 L2] [(5,L3)]) .ret)
def ap5:aS:=⟨6,3,.pure,[.cell true 4 4,.env 5],adv⟩
def G3:az:=ax (aB [vz,pS] IM) (ax (aB [i (.mkfn 43 [] [E3])] lX) (ax (ax (aB [dA 41 [E0],J0,g L1 false (ld E3),Xa,g L1 false (.bin .gtr L3 kE),HZ,g L5 false (.mov E2),g L5 false (.bin .lss L6 lR),gI L5 Vt L7,WQ,g L8 false (.mov E6),g L8 false (.call 42 [L9,o7] false),gI L8 Vt mR] [(7,xh)]) (cY E7 (ax (aB fR [(4,L0),(5,eh)]) .ret) .skip)) (ax (aB [wj E3,dA 40 [E0,L0,E2]] [(4,L1),(5,V0)]) .ret)))
def aos:aS:=⟨8,3,.pure,[.env 4,.env 5],G3⟩
def mw:az:=ax qK (ax xx (ax (dF 1 (ax (aB Us [(4,L2),(3,sO)]) (ax (aB [mO,bN,i (.look .nilf true E2 L1),kN,kL] [(5,L3),(6,L4)]) (ax (aB [g E6 true (.load true 12 E4),g E6 true (.call 323 [L0] false),g E6 true (.call 324 [L1] false),gI E6 L2 Vf] [(7,L3)]) (ax (ax (aB [] [(14,E7)]) (cY va (ax I2 (ax (aB [fb,dA 322 [L0,E3],jF,jH] [(8,L2),(7,L3)]) (Kr [fb,fb,DL L1,eu 2 L2,fC,mG 1 [E8],oI 1 L4 L5,DL L0,eu 2 L7,eT 1 L8 L6] [] [(0,7)]))) .skip)) (ax (aB fR lZ) (ax (ax (aB [] [(15,E7)]) (cY CE (aB [nM 12 E4,i (.callv E5 [L0]),jF,jH] [(9,L2),(7,L3)]) .skip)) (ax (aB [g E7 true (.mov E9),g E7 true (.len L0),g E7 true (.bin .leq L1 tF),gI E7 L2 Vf] [(7,L3)]) (ax (Kr [fb,fb,DL L1,eu 1 L2,fC,mG 1 [E9],oI 1 L4 L5,DL L0,Ev,eT 1 L8 L6] [] [(0,7)]) (ax (aB [i (.callv E0 [E3,E7]),J0,g L1 false (.mov E7),g L1 false (.una .not L2),gI L1 Vt L3] [(16,L4)]) (cY Ek .ret .skip))))))))))) rc))
def Vo:az:=ax (aB [EJ,fb,i (.mkfn 325 [L1] []),i (.mput L0 V1 L2),fb,i (.mkfn 326 [L4] []),i (.mput L0 eh L5),fb,i (.mkfn 327 [L7] []),i (.mput L0 kE L8),fb,i (.mkfn 328 [o7] []),i (.mput L0 im mR),fb,i (.mkfn 329 [mY] []),i (.mput L0 pb yy),fb,i (.mkfn 330 [ws] []),i (.mput L0 yw wY),fb,i (.mkfn 331 [Kv] []),i (.mput L0 zB Rq),fb,i (.mkfn 332 [QV] []),i (.mput L0 r9 ZO)] iY) (ax (aB [fb,DL L0,Jr,eu 0 L2,fC,sG L4] [(10,L4),(11,L5),(12,V0)]) (dF 0 (.loop [3,4,5,6,7,8,9,13,14,15,16] mw)))
def apu:aS:=⟨17,2,.keep,[],Vo⟩
def Hb:az:=ax tf (ax (aB [iMv (v (.fn 333 [] []))] kg) (ax (aB [vj,bN,AO,g L2 true (.fld 3 E2),rh,g L2 true (.bin .lss L4 im),vi,g L6 true (.fld 4 E2),PB,g L6 true (.len L8),g L6 true (.bin .geq L9 V1),gI L6 o7 Vf,g mR true (.fld 4 E2),Kl,Sd,g mR true (.bin .leq yy im),gI mR uU Vf] [(6,ws)]) (ax (aB [eu 4 E2,bN,g E6 true (.fld 4 E2),g E6 true (ld L2),g E6 true (.mov E5),g E6 true (.call 77 [L3,L4] false),g E6 true (.una .not L5),gI E6 L6 Vf] [(3,L1),(4,L7)]) .ret)))
def aox:aS:=⟨7,2,.keep,[.env 3,.env 4],Hb⟩
def adC:az:=ax tf (ax (aB [cD,lh,dw,eV,fC,kw,gr,cD,Ev,vB,lB,tL,Au,qI,N7,dA 275 [yy]] [(5,uU)]) (ax (aB [vE,pa,dA 334 [L1,E5]] [(3,E5),(4,L2)]) .ret))
def aqf:aS:=⟨6,2,.pure,[.env 3,.env 4],adC⟩
def abd:az:=ax tf (ax (aB [cD,lh,dw,eV,fC,kw,gr,vE,CZ L7,cD,eu 1 L9,tL,eV,qI,f8 1 mR mY,wj yy,dA 334 [L8,uU]] [(3,L6),(4,ws)]) .ret)
def aq7:aS:=⟨5,2,.keep,[.env 3,.env 4],abd⟩
def Db:az:=ax I3 (ax (cY Rs .skip ml) (ax (dF 3 (ax (aB VZ r7) (ax (aB [nM 2 E9,dA 335 [L0,E5],jF,jH] [(10,L2),(11,L3)]) (aB [EM,oI 1 E7 L0,g E6 true (.mov rq),gI E6 L2 Vf] [(7,L1),(6,L3)])))) Kq))
def CL:az:=ax OC (ax Ur (ax (dF 1 (ax (aB [f8 1 A3 CE,bN] [(8,L1)]) (aB [f8 1 E5 E8,bN,mG 1 [L1],oI 1 E7 L2] [(7,L3)]))) Pd))
def Hv:az:=ax tf (ax (aB RB [(5,L6)]) (ax (aB [yf,bN,iw,IR,Q5,tq,Dv,Q8,Ir,Se,Dj,Ss,Sa,JS,Qk,QX,Rl,gI L8 ws Vf,g wY true (.fld 7 E2),g wY true (ld Nt),g wY true (.mov E5),g wY true (.call 336 [Kv,Rq] false),gI wY AZ Vf] [(6,QV)]) (ax (ax (aB [i (.una .not E6)] GN) (cY sO Nw .skip)) (ax (aB vK jx) (ax (ax (aB Dq [(13,L1),(14,L2),(15,V0)]) (dF 0 (.loop [8,16] CL))) (ax (ax (aB FD PR) (dF 2 (.loop [9,10,11,20] Db))) (ax (aB [] [(3,E7),(4,E6)]) .ret)))))))
def aoA:aS:=⟨21,2,.pure,[.env 3,.env 4],Hv⟩
def Dn:az:=ax qK (ax xx (ax (dF 1 (ax (aB [f8 1 lJ sO,pa,wW,Cp] kj) (ax (aB [CZ E7,cD,eu 1 L1,eZ,eV,nk,I4,so,dA 276 [L0,L7],ta 0 L8,ta 1 L8] [(8,L9),(9,o7)]) (aB [mG 1 [E8],oI 1 E6 L0,g E5 true (.mov E9),WL,gI E5 L3 Vf] [(6,L1),(5,L4)])))) rc))
def Qt:az:=ax tf (ax (aB [Ar,bN,iw,PI L2 V1,g L3 true (.fld 9 E2),tq,Dv,g L3 true (.bin .leq L6 tF),Ir] [(5,L8)]) (ax (aB vK lX) (ax (ax (aB Ig [(10,L1),(11,L2),(12,V0)]) (dF 0 (.loop [7,8,9,13] Dn))) (ax (aB [] [(3,E6),(4,E5)]) .ret))))
def aoZ:aS:=⟨14,2,.pure,[.env 3,.env 4],Qt⟩
def aaG:az:=ax tf (ax (aB RB [(3,L6),(4,Vt)]) .ret)
def arK:aS:=⟨5,2,.keep,[.env 3,.env 4],aaG⟩
def up:az:=ax FY (ax Jh (ax (dF 1 (ax (aB [f8 1 sO va,bN] [(9,va),(10,L1)]) (ax (ax (aB [I6,bN,ua] [(16,L2)]) (cY Ek (aB [I6,eT 1 L0 lJ] []) .skip)) (aB [g E8 true (.mov E7),g E8 true (.mov E9),g E8 true (.idxs 1 L0 L1),g E8 true (ld L2),g E8 true (.mov lJ),g E8 true (.bin .eql L3 L4),g E8 true (.mov L5),g L6 false (.mov lJ),g L6 false (.bin .eql L7 V0),g E8 true (.pick L6 Vt L8),gI E8 L9 Vf] [(8,o7)])))) F7))
def UA:az:=ax tf (ax (aB [cD,lh,dw,eV,fC,kw,gr,cD,Ev,vB,lB,tL,Au,qI] [(5,L6),(6,mY)]) (ax (ax (aB [sk,sG E6,pN L0 L1] DI) (cY rq Nw .skip)) (ax (aB [i (.call 95 [E5] true)] jx) (ax (aB [] [(8,Vt)]) (ax (ax (aB [sG E6] [(12,E6),(13,L0),(14,V0)]) (dF 0 (.loop [9,10,15,16] up))) (ax (aB [] [(3,E7),(4,E8)]) .ret))))))
def apx:aS:=⟨17,2,.pure,[.env 3,.env 4],UA⟩
def G5:az:=ax tf (ax (Kr [cD,lh,dw,eV,fC,kw,gr,ut,Pk] [(5,L7)] [(0,8),(1,8),(2,8),(3,8),(4,8),(5,8),(6,8)]) (ax (aB [i (.mkfn 337 [] [E5])] lX) (ax (aB [EV,bN,iw,IR,g L3 true (.fld 10 E2),tq,g L3 true (.mov E6),g L3 true (.call 110 [L5,L6] false),g L3 true (.una .not L7),gI L3 L8 Vf,g L9 true (.fld 11 E2),g L9 true (ld o7),g L9 true (.bin .geq mR lR),gI L9 xh Vf,g mY true (.fld 11 E2),g mY true (ld yy),g mY true (.bin .leq uU QP),gI mY ws Vf] [(7,wY)]) (ax (aB [qW,g E7 true (.mov E0),g E7 true (.nilck L1),g E7 true (.fld 1 L2),g E7 true (ld L3),g E7 true (.len L4),g E7 true (.mov E0),g E7 true (.nilck L6),g E7 true (.fld 0 L7),g E7 true (.fld 0 L8),g E7 true (ld L9),g E7 true (.len o7),g E7 true (.bin .sub mR V1),g E7 true (.bin .eql L5 xh),gI E7 mY Vf] [(3,L0),(4,yy)]) .ret))))
def aot:aS:=⟨8,2,.keep,[.env 3,.env 4],G5⟩
def xm:az:=ax (aB [pj 12 E0] F5) (ax (aB [CJ,bN,ua,g L2 true (.fld 4 E1),rh,g L2 true (.len L4),g L2 true (.bin .eql L5 V0),gI L2 L6 Vf,g L7 true (.fld 5 E1),g L7 true (ld L8),g L7 true (.una .not L9),gI L7 o7 Vf,g mR true (.fld 6 E1),g mR true (.fld 0 xh),g mR true (ld mY),g mR true (.len yy),g mR true (.bin .eql uU V0),gI mR ws Vf,g wY true (.fld 7 E1),g wY true (ld Nt),g wY true (.len Kv),g wY true (.bin .eql Rq V0),gI wY AZ Vf,g QV true (.fld 8 E1),g QV true (ld ZO),g QV true (.len L24),g QV true (.bin .eql L25 V0),gI QV L26 Vf,g ZS true (.fld 9 E1),g ZS true (ld L28),g ZS true (.len L29),g ZS true (.bin .eql L30 V0),gI ZS L31 Vf,g L32 true (.fld 10 E1),g L32 true (ld L33),g L32 true (.len L34),g L32 true (.bin .eql L35 V0),gI L32 L36 Vf,g L37 true (.fld 11 E1),g L37 true (ld L38),g L37 true (.bin .eql L39 V0),gI L37 L40 Vf] [(2,L41)]) .ret)
def aoj:aS:=⟨3,1,.pure,[.env 2],xm⟩
def BM:az:=ax (aB [pj 12 E0,uG] Eg) (ax (ax Jv (dF 0 (ax J4 (cY E4 (aB [CJ,A4,Du,eT 1 L2 Vn] []) (ax HW (cY E5 (aB [IC,eu 5 E1,eT 1 L1 Vf,eu 6 E1,eT 1 L3 L0] []) (ax (aB [jG E3 kE] lX) (cY E6 (aB [IC,eu 6 E1,eT 1 L1 L0] []) (ax (aB [jG E3 im] jx) (cY E7 (aB [eu 7 E1,Jq,eu 8 E1,eT 1 L2 Vn] []) (ax (aB [jG E3 pb] r8) (cY E8 (aB [eu 9 E1,Jq] []) (ax (aB [jG E3 r9] lZ) (cY E9 (aB [eu 10 E1,Jq,eu 11 E1,eT 1 L2 V0] []) .skip)))))))))))))) (ax (aB [nM 12 E1,eT 12 E2 L0] []) .ret))
def aol:aS:=⟨10,1,.keep,[.cell true 12 2],BM⟩
def uN:az:=ax tB (ax (aB [cD,vc,Jr,eZ,f8 12 L3 E1,nM 12 L4,uG,eT 12 L6 L5] [(4,L6)]) (ax (ax (aB [mO,bN,dA 338 [L1]] si) (dF 0 (ax (aB [jG E5 V0] lX) (cY E6 (ax (aB [xL,bN,jG L1 lR,g L2 true (.fld 2 E4),rh,g L2 true (.bin .eql L4 lR),vi] [(2,E1),(3,L6)]) .ret) (ax (aB [jG E5 V1] jx) (cY E7 (ax (ax (aB [xL,bN,CM E1 V1,pN L1 L2,g L3 false (.fld 2 E4),Jp,g L3 false (.bin .neq L5 lR),gI L3 Vt L6,g L7 false (.mov E1),g L7 false (.bin .eql L8 V0),gI L7 Vt L9] [(8,o7)]) (cY E8 Kk .skip)) (ax (aB [cD,eu 2 L0,dw,xL,fC,kw,gr] [(2,L6),(3,Vt)]) .ret)) .skip)))))) (ax (ax (aB [eu 2 E4,bN,CM E1 V1,pN L1 L2,g L3 false (.mov E1),IW,gI L3 Vt L5,g L6 false (.fld 1 E4),Ke,g L6 false (.mov E0),g L6 false (.nilck L9),g L6 false (.fld 2 o7),g L6 false (ld mR),g L6 false (.fld 2 E4),g L6 false (ld mY),g L6 false (.idxs 1 xh yy),g L6 false (ld uU),g L6 false (.bin .sub ws V1),g L6 false (.bin .neq L8 wY),gI L6 Vt Nt,g Kv false (.fld 1 E4),g Kv false (ld Rq),g Kv false (.bin .lss AZ V0),gI Kv Vt QV] [(9,ZO)]) (cY E9 Kk .skip)) (ax (aB [cD,eu 2 L0,dw,xL,fC,kw,gr] [(2,L6),(3,Vt)]) .ret))))
def aof:aS:=⟨10,2,.pure,[.env 2,.env 3],uN⟩
def rz:az:=ax FB (ax Bx (ax (dF 1 (ax (aB [] [(3,E6)]) (ax (aB [IA,kl,f8 4 E1 E3,nM 4 L2,i (.eqa true [0,0,0,2] L1 L3)] [(8,L4)]) (cY E8 Ll .skip)))) Fc))
def LG:az:=ax tT (ax (ax (aB JP rX) (cY E4 Ll .skip)) (ax (ax (aB uu [(5,L0),(6,V0)]) (dF 0 (.loop [2,3,7,8] rz))) Rg))
def aoL:aS:=⟨9,2,.pure,[.env 2],LG⟩
def aay:az:=ax (aB [sc,vz,pj 1 E2] [(3,L0),(4,L1),(5,L2),(6,v .nilf)]) (ax (aB [i (.mkfn 280 [] [E3,E4,E5])] lX) .ret)
def arF:aS:=⟨7,3,.keep,[.env 6],aay⟩
def aau:az:=ax fB (ax (aB [iMv (v (.fn 111 [] []))] iY) (ax (aB [fd,iLq L0 Ax,g L1 true (.mov E0),g L1 true (.mov E2),g L1 true (.call 42 [L2,L3] false),Kf,Jd] [(1,L6)]) .ret))
def arj:aS:=⟨3,1,.pure,[.env 1],aau⟩
def D4:az:=ax DY (ax En (ax (dF 1 (ax (aB [f8 4 E5 E7,kl,fk,xD] rX) (ax (ax (aB [uz,BB,yd] r7) (cY E9 (ax (aB [] [(2,ES)]) .ret) .skip)) (ax (aB [mO,bN,yd,g L2 true (.fld 0 E4),rh,g L2 true (.mov E0),g L2 true (.bin .neq L4 L5),gI L2 L6 Vf] [(10,L7)]) (cY lJ (aB [] [(3,eh)]) .skip))))) D2))
def aee:az:=ax iT (ax yc (ax (ax (aB AX [(5,E1),(6,L0),(7,V0)]) (dF 0 (.loop [2,4,8,9,10] D4))) uq))
def apH:aS:=⟨11,2,.pure,[.env 2],aee⟩
def ahh:az:=ax (aB [sr,fk] Eg) (ax (aB [wo,bN,i (.bin .shr L1 (v (.int .u64 63))),wo,fC,i (.conv .u64 L4),Cw [n0,n0,.int .u64 0,.str []] [(0,1,im),(1,1,L2),(2,1,L5)],eT 4 E2 L6] []) .ret)
def aqI:aS:=⟨3,1,.pure,[.cell true 4 2],ahh⟩
def aiA:az:=ax sA (ax (aB [lB,bN,Ef,eZ,dA 298 [L1,L3,wA],BF,By] [(6,L5),(7,L6)]) (ax (aB [eV,bN,i (.conv .u64 L1),uA,fC,i (.conv .u64 L4),dA 298 [L2,L5,E7],ta 0 L6,ta 1 L6] [(8,L7)]) (ax (aB [i (.conv .i64 E8)] lZ) (ax (ax (aB [eV,bN,i (.bin .xor L1 E9),uA,fC,i (.bin .xor L4 E9),i (.bin .and L2 L5),ov L6 V0] [(10,L7)]) (cY lJ (ax (aB F9 [(5,vC)]) .ret) .skip)) (ax (aB [Cw [n0,n0,.int .u64 0,.str []] [(0,1,im),(1,1,E9),(2,1,E6)],DH] [(5,V0)]) .ret)))))
def arz:aS:=⟨11,2,.pure,[.cell true 4 4,.env 5],aiA⟩
def xn:az:=ax (aB [sr,fk] Eg) (ax (ax Jv (dF 0 (ax (dF 5 (ax (dF 4 (ax (dF 3 (ax (dF 2 (ax (dF 1 (ax (ax (ax J4 (cY E4 (.exit 1) .skip)) (ax (ax HW (cY E5 ml .skip)) (ax (ax (aB [jG E3 V0] lX) (cY E6 (.exit 3) .skip)) (ax (ax (aB [jG E3 kE] jx) (cY E7 (.exit 4) .skip)) (ax (aB [jG E3 im] r8) (cY E8 (.exit 5) .skip)))))) g7)) (ax (aB [wo,bN,yd,g L2 true (.fld 1 E1),rh,g L2 true (.bin .neq L4 V1),vi] [(9,L6)]) (cY E9 g7 .skip)))) (aB [wo,A4] []))) (ax (aB [su,A4] []) g7))) (ax (ax (aB [CJ,bN,iLt L1,iLq L2 (v (.int .i64 40))] [(10,L3)]) (cY lJ (aB [su,A4,CJ,eT 1 L2 (v (.str []))] []) .skip)) g7))) (ax (aB [su,A4,wo,eT 1 L2 V0,eu 2 E1,eT 1 L4 wA] []) g7)))) (ax (aB [r6,wm] []) .ret))
def aoi:aS:=⟨11,1,.pure,[.cell true 4 2],xn⟩
def abw:az:=ax PN (ax (aB [Cw [n0,n0,.int .u64 0,.str []] [(0,1,V1)],fk,eT 4 L1 L0] sE) (ax (ax (aB [] [(3,E0)]) (cY E3 (aB [eV,eT 1 L0 V1] []) .skip)) (ax (aB [me,DN] []) .ret)))
def aqt:aS:=⟨4,1,.pure,[.cell true 4 1],abw⟩
def aaP:az:=ax fB (ax (aB [rQ] ur) .ret)
def aqM:aS:=⟨2,1,.pure,[.env 1],aaP⟩
def aci:az:=ax tT (ax (aB [dA 160 [E0,E1],wE] sE) .ret)
def aqd:aS:=⟨3,2,.pure,[.env 2],aci⟩
def Ve:az:=ax Dd (ax (aB [i (.mkfn 230 [] [E2])] ff) (ax (aB [q9,iLq L0 tF,g L1 true (.mov E1),g L1 true (.mov E4),g L1 true (.call 77 [L2,L3] false),Kf,Jd] [(3,L6)]) .ret))
def apl:aS:=⟨5,2,.pure,[.env 3],Ve⟩
def nD:az:=ax xA (ax xT (ax (dF 1 (ax (aB CC [(5,L2),(4,lJ)]) (ax (ax (aB [q9,PI E4 L0] [(12,L1)]) (cY sO (ax IB .ret) .skip)) (ax (aB [f8 4 E1 E4,kl,fk,xD] yq) (ax (aB [w9,A6,i (.callv E2 [L0,L1])] kj) (ax (aB Jz vh) (cY A3 (ax (aB [] [(3,E7)]) .ret) .skip))))))) yh))
def P4:az:=ax yc (ax (ax DQ (dF 0 (.loop [3,4,5,6,7,11,12,13] nD))) (ax (ax (aB [fd,q9,ov L0 L1] [(14,L2)]) (cY va (ax (aB [] [(3,lR)]) .ret) .skip)) (ax yc .ret)))
def aoR:aS:=⟨15,3,.pure,[.env 3],P4⟩
def adD:az:=ax HN (ax (aB [kS,bN,nQ,eZ,dA 242 [L1,L3],eV,gr,uA,vS,dA 243 [L6,L8],lB,tL,Ef,qI,dA 244 [mR,mY],vj,wj uU,DD,wj wY,dA 245 [ws,Nt],mG 1 [L4,L9,yy,Kv],dA 141 [Rq]] [(4,AZ)]) .ret)
def aq6:aS:=⟨5,2,.pure,[.env 4],adD⟩
def wG:az:=ax (ax (aB [fb,qZ,ov E3 L1,g L2 true (ld E2),OR,g L2 true (.idxs 1 L4 V0),g L2 true (ld L5),OR,g L2 true (.mov E3),g L2 true (.idxs 1 L7 L8),g L2 true (ld L9),g L2 true (.callv L3 [L6,o7]),gI L2 mR Vf] [(5,xh)]) (cY E5 .skip ml)) (dF 3 DK)
def yX:az:=ax (ax (aB [fb,qZ,QG L1 V0] rX) (cY E4 .skip g7)) (dF 1 (ax IB (ax (dF 2 (.loop [5] wG)) (ax (ax (aB [fb,i (.slice 1 L0 none (some E3)),i (.callv E0 [L1]),FA] [(6,L3)]) (cY E6 .ret .skip)) (aB [fb,i (.slice 1 L0 (some E3) none),eT 1 E1 L1] [])))))
def acE:az:=dF 0 (.loop [3,4,5,6] yX)
def arb:aS:=⟨7,3,.keep,[],acE⟩
def pl:az:=ax Av (ax tY (ax (dF 1 (ax yv (ax (aB [IA,kl,DW] kj) Ay))) xP))
def T4:az:=ax iT (ax (ax Bv (dF 0 (.loop [2,3,6,7] pl))) vJ)
def apC:aS:=⟨8,2,.pure,[.env 2],T4⟩
def WW:az:=ax Io (ax (ax (aB [r6,sD,dA 210 [im,L1]] rX) (dF 0 (ax No (cY E6 (ax (aB Dl [(3,E4)]) .ret) (ax (aB Qc kj) (cY E7 (ax (aB [r6,wm] [(3,V0)]) .ret) .skip)))))) (ax (ax (aB [eu 2 E1,bN,i (.conv .i64 L1),dA 149 [L2],fk,eT 4 L4 L3] rH) (ax (aB [w9,dA 208 [L0],r6,JV] [(8,L3)]) (cY E8 (ax (aB [w9,wm] [(3,V0)]) .ret) .skip))) (ax (aB Dl [(3,vC)]) .ret)))
def an5:aS:=⟨9,1,.pure,[.cell true 4 2,.env 3],WW⟩
def adR:az:=ax iT (ax (ax (aB [dA 163 [E0],J0,QK,g L1 false (.call 163 [L2] false),g L1 false (.una .not L3),HZ] [(3,L5)]) (cY E3 ye .skip)) (ax (aB [dA 140 [E0,E1]] iY) .ret))
def ap2:aS:=⟨4,2,.pure,[.env 2],adR⟩
def tz:az:=ax Pz (ax Nj (ax (dF 3 (ax (aB [f8 1 BP OG,bN] [(12,OG),(13,L1)]) (Kr [f8 1 E4 A3,bN,i (.mins rq [L1]),iIa 2 1 lJ sO,eT 1 L3 A3] DI [(0,5),(1,5)]))) PU))
def iu:az:=ax US (ax (cY Gi .skip g7) (ax (dF 1 (ax (aB [f8 8 va Ek,EZ,Fw,FI] [(7,L2),(6,Ek)]) (ax (aB [eu 0 E7,bN,dA 247 [L1]] vI) (ax (ax (aB [ov E8 V0,adq,X4,HK,g L0 false (.bin .gtr L1 L3),gI L0 Vt L4,g L5 false (.load true 8 E7),g L5 false (.call 246 [L6] false),g L5 false (.una .not L7),gI L5 Vt L8] [(18,L9)]) (cY TW (ax (aB fR yj) .ret) .skip)) (ax (aB [sk,CM L0 E8,i (.slice 1 E5 (some L1) none)] r7) (ax (aB Xb S8) (ax (aB [] [(11,E6)]) (ax (ax (aB [sG E9] [(19,E9),(20,L0),(21,V0)]) (dF 2 (.loop [12,13,22] tz))) (ax (ax (aB [nM 2 lJ,eu 1 E7,dw,eu 2 E7,fC,XY,Wy] [(23,L6)]) (cY T1 (ax (aB fR yj) .ret) .skip)) (ax (aB [mG 1 [rq],oI 1 E4 L0] vU) (aB [sk,CM L0 E8,i (.slice 1 E5 none (some L1)),mG 1 [E6],AD] rH))))))))))) U8))
def R4:az:=ax (aB Pu [(1,L0),(2,L1),(3,Vf)]) (ax (aB [Ye 1,Ye 1] [(4,L0),(5,L1)]) (ax (ax (aB OT Px) (dF 0 (.loop [2,3,6,7,8,9,10,11,12,13,17,18,19,20,21,22,23] iu))) (ax (aB [sk,jG L0 V1,g L1 true (.mov E4),g L1 true (.len L2),g L1 true (.bin .leq L3 (v (.int .i64 1000))),gI L1 L4 Vf] [(2,E4),(3,L5)]) .ret)))
def aoX:aS:=⟨24,1,.pure,[.env 2,.env 3],R4⟩
def yA:az:=ax (ax (aB [sG E3,ov E4 L0] [(8,L1)]) (cY E8 .skip ml)) (ax (dF 3 (ax (aB [f8 1 E3 E4,bN,CM E4 V1,f8 1 E3 L2,fC,pN L1 L4] [(9,L5)]) (cY E9 (ax (aB [f8 1 E3 E4,bN,f8 1 E0 E2,Cp] []) (aB [u9 E2 V1] iY)) .skip))) J2)
def pi:az:=ax (ax (aB [fd,ov E2 L0] md) tY) (ax (dF 1 (ax (aB [f8 1 E0 E2,bN,CM E2 V1,f8 1 E0 L2,fC,jG L1 L4] [(7,L5)]) (cY E7 (ax (aB [Qh] lV) (ax (ax IQ (dF 2 (.loop [8,9] yA))) (ax (aB [Qh,i (.clr (.int .i64 0) L0)] []) (ax (aB [i (.slice 1 E0 none (some E2))] ur) .ret)))) .skip))) (aB [u9 E2 V1] iY))
def QH:az:=ax lW (ax (ax (aB [fd,ov L0 eh] kV) (cY E5 (ax (aB [] [(1,E0)]) .ret) .skip)) (ax (ax (aB [] [(2,V1)]) (dF 0 (.loop [1,3,4,6,7,8,9] pi))) (ax (aB [] [(1,E0)]) .ret)))
def aoU:aS:=⟨10,1,.keep,[.env 1],QH⟩
def aha:az:=ax Bm (ax (aB [i (.mkfn 342 [] [E1])] iY) .ret)
def ar4:aS:=⟨3,1,.pure,[.env 2],aha⟩
def adQ:az:=ax sA (ax (aB [me,g8,dA 343 [L0,L1,v (.fn 344 [] [])],kN,kL,vX] rH) .ret)
def arS:aS:=⟨6,2,.pure,[.cell true 4 4,.env 5],adQ⟩
def ag2:az:=ax Bm (ax (aB [i (.mkfn 345 [] [E1])] iY) .ret)
def asb:aS:=⟨3,1,.pure,[.env 2],ag2⟩
def akT:az:=ax Io (ax (aB [dA 149 [V0],r6,dA 288 [L0,L1],kN,kL,eT 4 E2 L3] [(3,L4)]) .ret)
def aoc:aS:=⟨4,1,.pure,[.cell true 4 2,.env 3],akT⟩
def abD:az:=ax Io (ax (aB [r6,sD,dA 346 [v (.fn 347 [] []),L1],kN,kL,eT 4 E2 L3] [(3,L4)]) .ret)
def are:aS:=⟨4,1,.pure,[.cell true 4 2,.env 3],abD⟩
def agk:az:=ax Bm (ax (aB [i (.mkfn 348 [] [E1])] iY) .ret)
def ar0:aS:=⟨3,1,.pure,[.env 2],agk⟩
def ahE:az:=ax sA (ax (aB [me,g8,dA 349 [L0,L1,v (.fn 350 [] [])],kN,kL,vX] rH) .ret)
def an8:aS:=⟨6,2,.pure,[.cell true 4 4,.env 5],ahE⟩
def aiy:az:=ax sA (ax (aB [me,g8,dA 349 [L0,L1,v (.fn 351 [] [])],kN,kL,vX] rH) .ret)
def aqO:aS:=⟨6,2,.pure,[.cell true 4 4,.env 5],aiy⟩
def ai3:az:=ax sA (ax (aB [me,g8,dA 349 [L0,L1,v (.fn 352 [] [])],kN,kL,vX] rH) .ret)
def aoa:aS:=⟨6,2,.pure,[.cell true 4 4,.env 5],ai3⟩
def akO:az:=ax sA (ax (aB [me,g8,dA 349 [L0,L1,v (.fn 353 [] [])],kN,kL,vX] rH) .ret)
def an9:aS:=⟨6,2,.pure,[.cell true 4 4,.env 5],akO⟩
def aaq:az:=ax sA (ax (aB [me,g8,dA 343 [L0,L1,v (.fn 354 [] [])],kN,kL,vX] rH) .ret)
def arA:aS:=⟨6,2,.pure,[.cell true 4 4,.env 5],aaq⟩
def ag3:az:=ax Bm (ax (aB [i (.mkfn 355 [] [E1])] iY) .ret)
def ar5:aS:=⟨3,1,.pure,[.env 2],ag3⟩
def acQ:az:=ax sA (ax (aB [me,g8,C4,dA 346 [v (.fn 356 [] []),L2],vt,vQ,PT] [(5,L5)]) .ret)
def arU:aS:=⟨6,2,.pure,[.cell true 4 4,.env 5],acQ⟩
def aa8:az:=ax sA (ax (aB [me,g8,C4,dA 346 [v (.fn 357 [] []),L2],vt,vQ,PT] [(5,L5)]) .ret)
def aqa:aS:=⟨6,2,.pure,[.cell true 4 4,.env 5],aa8⟩
def adO:az:=ax kv (ax (aB [fb,fb,iw,C2,i (.slice 4 L0 (some L3) none),i (.call 358 [L4] true)] [(3,L5)]) (ax (aB [fb,fb,iw,C2,i (.slice 4 L0 none (some L3)),eT 1 E1 L4] []) uq))
def aqV:aS:=⟨4,2,.keep,[.env 2],adO⟩
def abs:az:=ax lW (ax AE (ax (aB [Be,oI 4 L0 E0] tS) .ret))
def arH:aS:=⟨3,1,.fresh 4,[.env 1],abs⟩
def Cf:az:=ax pW (ax (dF 0 (ax (aB [jG E0 V1,tE,Qa,vv] [(2,L3)]) (cY E2 A7 (ax (aB [PI E0 im,g L0 true (.mov E0),g L0 true (.bin .leq L1 zB),LQ] [(3,L3)]) (cY E3 Jg (ax (aB [PI E0 D7,g L0 true (.mov E0),g L0 true (.bin .leq L1 J9),LQ] [(4,L3)]) Sf)))))) (ax (aB [] [(1,lR)]) .ret))
def aon:aS:=⟨5,1,.pure,[.env 1],Cf⟩
def nA:az:=ax qS (ax tI (ax (dF 1 (ax (aB [f8 2 E6 E8,zk,pj 2 (v (.agg [n0,nf])),BO] rX) (ax (aB [mO,bN,f8 4 E0 L1,nM 4 L2,mO,nk,f8 4 E1 L5,nM 4 L6,dA 148 [L3,L7]] [(5,L8)]) (ax (ax (aB [xL,bN] S8) (cY lJ (aB [i (.una .neg E5)] kg) .skip)) (ax (aB [pN E5 V0] pZ) (cY rq (ax yv .ret) .skip)))))) sy))
def RQ:az:=ax yc (ax (ax (aB [lT,qZ] [(6,L0),(7,L1),(8,V0)]) (dF 0 (.loop [3,4,5,9,10,11] nA))) (ax (aB [dA 214 [E0,E1]] lV) .ret))
def aoT:aS:=⟨12,3,.pure,[.env 3],RQ⟩
def acu:az:=ax JQ (ax (aB [r6,BB,yd] sF) .ret)
def aqx:aS:=⟨3,1,.pure,[.env 2],acu⟩
def adV:az:=ax tT (ax (aB [dA 320 [E0,E1],wE] sE) .ret)
def aqy:aS:=⟨3,2,.pure,[.env 2],adV⟩
def aaw:az:=ax fB (ax (aB [ov E0 V1,tE,QY,vv] [(1,L3)]) .ret)
def ap1:aS:=⟨2,1,.pure,[.env 1],aaw⟩
def acN:az:=ax fB (ax (aB [rQ,tE,g L0 false (.bin .gtr L1 im),vv] [(1,L3)]) .ret)
def aqb:aS:=⟨2,1,.pure,[.env 1],acN⟩
def rN:az:=ax yk (ax (cY va .skip ml) (ax (dF 3 (ax (aB xC kV) (aB [oI 1 E4 E5] ff))) xU))
def CG:az:=ax qS Oo
def VE:az:=ax lW (ax iT (ax (ax DU (dF 0 (.loop [3,9,10] CG))) (ax (aB [dA 339 [Vn,E2]] ff) (ax (ax Po (dF 2 (.loop [5,14] rN))) Ik))))
def apJ:aS:=⟨15,1,.pure,[.env 1],VE⟩
def acH:az:=ax Dd (ax (aB [nL,dA 276 [L0,E1],jF,jH] [(4,L2),(5,L3)]) (ax (aB [jG E5 V0,Fy,abm,Js,Rh,g L3 false (.bin .eql L4 V1),IL,JH] [(3,L7)]) .ret))
def art:aS:=⟨6,2,.pure,[.env 3],acH⟩
def zg:az:=ax EW (ax Kd (ax (dF 3 (ax (aB [f8 1 CE Gi,bN] [(8,L1)]) (ax (aB [wj E3,qZ,PI E8 L1] [(19,L2)]) (cY BP (ax (aB [] [(4,V0),(5,eh)]) .ret) .skip)))) Ei))
def Hs:az:=ax qK (ax xx (ax (dF 1 (ax Kp (ax (aB [ov E7 V0,Iz,QY,vv] [(14,L3)]) (cY va (ax (aB [] [(4,V0),(5,eh)]) .ret) .skip)))) rc))
def Ln:az:=ax (aB NR [(2,L0),(3,L1),(4,V0),(5,V0)]) (ax (ax (aB [nL,dA 71 [L0]] md) (ax (aB Bz lZ) (cY E9 (ax (aB [] [(4,V0),(5,E6)]) .ret) .skip))) (ax (ax (aB [wj E3,qZ] [(10,L0),(11,L1),(12,V0)]) (dF 0 (.loop [4,5,7,13,14] Hs))) (ax (ax (aB W0 I0) (dF 2 (.loop [4,5,8,18,19] zg))) (ax (aB [nL,i (.mkfn 340 [] [E3]),dA 341 [L0,L1],kN,kL] [(4,L3),(5,L4)]) .ret))))
def aoE:aS:=⟨20,2,.pure,[.env 4,.env 5],Ln⟩
def XJ:az:=ax tT (ax (aB [dA 196 [E0,E1],wE] sE) .ret)
def apm:aS:=⟨3,2,.pure,[.env 2],XJ⟩
def abg:az:=ax IT (ax (aB [kS,bN,ov L1 V0,Il,tV,g L2 false (ld E1),g L2 false (.nilck L5),g L2 false (.fld 15 L6),g L2 false (ld L7),g L2 false (.len L8),g L2 false (.bin .geq L4 L9),gI L2 Vt o7] [(3,mR)]) .ret)
def aqk:aS:=⟨4,2,.pure,[.env 3],abg⟩
def pu:az:=ax Av (ax tY (ax (dF 1 (ax yv (ax (aB [Bb,bN,jG E1 L1] kj) Ay))) xP))
def X3:az:=ax iT (ax (ax Bv (dF 0 (.loop [2,3,6,7] pu))) vJ)
def apM:aS:=⟨8,2,.pure,[.env 2],X3⟩
def tK:az:=ax qK (ax Ja (ax (dF 3 (ax (aB [f8 1 lJ sO,bN] kV) (ax (aB [mG 1 [E4,E5],dA 168 [L0],i (.callv E0 [E3,L1]),FA] [(14,L3)]) (cY va .ret .skip)))) rc))
def zC:az:=ax qS (ax tI (ax (dF 1 (ax (aB Bq [(3,E8),(4,L1)]) (ax (aB [lT,qZ] [(10,L0),(11,L1),(12,V0)]) (dF 2 (.loop [5,13,14] tK))))) sy))
def WF:az:=ax (aB [fb,qZ] [(6,L0),(7,L1),(8,V0)]) (dF 0 (.loop [3,4,5,9,10,11,12,13,14] zC))
def apK:aS:=⟨15,3,.keep,[],WF⟩
def adm:az:=ax tT (ax (aB [fb,dA 108 [E0,L0],tR] sF) .ret)
def aqj:aS:=⟨3,2,.pure,[.env 2],adm⟩
def abB:az:=ax Dd (ax (aB [i (.mkfn 109 [] [E2]),dA 110 [E1,L0],tR] zQ) .ret)
def arV:aS:=⟨4,2,.pure,[.env 3],abB⟩
def acx:az:=ax fB (ax (aB [dA 372 [E0],J0] tS) .ret)
def aqw:aS:=⟨2,1,.pure,[.env 1],acx⟩
def aaM:az:=ax fB (ax (aB [jG E0 V1,tE,Qa,vv,g L3 false (.mov E0),g L3 false (.bin .eql L4 kE),gI L3 Vt L5] [(1,L6)]) .ret)
def arx:aS:=⟨2,1,.pure,[.env 1],aaM⟩
def aaN:az:=ax Dd (ax (aB [nL,dA 276 [L0,E1],jF,jH] [(4,L2),(5,L3)]) (ax (aB [jG E5 V0,Fy,g L0 true (.bin .eql L1 V1),Js,Rh,IW,IL,JH] [(3,L7)]) .ret))
def apV:aS:=⟨6,2,.pure,[.env 3],aaN⟩
def acI:az:=ax (aB [vz] yj) (ax (aB [i (.mkfn 373 [] [E2]),dA 77 [E0,L0],tR] zQ) .ret)
def aqr:aS:=⟨4,2,.pure,[.env 3],acI⟩
def Hj:az:=ax (aB [pj 2 E0] [(2,L0),(3,V0),(4,Vf)]) (ax (ax (aB Pb kj) (cY E7 (ax (aB [eV,vc,dw,sG L2,jG L3 V0] [(3,eh),(4,L4)]) .ret) .skip)) (ax (aB [eV,pa,dA 276 [L1,E1],kN,kL] [(5,L3),(6,L4)]) (ax (ax (aB [kS,bN] [(8,L1)]) (dF 0 (ax (aB [jG E8 eh] lZ) (cY E9 (ax (aB [jG E6 V0] [(3,eh),(4,L0)]) .ret) (ax (aB [jG E8 kE] qY) (cY lJ (ax (aB [jG E6 V0,g L0 true (.mov E5),g L0 true (.bin .eql L1 eh),Js,Uy,IW,IL,JH] [(3,eh),(4,L7)]) .ret) (ax (ax (aB [jG E8 im] pZ) (cY rq .skip (aB [jG E8 pb] pZ))) (cY rq (ax (aB [jG E6 V0] [(3,E5),(4,L0)]) .ret) .skip)))))))) (ax (aB [] [(3,V0),(4,Vf)]) .ret))))
def aoy:aS:=⟨12,2,.pure,[.env 3,.env 4],Hj⟩
def adI:az:=ax IT (ax (aB [kS,bN,ov L1 V0,Il,tV,g L2 false (ld E1),g L2 false (.len L5),g L2 false (.bin .geq L4 L6),gI L2 Vt L7] [(3,L8)]) .ret)
def aqN:aS:=⟨4,2,.pure,[.env 3],adI⟩
def abj:az:=ax pW (ax (ax Ih (dF 0 (ax (aB [jG E2 V1] lV) (cY E3 A7 (ax (ax (aB [jG E2 eh] ff) (cY E4 .skip (aB [jG E2 zB] ff))) Sf))))) Jg)
def aqF:aS:=⟨5,1,.pure,[.env 1],abj⟩
def nK:az:=ax Ia (ax Ju (ax (dF 1 (ax (aB [f8 2 E7 E9,zk,NI,BO] si) (ax (aB [nM 2 E5,i (.callv E0 [L0]),tR] DI) (cY rq .ret .skip)))) JO))
def Ez:az:=ax (aB [fb,lT,dA 20 [L0,L1],kN,kL] [(4,L3)]) (ax (ax (aB [sG E4,jG L0 V0,g L1 true (ld E2),g L1 true (.len L2),g L1 true (.bin .eql L3 V0),gI L1 L4 Vf,g L5 true (ld E3),gI L5 L6 Vf] [(6,L7)]) (cY E6 (aB [Cw [.aj,.aj] [],mG 2 [L0]] vU) .skip)) (ax (aB [sG E4] [(7,E4),(8,L0),(9,V0)]) (dF 0 (.loop [5,10,11] nK))))
def aoo:aS:=⟨12,4,.keep,[],Ez⟩
def aa3:az:=ax fB (ax (aB [dA 197 [E0],pN L0 V0] tS) .ret)
def aq9:aS:=⟨2,1,.pure,[.env 1],aa3⟩
def abN:az:=ax pW (ax (ax (aB [dA 163 [E0],J0] sE) (cY E2 (ax (aB [] [(1,v (.int .i64 150))]) .ret) .skip)) A7)
def aqc:aS:=⟨3,1,.pure,[.env 1],abN⟩
def pz:az:=ax Av (ax tY (ax (dF 1 (ax yv (ax (aB [Bb,bN,DW] kj) Ay))) xP))
def Wn:az:=ax iT (ax (ax Bv (dF 0 (.loop [2,3,6,7] pz))) vJ)
def aps:aS:=⟨8,2,.pure,[.env 2],Wn⟩
def Rw:az:=ax tT (ax (aB [rQ,tE,g L0 false (ld E1),HK,g L0 false (.bin .geq L1 L3),gI L0 Vt L4] [(2,L5)]) .ret)
def ao6:aS:=⟨3,2,.pure,[.env 2],Rw⟩
def QI:az:=ax iT (ax (aB [dA 316 [E0]] lV) (ax (aB [dA 316 [E1]] ff) CN))
def aoP:aS:=⟨10,2,.pure,[.env 2],QI⟩
def R0:az:=ax iT (ax (aB [dA 317 [E0]] lV) (ax (aB [dA 317 [E1]] ff) CN))
def ao5:aS:=⟨10,2,.pure,[.env 2],R0⟩
def Rt:az:=ax iT (ax (aB [dA 318 [E0]] lV) (ax (aB [dA 318 [E1]] ff) CN))
def ao7:aS:=⟨10,2,.pure,[.env 2],Rt⟩
def Qq:az:=ax iT (ax (aB [dA 319 [E0]] lV) (ax (aB [dA 319 [E1]] ff) CN))
def aoO:aS:=⟨10,2,.pure,[.env 2],Qq⟩
def RC:az:=ax (aB [pj 8 E0] F5) (ax (ax Jv (dF 0 (ax J4 (cY E4 (ax (aB [Du,kl,dA 206 [L1],g L2 true (.fld 3 E1),rh,Qm,vi] [(2,L6)]) .ret) (ax HW (cY E5 (ax (aB [Du,kl,tj,JV,R1,tq,g L3 true (.bin .geq L5 V0),Sc,g L7 true (.fld 3 E1),g L7 true (ld L8),g L7 true (.bin .lss L9 tF),gI L7 o7 Vf] [(2,mR)]) .ret) .skip)))))) (ax (aB [Du,kl,tj,JV,R1,tq,V8,Sc] [(2,L7)]) .ret))
def apf:aS:=⟨6,1,.pure,[.env 2],RC⟩
def aax:az:=ax Dk (ax (aB [lT,uz,g8,Ra,vt,vQ,IS] [(6,L5)]) .ret)
def aqo:aS:=⟨7,3,.pure,[.cell true 4 5,.env 6],aax⟩
def xf:az:=ax Dk (ax (ax (aB [g8,uz,C4,dA 387 [L2]] [(7,L3)]) (ax (aB Jz lZ) (cY E9 (ax (aB CS [(6,E7)]) .ret) .skip))) (ax (aB RR [(8,L6)]) (ax (dF 0 (ax (aB [nQ,bN,jG L1 im,O7,tV,g L2 false (.bin .eql L4 im),xF,g L6 false (.mov E8),g L6 false (.una .not L7),g L6 false (.mov L8),g L9 true (.fld 0 E3),g L9 true (ld o7),g L9 true (.fld 0 E4),g L9 true (ld xh),g L9 true (.bin .neq mR mY),g L6 false (.pick L9 yy Vf),gI L6 Vt uU] [(10,ws)]) (cY lJ (ax (aB CS [(6,eh)]) .ret) (ax (aB [] [(11,E8)]) Ry)))) (ax (aB [g8,uz,dA 386 [L0,L1],i (.callv E2 [L2]),dA 321 [L3],IS] wI) .ret))))
def aoh:aS:=⟨12,3,.pure,[.cell true 4 5,.env 6],xf⟩
def adL:az:=ax fB (ax (aB [rQ] ur) .ret)
def arC:aS:=⟨2,1,.pure,[.env 1],adL⟩
def acd:az:=ax (aB JR [(3,L0),(4,L2),(5,V0)]) (ax (aB [lT,g8,i (.callv L0 [L1]),kN,kL,vX] rH) .ret)
def arM:aS:=⟨6,3,.pure,[.cell true 4 4,.env 5],acd⟩
def wb:az:=ax xA (ax xT (ax (dF 1 (ax (aB CC yq) (ax (ax (aB [eu 0 E6,bN,QG L1 V1] [(12,L2)]) (cY sO (ax (aB Dl [(3,eh)]) .ret) .skip)) (aB [A6,dA 388 [L0],mG 1 [L1],oI 1 E5 L2] [(5,L3)])))) yh))
def Cd:az:=ax (aB xS [(2,L0),(3,V0)]) (ax (ax (aB [dA 387 [E1]] ff) (ax (aB [pN E4 V0] jx) (cY E7 (ax (aB Dl [(3,E4)]) .ret) .skip))) (ax Fm (ax (ax (aB AX [(8,E1),(9,L0),(10,V0)]) (dF 0 (.loop [3,6,11,12] wb))) (ax (aB [i (.callv E0 [E5]),iIa 3 4 (v (.cptr false (.agg [.int .i64 1,n0,.int .u64 0,.str [],n0,n0,.int .u64 0,.str [],.int .i64 1,.int .i64 1,.int .u64 0,.str []]) 0)) L0,nM 4 L1,eT 4 E2 L2] [(3,V0)]) .ret))))
def aom:aS:=⟨13,2,.pure,[.cell true 4 2,.env 3],Cd⟩
def abZ:az:=ax pW (ax (aB [IP,bN,CM eh L1] [(1,L2)]) .ret)
def aq8:aS:=⟨2,1,.pure,[.env 1],abZ⟩
def aaH:az:=ax (aB JR [(3,L0),(4,L2),(5,V0)]) (ax (aB [nQ,bN,ua,lT,i (.eqb false L2 L3),dA 321 [L4],eT 4 E4 L5] [(5,V0)]) .ret)
def apX:aS:=⟨6,3,.pure,[.cell true 4 4,.env 5],aaH⟩
def VL:az:=ax Dk (ax (ax (aB [g8,uz,C4,dA 210 [eh,L2]] [(7,L3)]) (ax (aB Jz qY) (cY lJ (ax (aB CS [(6,E7)]) .ret) .skip))) (ax (ax (aB RR [(11,L6)]) Ry) (ax (aB [uA,bN,xL,eZ,i (.callv E2 [L1,L3]),BF,By] [(8,L5),(9,L6)]) (ax (ax (aB [i (.una .not E9)] GN) (cY sO (ax (aB CS [(6,vC)]) .ret) .skip)) (ax (aB [dA 149 [E8],zV] wI) .ret)))))
def aoK:aS:=⟨13,3,.pure,[.cell true 4 5,.env 6],VL⟩
def ae1:az:=ax tB (ax (aB [u9 E0 E1] ff) (ax (aB [i (.bin .xor E0 E4),i (.bin .xor E1 E4),i (.bin .and L0 L1),PI L2 V0] [(2,E4),(3,L3)]) .ret))
def an6:aS:=⟨5,2,.pure,[.env 2,.env 3],ae1⟩
def afG:az:=ax tB (ax (aB [CM E0 E1] ff) (ax (aB [i (.bin .xor E0 E1),i (.bin .xor E0 E4),i (.bin .and L0 L1),PI L2 V0] [(2,E4),(3,L3)]) .ret))
def apI:aS:=⟨5,2,.pure,[.env 2,.env 3],afG⟩
def afP:az:=ax tB (ax (aB [dA 390 [E0],dA 390 [E1],dA 257 [L0,L1],kN,kL] [(4,L3),(5,L4)]) (ax (aB [rQ,HR,i (.eqb true L0 L1),dA 389 [E5,L2],vt,vQ] [(6,L4),(7,L5)]) (ax (aB [g E7 true (.mov E4),g E7 true (.bin .eql L0 wA),gI E7 L1 Vf] [(2,E6),(3,L2)]) .ret)))
def an7:aS:=⟨8,2,.pure,[.env 2,.env 3],afP⟩
def ade:az:=ax (aB [] [(2,wA),(3,wA)]) (ax (aB [i (.bin .and E0 Jl)] ff) (ax (aB [i (.bin .shr E0 zR)] kg) (ax (aB [i (.bin .and E1 Jl)] lX) (ax (aB [i (.bin .shr E1 zR)] jx) (ax (aB [iMu E4 E6] r8) (ax (aB [iMu E5 E6,i (.bin .shr E8 zR),u9 L0 L1] r7) (ax (aB [i (.bin .and E9 Jl)] qY) (ax (aB [i (.bin .shr E9 zR)] pZ) (ax (aB [iMu E4 E7,u9 lJ L0] S8) (ax (aB [iMu E5 E7,u9 L0 rq,i (.bin .shr lJ zR),u9 L1 L2] [(2,L3)]) (ax (aB [iMu E0 E1] lV) .ret)))))))))))
def aqC:aS:=⟨12,2,.pure,[.env 2,.env 3],ade⟩
def WN:az:=ax (aB [] [(1,wA)]) (ax (ax (aB [rQ] iY) (cY E2 (ax (aB [i (.conv .u64 E0),i (.una .neg L0)] tS) .ret) .skip)) (ax (aB [i (.conv .u64 E0)] ur) .ret))
def aoF:aS:=⟨3,1,.pure,[.env 1],WN⟩
def aeY:az:=ax tB (ax (ax (aB [] [(4,E1)]) (cY E4 (ax (aB [i (.una .neg E0),i (.conv .i64 L0),iLq E0 (v (.int .u64 9223372036854775808))] [(2,L1),(3,L2)]) .ret) .skip)) (ax (aB [i (.conv .i64 E0),iLq E0 (v (.int .u64 9223372036854775807))] [(2,L0),(3,L1)]) .ret))
def apw:aS:=⟨5,2,.pure,[.env 2,.env 3],aeY⟩
def adZ:az:=ax tB (ax (ax (aB [jG E1 V0] ff) (cY E4 Kk .skip)) (ax (aB [dA 390 [E0],dA 390 [E1],i (.bin .quo L0 L1),rQ,HR,i (.eqb true L3 L4),dA 389 [L2,L5],ta 0 L6,ta 1 L6] [(2,L7),(3,L8)]) .ret))
def an4:aS:=⟨5,2,.pure,[.env 2,.env 3],adZ⟩
def acS:az:=ax fB (ax (aB [jG E0 V0] ur) .ret)
def ap4:aS:=⟨2,1,.pure,[.env 1],acS⟩
def V3:az:=ax Dk (ax (aB [lT,g8,uz,Ra,vt,vQ,fk,eT 4 L6 L4] [(7,L6),(8,L5)]) (ax (ax (aB [pN E8 V0] lZ) (cY E9 (ax (aB [nM 4 E7,zV] [(6,E8)]) .ret) .skip)) (ax (aB [nM 4 E7,dA 285 [L0],jF,jH,eT 4 E5 L2] [(6,L3)]) .ret)))
def aph:aS:=⟨10,3,.pure,[.cell true 4 5,.env 6],V3⟩
def acO:az:=ax pW (ax (aB [IP,bN,f8 1 E0 V1,eZ,i (.mins L1 [L3])] [(1,L4)]) .ret)
def ap7:aS:=⟨2,1,.pure,[.env 1],acO⟩
def adT:az:=ax pW (ax (aB [IP,bN,f8 1 E0 V1,eZ,i (.maxs L1 [L3])] [(1,L4)]) .ret)
def ap0:aS:=⟨2,1,.pure,[.env 1],adT⟩
def pg:az:=ax Av (ax tY (ax (dF 1 (ax yv (ax (aB [IA,kl,DW] kj) Ay))) xP))
def Uo:az:=ax iT (ax (ax Bv (dF 0 (.loop [2,3,6,7] pg))) vJ)
def apv:aS:=⟨8,2,.pure,[.env 2],Uo⟩
def V5:az:=ax kv (ax NP (ax (ax PJ (ax N1 (cY E4 (aB [JD,R3,i (.appz 1 (.int .i64 0) L1 E1),fd,Sb] [(0,L4)]) .skip))) zF))
def apN:aS:=⟨5,2,.keep,[.env 2],V5⟩
def Ab:az:=ax FY (ax Jh (ax (dF 1 (ax (aB [f8 8 sO va,EZ,Fw,FI] r7) (ax (Kr [nM 8 E9,eu 0 E9,dw,dA 247 [L2],i (.callv E7 [L3]),RX,RU,Rn] [(10,L6),(11,L7)] [(0,5)]) (ax (ax (aB [pN rq V0] xw) (cY Ek (ax (aB [] [(8,rq)]) g7) .skip)) (aB [qW,EM,HT,eT 1 E5 L2] []))))) F7))
def WS:az:=ax (aB vV [(2,L0),(3,V0),(4,V0)]) (.scope (ax (aB [ut] kg) (ax Kj (ax (aB [i (.mkfn 374 [] [E5])] jx) (ax I2 (ax (ax (.lift 5 0 1 (aB Ie [(12,L1),(13,L2),(14,V0)])) (dF 0 (.loop [9,10,11,15,16] Ab))) (ax (ax (aB [pN E8 V0] [(17,L0)]) (cY Gi (ax (aB [] [(3,E6),(4,E8)]) .ret) .skip)) (ax (aB [qW,f8 1 L0 V0,dw] [(3,L2),(4,V0)]) .ret))))))))
def apQ:aS:=⟨18,2,.pure,[.env 3,.env 4],WS⟩
def C1:az:=ax qK (ax xx (ax (dF 1 (ax Kp (dF 2 (ax (aB [jG E7 V0,Iz,P1,ac0,gI L0 Vt L3] [(14,L4)]) (cY va .skip (ax (aB [jG E6 V0] yt) (cY CE N5 (aB [] [(6,lR)])))))))) rc))
def aav:az:=ax (aB [pj 8 E0] [(3,L0),(4,V0),(5,V0)]) (ax Kj (ax (ax (aB AX [(10,E1),(11,L0),(12,V0)]) (dF 0 (.loop [7,13,14,15] C1))) (ax (aB [] [(8,E6)]) (ax (aB [] [(9,V1)]) (ax (dF 3 (ax (aB [nQ,bN,FJ] [(16,L2)]) (cY Ek (ax (aB [eu 4 E3,vc,dw] [(4,L2),(5,V0)]) .ret) (ax (aB [nQ,bN,Ox] [(17,L2)]) (cY Gi (ax (aB [lT,DD,dw,f8 1 L0 L2,fC] [(4,L4),(5,V0)]) .ret) (ax (aB [nQ,bN,dA 375 [L1]] [(18,L2)]) (cY TW (aB [] [(8,eh),(9,eh)]) (ax (aB [nQ,bN,jG L1 pb,g L2 false (.fld 0 E3),tV,g L2 false (.bin .eql L4 (v (.int .i64 22))),xF,g L6 false (.fld 0 E3),Ke,g L6 false (.bin .eql L8 J9),gI L6 Vt L9] [(19,o7)]) (cY BP (aB [] [(8,V1)]) .skip))))))))) (ax (ax (aB [jG E6 lR,P1,Vs,Rr,g L3 true (.mov E6),g L3 true (.mov E8),g L3 true (.bin .neq L4 L5),g L0 false (.pick L3 L6 Vf),O3] [(20,L8)]) (cY Rs (ax (aB [] [(4,V0),(5,v (.int .i64 201))]) .ret) .skip)) (ax (aB [] [(4,E9),(5,V0)]) .ret)))))))
def ap9:aS:=⟨21,3,.pure,[.env 4,.env 5],aav⟩
def adk:az:=ax fB (ax (aB [jG E0 im,tE,g L0 false (.bin .geq L1 D7),Rr,g L3 true (.mov E0),g L3 true (.bin .leq L4 (v (.int .i64 15))),g L0 false (.pick L3 L5 Vf),gI L0 Vt L6] [(1,L7)]) .ret)
def aqY:aS:=⟨2,1,.pure,[.env 1],adk⟩
def jq:az:=ax Av (ax tY (ax (dF 1 (ax yv (ax (aB [f8 2 E0 E3,zk,DW] kj) Ay))) xP))
def MQ:az:=ax iT (ax (ax Bv (dF 0 (.loop [2,3,6,7] jq))) vJ)
def aoJ:aS:=⟨8,2,.pure,[.env 2],MQ⟩
def QF:az:=ax IT (ax (aB [kS,bN,ov L1 V0,Il,tV,g L2 false (ld E1),g L2 false (.len L5),g L2 false (.bin .geq L4 L6),gI L2 Vt L7] [(3,L8)]) .ret)
def ao4:aS:=⟨4,2,.pure,[.env 3],QF⟩
def abL:az:=ax tT (ax (aB [rQ,tE,g L0 false (ld E1),HK,g L0 false (.bin .geq L1 L3),gI L0 Vt L4] [(2,L5)]) .ret)
def aqu:aS:=⟨3,2,.pure,[.env 2],abL⟩
def acC:az:=ax fB Di
def aql:aS:=⟨2,1,.pure,[.env 1],acC⟩
def acT:az:=ax fB Di
def apT:aS:=⟨2,1,.pure,[.env 1],acT⟩
def acz:az:=ax fB Di
def arL:aS:=⟨2,1,.pure,[.env 1],acz⟩
def abE:az:=ax fB Di
def aqv:aS:=⟨2,1,.pure,[.env 1],abE⟩
def Je:az:=ax FB (ax Bx (ax (dF 1 (ax (aB [f8 4 E4 E6,kl,fk,xD] sF) (ax (aB [me,BB] qB) (ax (aB [pN E3 V0] r8) Rz)))) Fc))
def XQ:az:=ax pW (ax (ax HS (dF 0 (.loop [1,2,3,7,8] Je))) A7)
def apB:aS:=⟨9,1,.pure,[.env 1],XQ⟩
def aao:az:=ax HN (ax (ax (aB [me,dA 206 [L0],tR,g L2 false (.load true 4 E3),g L2 false (.call 206 [L3] false),g L2 false (.una .not L4),xF] [(5,L6)]) (cY E5 (ax (aB [] uo) .ret) .skip)) (ax (aB [kS,bN,nQ,eZ,dA 242 [L1,L3],eV,gr,uA,vS,dA 243 [L6,L8],vj,tL,DD,qI,dA 398 [mR,mY],mG 1 [L4,L9,yy],dA 141 [uU]] [(4,ws)]) .ret))
def ap8:aS:=⟨6,2,.pure,[.env 4],aao⟩
def T9:az:=ax (aB [sr] AQ) (ax (ax (aB Qc zQ) (cY E3 HY .skip)) (ax (aB [wo,bN,iMu eh L1] sF) .ret))
def apG:aS:=⟨4,1,.pure,[.env 2],T9⟩
def acX:az:=ax kv (ax (aB [fb,fb,iw,C2,i (.slice 1 L0 (some L3) none),NO] [(3,L5)]) (ax (aB [fb,fb,iw,C2,i (.slice 1 L0 none (some L3)),eT 1 E1 L4] []) uq))
def ars:aS:=⟨4,2,.keep,[.env 2],acX⟩
def abu:az:=ax iT (ax (aB [dA 401 [E0,E1]] iY) .ret)
def arG:aS:=⟨3,2,.pure,[.env 2],abu⟩
def abA:az:=ax iT (ax (aB [dA 402 [E0,E1]] iY) .ret)
def ark:aS:=⟨3,2,.pure,[.env 2],abA⟩
def tbl:List jR:=[
.none,
.none,
.fn ao3,
.fn ar2,
.none,
.fn arY,
.fn ar7,
.fn aq2,
.fn aos,
.none,
.fn ao9,
.fn ary,
.fn ar8,
.none,
.none,
.none,
.none,
.fn ar9,
.fn arJ,
.fn aok,
.fn aqE,
.none,
.none,
.none,
.fn aqg,
.none,
.none,
.none,
.none,
.fn aqL,
.none,
.none,
.fn apn,
.fn aoH,
.fn asa,
.fn aqS,
.fn aoC,
.fn aou,
.fn apb,
.fn aoS,
.fn aoV,
.fn arj,
.fn apF,
.fn aqj,
.fn ari,
.fn aqs,
.fn aoQ,
.fn ao0,
.fn apa,
.fn apd,
.fn arX,
.fn ar6,
.none,
.none,
.none,
.none,
.none,
.none,
.none,
.none,
.fn asc,
.fn aqn,
.nilfn ara,
.round qC,
.fn aqR,
.fn aqh,
.fn aqT,
.prim 1,
.fn aqP,
.fn arq,
.fn aog,
.fn ap3,
.none,
.none,
.none,
.fn apj,
.none,
.fn aqd,
.fn apo,
.fn apZ,
.fn aqW,
.none,
.none,
.fn aqq,
.fn aqK,
.fn ard,
.fn aoI,
.fn apq,
.fn aop,
.fn apL,
.fn arQ,
.fn arn,
.fn arT,
.fn api,
.fn aoM,
.nilfn aro,
.fn aod,
.fn arp,
.fn aqJ,
.fn aoG,
.fn apS,
.fn apy,
.fn aqH,
.none,
.none,
.fn apY,
.fn aqi,
.fn arP,
.fn arV,
.fn ao4,
.fn apm,
.fn aq9,
.fn aoD,
.fn arD,
.nilfn apE,
.fn arc,
.fn apO,
.fn ape,
.fn arW,
.fn aoB,
.fn ar3,
.none,
.none,
.none,
.none,
.none,
.none,
.none,
.none,
.none,
.none,
.none,
.none,
.none,
.none,
.none,
.fn arZ,
.none,
.fn apl,
.fn aqM,
.fn aqX,
.fn aoe,
.fn aoR,
.fn aq6,
.fn aoL,
.fn arb,
.fn aoX,
.fn arO,
.fn aqB,
.fn aq0,
.fn aob,
.fn aqQ,
.fn arB,
.fn aqZ,
.fn apA,
.none,
.none,
.none,
.none,
.none,
.fn aps,
.fn arR,
.none,
.fn apR,
.fn apr,
.none,
.none,
.fn ao8,
.fn apD,
.fn aqD,
.round ij,
.fn arm,
.fn apc,
.fn aqA,
.fn aoN,
.round nz,
.fn apW,
.fn arh,
.fn arI,
.fn aqp,
.fn aqz,
.fn aoq,
.fn ao2,
.fn aor,
.fn apP,
.fn aq3,
.fn aoW,
.fn aqU,
.fn aq4,
.fn aq1,
.fn aqm,
.fn arN,
.fn arv,
.round jp,
.fn arf,
.fn ap5,
.fn aoJ,
.fn aqc,
.fn aoT,
.round gD,
.fn arF,
.fn aow,
.fn aq5,
.fn aoz,
.fn apz,
.fn ar1,
.fn aqe,
.fn arw,
.fn aqI,
.fn arz,
.fn apH,
.none,
.none,
.none,
.fn ap2,
.fn an5,
.none,
.none,
.none,
.none,
.none,
.none,
.none,
.none,
.none,
.none,
.none,
.none,
.none,
.none,
.fn ao6,
.none,
.none,
.none,
.none,
.none,
.none,
.none,
.none,
.none,
.none,
.none,
.fn aoP,
.fn ao5,
.fn ao7,
.fn aoO,
.fn apf,
.fn aon,
.fn apC,
.none,
.none,
.none,
.none,
.fn aoY,
.fn apU,
.fn aov,
.fn aoi,
.fn aqC,
.none,
.fn aqy,
.fn aqx,
.none,
.none,
.fn apt,
.fn aru,
.fn apk,
.fn ao1,
.nilfn aqG,
.nilfn ap6,
.nilfn arE,
.nilfn arl,
.fn apu,
.fn ap1,
.fn aqb,
.fn art,
.fn apJ,
.fn aoE,
.fn aqk,
.fn apM,
.fn apK,
.fn aoo,
.fn aoU,
.prim 2,
.fn asb,
.fn aoc,
.fn are,
.fn ar0,
.fn an8,
.fn aqO,
.fn aoa,
.fn an9,
.fn arA,
.fn ar5,
.fn arS,
.fn arU,
.fn aqa,
.fn ar4,
.fn aqV,
.prim 0,
.none,
.none,
.none,
.none,
.none,
.none,
.none,
.none,
.none,
.none,
.none,
.none,
.none,
.none,
.none,
.none,
.none,
.fn aql,
.fn apT,
.fn arL,
.fn aqv,
.fn apv,
.fn aqt,
.fn aof,
.fn aol,
.fn aoj,
.fn aox,
.fn aqf,
.fn aq7,
.fn aoA,
.fn aoZ,
.fn arK,
.fn apx,
.fn aot,
.fn aqw,
.fn apV,
.fn aoy,
.fn aqr,
.fn aqN,
.fn aqF,
.fn apN,
.fn ap9,
.fn apQ,
.fn aqo,
.fn aoh,
.fn arC,
.fn arM,
.fn aom,
.fn aq8,
.fn apX,
.fn aoK,
.fn an6,
.fn apI,
.fn an7,
.fn an4,
.fn ap4,
.fn aph,
.fn ap7,
.fn ap0,
.nilfn arH,
.none,
.none,
.none,
.none,
.none,
.none,
.none,
.none,
.none,
.none,
.none,
.none,
.none,
.fn arx,
.fn aqu,
.fn ars,
.fn aqY,
.none,
.none,
.none,
.none,
.none,
.none,
.none,
.none,
.none,
.none,
.fn ap8,
.fn apB,
.fn apG,
.fn apw,
.fn aoF,
.none,
.none,
.none,
.none,
.none,
.none,
.none,
.fn arG,
.none,
.none,
.fn ark,
.prim 3,
.none,
.none,
.none,
.none,
.none,
.none,
.fn apg]
end Go.AM.P
namespace Go.AM
def code:Code:=⟨fun n=>P.tbl.getD n .none,prims⟩
end Go.AM
namespace Go.AM.I
abbrev qbz:Nat:=2
abbrev qah:Nat:=6
abbrev qt:Nat:=7
abbrev qaz:Nat:=8
abbrev qy:Nat:=10
abbrev qaf:Nat:=11
abbrev qad:Nat:=18
abbrev qaw:Nat:=19
abbrev qfv:Nat:=20
abbrev qac:Nat:=24
abbrev qfz:Nat:=29
abbrev qdx:Nat:=32
abbrev qay:Nat:=33
abbrev qcc:Nat:=35
abbrev qct:Nat:=36
abbrev qey:Nat:=37
abbrev qaa:Nat:=38
abbrev qz:Nat:=39
abbrev qbw:Nat:=40
abbrev qbm:Nat:=41
abbrev qhe:Nat:=42
abbrev qba:Nat:=43
abbrev qfy:Nat:=44
abbrev qag:Nat:=45
abbrev qab:Nat:=46
abbrev qu:Nat:=47
abbrev qw:Nat:=48
abbrev qx:Nat:=49
abbrev qgn:Nat:=61
abbrev qgt:Nat:=62
abbrev qgk:Nat:=64
abbrev qfx:Nat:=65
abbrev qfw:Nat:=66
abbrev qgc:Nat:=68
abbrev qga:Nat:=69
abbrev qbb:Nat:=70
abbrev qcz:Nat:=71
abbrev qcd:Nat:=75
abbrev qhh:Nat:=77
abbrev qha:Nat:=78
abbrev qgg:Nat:=79
abbrev qgm:Nat:=80
abbrev qdy:Nat:=83
abbrev qdz:Nat:=84
abbrev qbu:Nat:=85
abbrev qbr:Nat:=86
abbrev qbp:Nat:=87
abbrev qbq:Nat:=88
abbrev qbt:Nat:=89
abbrev qbo:Nat:=90
abbrev qbv:Nat:=91
abbrev qbs:Nat:=92
abbrev qax:Nat:=93
abbrev qeq:Nat:=94
abbrev qgw:Nat:=95
abbrev qfo:Nat:=96
abbrev qez:Nat:=97
abbrev qcq:Nat:=98
abbrev qcu:Nat:=99
abbrev qcp:Nat:=100
abbrev qcv:Nat:=101
abbrev qcr:Nat:=102
abbrev qco:Nat:=105
abbrev qcx:Nat:=106
abbrev qcw:Nat:=107
abbrev qbh:Nat:=108
abbrev qbi:Nat:=109
abbrev qhd:Nat:=110
abbrev qbn:Nat:=111
abbrev qhq:Nat:=112
abbrev qbe:Nat:=113
abbrev qgu:Nat:=114
abbrev qhj:Nat:=115
abbrev qgd:Nat:=116
abbrev qv:Nat:=117
abbrev qcg:Nat:=119
abbrev qge:Nat:=138
abbrev qgb:Nat:=139
abbrev qgh:Nat:=140
abbrev qar:Nat:=141
abbrev qgz:Nat:=142
abbrev qgo:Nat:=143
abbrev qhl:Nat:=144
abbrev qdk:Nat:=146
abbrev qhv:Nat:=147
abbrev qbx:Nat:=148
abbrev qif:Nat:=149
abbrev qc:Nat:=150
abbrev qhw:Nat:=151
abbrev qhg:Nat:=152
abbrev qbc:Nat:=153
abbrev qbd:Nat:=154
abbrev qht:Nat:=160
abbrev qce:Nat:=161
abbrev qgi:Nat:=163
abbrev qhm:Nat:=164
abbrev qbg:Nat:=167
abbrev qhb:Nat:=168
abbrev qbj:Nat:=169
abbrev qbk:Nat:=171
abbrev qdb:Nat:=172
abbrev qfu:Nat:=173
abbrev qep:Nat:=174
abbrev qec:Nat:=176
abbrev qfk:Nat:=177
abbrev qfe:Nat:=178
abbrev qfg:Nat:=179
abbrev qfb:Nat:=180
abbrev qfd:Nat:=181
abbrev qfi:Nat:=182
abbrev qfc:Nat:=183
abbrev qfj:Nat:=184
abbrev qfh:Nat:=185
abbrev qfp:Nat:=186
abbrev qfm:Nat:=187
abbrev qhi:Nat:=188
abbrev qfa:Nat:=189
abbrev qfq:Nat:=190
abbrev qcy:Nat:=191
abbrev qcj:Nat:=192
abbrev qck:Nat:=194
abbrev qcs:Nat:=195
abbrev qhp:Nat:=196
abbrev qfs:Nat:=197
abbrev qbf:Nat:=198
abbrev qch:Nat:=200
abbrev ql:Nat:=201
abbrev qik:Nat:=202
abbrev qdc:Nat:=203
abbrev qdp:Nat:=204
abbrev qdh:Nat:=205
abbrev qin:Nat:=206
abbrev qda:Nat:=207
abbrev qr:Nat:=208
abbrev qo:Nat:=209
abbrev qm:Nat:=210
abbrev qft:Nat:=214
abbrev qf:Nat:=215
abbrev qgf:Nat:=230
abbrev qan:Nat:=242
abbrev qao:Nat:=243
abbrev qaq:Nat:=244
abbrev qap:Nat:=245
abbrev qdg:Nat:=246
abbrev qdt:Nat:=247
abbrev qhs:Nat:=248
abbrev qhk:Nat:=253
abbrev qcf:Nat:=254
abbrev qib:Nat:=255
abbrev qip:Nat:=256
abbrev qex:Nat:=257
abbrev qhf:Nat:=259
abbrev qgj:Nat:=260
abbrev qio:Nat:=264
abbrev qhn:Nat:=265
abbrev qgx:Nat:=266
abbrev qgq:Nat:=267
abbrev qgp:Nat:=268
abbrev qgr:Nat:=269
abbrev qgs:Nat:=270
abbrev qfl:Nat:=272
abbrev qff:Nat:=273
abbrev qfr:Nat:=274
abbrev qhc:Nat:=275
abbrev qdd:Nat:=276
abbrev qfn:Nat:=277
abbrev qhu:Nat:=278
abbrev qgy:Nat:=281
abbrev slices_Sort_int_int:Nat:=282
abbrev qi:Nat:=284
abbrev qii:Nat:=285
abbrev qa:Nat:=287
abbrev qj:Nat:=288
abbrev qg:Nat:=289
abbrev qd:Nat:=290
abbrev qid:Nat:=291
abbrev qig:Nat:=293
abbrev qhy:Nat:=294
abbrev qil:Nat:=295
abbrev qdq:Nat:=297
abbrev math_bits_Add64:Nat:=298
abbrev qas:Nat:=316
abbrev qat:Nat:=317
abbrev qav:Nat:=318
abbrev qau:Nat:=319
abbrev qhr:Nat:=320
abbrev qia:Nat:=321
abbrev qee:Nat:=322
abbrev qeb:Nat:=323
abbrev qew:Nat:=324
abbrev qem:Nat:=325
abbrev qei:Nat:=326
abbrev qeg:Nat:=327
abbrev qeh:Nat:=328
abbrev qel:Nat:=329
abbrev qef:Nat:=330
abbrev qeo:Nat:=331
abbrev qej:Nat:=332
abbrev qen:Nat:=333
abbrev qev:Nat:=334
abbrev qea:Nat:=335
abbrev qes:Nat:=336
abbrev qek:Nat:=337
abbrev qer:Nat:=338
abbrev qho:Nat:=339
abbrev qde:Nat:=340
abbrev qdr:Nat:=341
abbrev qdv:Nat:=342
abbrev qiq:Nat:=343
abbrev qih:Nat:=344
abbrev qdj:Nat:=345
abbrev qir:Nat:=346
abbrev qij:Nat:=347
abbrev qdo:Nat:=348
abbrev qn:Nat:=349
abbrev qb:Nat:=350
abbrev qk:Nat:=351
abbrev qh:Nat:=352
abbrev qe:Nat:=353
abbrev qie:Nat:=354
abbrev qdm:Nat:=355
abbrev qhz:Nat:=356
abbrev qim:Nat:=357
abbrev qgv:Nat:=358
abbrev qeu:Nat:=372
abbrev qet:Nat:=373
abbrev qds:Nat:=374
abbrev qdf:Nat:=375
abbrev qic:Nat:=386
abbrev qis:Nat:=387
abbrev qit:Nat:=388
abbrev qp:Nat:=389
abbrev qq:Nat:=390
abbrev qhx:Nat:=398
abbrev qdw:Nat:=401
abbrev internal_bytealg_abigen_runtime_cmpstring:Nat:=402
abbrev qs:Nat:=409
end Go.AM.I
