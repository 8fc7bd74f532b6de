/- Part of the proof. -/
import Derived.Test.YtmpmbfpkpannjaaGreatDoorCm06
set_option linter.unusedVariables false
set_option linter.unusedSimpArgs false
set_option linter.unusedSectionVars false
namespace Go.AM.P
abbrev wg(x y:dd):cr:=i (.bin .add x y)
abbrev rr(n:Nat)(x y:dd):cr:=i (.app n x y)
abbrev ee:=az.blk
abbrev o6(n:Nat)(x:dd):cr:=i (.box n x)
abbrev o8(x:List aq)(y:List (Nat×Nat×dd)):cr:=i (.build x y)
abbrev dE(f:Nat)(x:List dd):cr:=i (.call f x false)
abbrev dp:=az.cond
abbrev mj(x y:dd):cr:=i (.bin .eql x y)
abbrev EU(n:Nat)(x:dd):cr:=i (.ext n x)
abbrev eJ(n:Nat)(x:dd):cr:=i (.fld n x)
abbrev PQ(x y:dd):cr:=i (.bin .geq x y)
abbrev Gf(x y:dd):cr:=i (.bin .gtr x y)
abbrev iIa(m n:Nat)(x y:dd):cr:=i (.idxa m n x y)
abbrev je(n:Nat)(x y:dd):cr:=i (.idxs n x y)
abbrev vU(x:dd):cr:=i (.len x)
abbrev iLt(x:dd):cr:=i (.lent x)
abbrev iLq(x y:dd):cr:=i (.bin .leq x y)
abbrev lh(n:Nat)(x:dd):cr:=i (.load true n x)
abbrev rA(x y:dd):cr:=i (.bin .lss x y)
abbrev oc(n:Nat)(x:List dd):cr:=i (.mkl n x)
abbrev iMn(n:Nat):cr:=i (.mknil n)
abbrev UP(x:dd):cr:=i (.mov x)
abbrev iMu(x y:dd):cr:=i (.bin .mul x y)
abbrev sw(x y:dd):cr:=i (.bin .neq x y)
abbrev Pg(x:dd):cr:=i (.nilck x)
abbrev gP(x y z:dd):cr:=i (.pick x y z)
abbrev aE:=az.reg
abbrev AO:=az.regd
abbrev aA:=az.seq
abbrev fK(n:Nat)(x y:dd):cr:=i (.store n x y)
abbrev DD(x y:dd):cr:=i (.bin .sub x y)
abbrev qT(x:dd):cr:=i (ld x)
abbrev xn(x:dd):cr:=i (lt x)
abbrev acS:az:=aE [rA PR E20] [(22,L0)]
abbrev pS:az:=.exit 0
abbrev Wo:cr:=lh 9 L0
abbrev ahQ:cr:=o6 9 (v (.agg [.ai,.ai,.ai,.ai,nf,nf,.ai,.ai,.ai]))
abbrev Ou:cr:=fK 9 L2 L1
abbrev alY:List cr:=[je 9 PP PR,Wo,ahQ,Ou]
abbrev cf:cr:=qT L0
abbrev KP:List (Nat×dd):=[(11,L2)]
abbrev SU:az:=aE [wg PR V1] [(21,L0)]
abbrev uS:cr:=o6 1 E0
abbrev CE:List cr:=[uS]
abbrev Of:List (Nat×dd):=[(2,L0),(3,Vf)]
abbrev XU:az:=aE CE Of
abbrev zm:cr:=i (.una .not L0)
abbrev KC:az:=aE [] [(3,Vf)]
abbrev xO:az:=aA KC .ret
abbrev sh:cr:=xn E2
abbrev gl:cr:=o6 1 (v (.agg [.ai]))
abbrev lV:cr:=fK 1 L2 L1
abbrev pL:List (Nat×dd):=[(4,L2)]
abbrev Ho:cr:=EU 0 L3
abbrev HJ:cr:=EU 1 L3
abbrev OI:cr:=o6 3 (v (.agg [.ai,.ai,n0]))
abbrev aaH:List cr:=[iLt E1,i (.mins L0 [v (.int .i64 600)]),i (.slicet E1 none (some L1)),dE 122 [L2],Ho,HJ,EU 2 L3,OI,fK 3 L7 L4]
abbrev xZ:List cr:=[sw E6 V0]
abbrev xV:List (Nat×dd):=[(15,L0)]
abbrev Fz:az:=aA (aE [] [(3,Vt)]) .ret
abbrev AZ:cr:=xn E4
abbrev Vi:cr:=dE 134 [L0,L1]
abbrev lM:cr:=EU 0 L2
abbrev ly:cr:=EU 1 L2
abbrev Pa:cr:=EU 2 L2
abbrev Kd:cr:=o6 5 (v (.agg [.ai,.ai,.ai,.ai,n0]))
abbrev TW:cr:=fK 5 L6 L3
abbrev FT:List (Nat×dd):=[(16,L0)]
abbrev Vz:cr:=dE 171 [L0,L1]
abbrev yE:cr:=fK 1 L5 L3
abbrev Fc:List (Nat×dd):=[(17,L0)]
abbrev mZ:cr:=EU 0 L1
abbrev ny:cr:=EU 1 L1
abbrev Vh:cr:=dE 85 [L0]
abbrev YR:cr:=g L0 false (.bin .neq L1 V0)
abbrev AI:cr:=gP L0 Vt L2
abbrev ag0:cr:=g L3 false (.mov E9)
abbrev CT:List cr:=[iMn 1]
abbrev xS:List (Nat×dd):=[(11,L0)]
abbrev yw:cr:=eJ 0 E7
abbrev gv:cr:=vU L1
abbrev Yk:List cr:=[yw,cf,gv]
abbrev LF:cr:=eJ 0 E8
abbrev dT:cr:=qT L2
abbrev sP:cr:=vU L3
abbrev ur:cr:=o6 12 (v (.agg [n0,n0,n0,n0,.ai,nf,.ai,.ai,.ai,.ai,.ai,n0]))
abbrev xl:cr:=g L3 true (ld L4)
abbrev Bj:dd:=v (.int .i64 8)
abbrev D9:cr:=gP L3 L6 Vf
abbrev Hj:cr:=g L7 true (ld L8)
abbrev Rm:cr:=g rh true (ld BV)
abbrev HV:List (Nat×dd):=[(3,L0),(4,Vf)]
abbrev Qo:az:=aA (aE [] [(4,Vf)]) .ret
abbrev vM:cr:=xn E3
abbrev qP:List (Nat×dd):=[(5,L2)]
abbrev BI:cr:=xn E5
abbrev Y9:List cr:=[BI,lh 5 E8,Vz,lM,ly,gl,yE]
abbrev jU:dd:=v (.int .i64 (-1))
abbrev Sx:dd:=v (.int .i64 2147483647)
abbrev R3:cr:=fK 1 L2 Vn
abbrev Qx:cr:=fK 1 L4 L1
abbrev DB:cr:=g L3 false (ld L4)
abbrev Sa:cr:=g L3 false (.len L5)
abbrev Mh:cr:=eJ 0 E9
abbrev eX:dd:=v (.int .i64 2)
abbrev Yh:cr:=g L0 true (.bin .eql L1 V0)
abbrev rE:cr:=gP L0 L2 Vf
abbrev SH:cr:=g L0 false (ld L2)
abbrev RW:cr:=g L0 false (.len L3)
abbrev dU:cr:=qT L1
abbrev Bq:cr:=vU L2
abbrev Bn:cr:=EU 0 L6
abbrev Bh:cr:=EU 1 L6
abbrev LB:cr:=gP L0 Vt L4
abbrev Ez:dd:=v (.int .i64 7)
abbrev pW:List (Nat×dd):=[(9,L0)]
abbrev ze:az:=aE [wg E9 V1] pW
abbrev EH:List (Nat×dd):=[(3,L4)]
abbrev DS:cr:=EU 2 L1
abbrev RU:cr:=o6 2 (v (.agg [.ai,.ai]))
abbrev fT:dd:=v (.int .i64 3)
abbrev jt:dd:=v (.int .i64 5)
abbrev Ze:cr:=g vR true (.fld 1 E1)
abbrev Rs:cr:=g vR true (ld rh)
abbrev QM:cr:=g As true (ld TH)
abbrev zA:az:=aE [rA E8 E7] pW
abbrev yP:az:=dp E9 .skip pS
abbrev K9:cr:=lh 3 L0
abbrev Qd:cr:=fK 3 L2 L1
abbrev abP:List cr:=[je 3 E6 E8,K9,o6 3 (v (.agg [.str [],.ai,.ai])),Qd]
abbrev pu:cr:=eJ 0 E3
abbrev DR:cr:=eJ 1 E5
abbrev wZ:cr:=qT L4
abbrev Lg:cr:=eJ 2 E5
abbrev wT:List (Nat×dd):=[(8,L0)]
abbrev wN:az:=aE [wg E8 V1] wT
abbrev I7:List (Nat×dd):=[(1,L0),(2,L1)]
abbrev uf:cr:=eJ 0 E1
abbrev Xf:cr:=o8 [.ai] [(0,1,L2)]
abbrev RX:cr:=fK 1 L4 L3
abbrev LZ:List cr:=[pu,cf,gv]
abbrev Qf:List (Nat×dd):=[(6,L1),(7,L2),(8,V0)]
abbrev Hm:cr:=fK 1 E2 L0
abbrev Hz:List cr:=[OI]
abbrev D2:cr:=EU 0 L0
abbrev K7:cr:=EU 1 L0
abbrev vY:az:=.exit 2
abbrev Mk:cr:=o6 3 (v (.agg [.str [],n0,nf]))
abbrev He:cr:=o8 [.ai,.ai,.ai,.ai,n0] []
abbrev DV:cr:=fK 5 E4 L0
abbrev Ra:List cr:=[He,DV]
abbrev QJ:cr:=fK 1 L7 L6
abbrev Nz:cr:=o6 9 (v (.agg [nf,nf,.ai,.str [],.str [],.ai,.ai,.ai,.ai]))
abbrev ZP:List cr:=[je 9 E20 NJ,Wo,Nz,Ou]
abbrev uJ:cr:=i .mkmap
abbrev abj:List cr:=[sh,lh 9 qU,uJ,uJ,uJ,o8 [.ai,nf,nf,.ai,.str [],.str [],.ai,.ai,.ai,.ai,.ai,.ai,.ai,.ai,nf,nf,.ai,.ai,.ai,.nilm,.nilm,.nilm,.ai,.ai,n0] [(0,1,L0),(1,9,L1),(19,1,L2),(20,1,L3),(21,1,L4)],o6 25 L5]
abbrev Bo:List (Nat×dd):=[(13,L0)]
abbrev ZU:az:=.lift 12 10 1 (.lift 12 11 2 (.lift 12 16 1 (.lift 12 17 2 (.lift 12 18 1 (.lift 12 22 1 (.lift 12 23 1 (aE [dE 141 [sT]] Bo)))))))
abbrev Ep:dd:=v (.int .i64 10)
abbrev fV:cr:=qT L3
abbrev yy:List (Nat×dd):=[(14,L0)]
abbrev mi:cr:=fK 1 L1 L0
abbrev G5:cr:=i (.una .not L2)
abbrev xK:dd:=v (.int .i64 6)
abbrev XX:List cr:=[Mh,cf,Pg sT,eJ 10 L2,lh 9 L3,oc 9 [L4],rr 9 L1 L5,Mh,QJ]
abbrev QH:List cr:=[sh,dE 86 [L0]]
abbrev xJ:List (Nat×dd):=[(7,L1)]
abbrev wa:List (Nat×dd):=[(8,L1)]
abbrev Jp:List cr:=[sw E8 V0]
abbrev DM:cr:=eJ 1 E3
abbrev IA:az:=aE [rA PP Q3] [(20,L0)]
abbrev BQ:cr:=o8 [.ai] []
abbrev IN:List cr:=[BQ,fK 1 E4 L0]
abbrev HS:az:=aE [wg PP V1] [(19,L0)]
abbrev abT:List cr:=[uS,o6 5 E1,gl]
abbrev GZ:List (Nat×dd):=[(2,L0),(3,L1),(4,L2),(5,V0)]
abbrev sA:List (Nat×dd):=[(6,L1)]
abbrev Ly:az:=aE QH sA
abbrev Q6:az:=aA (aE IN [(5,v (.int .i64 240))]) .ret
abbrev YF:az:=dp Gc Q6 .skip
abbrev Qc:cr:=o6 1 (v .nilp)
abbrev yL:cr:=fK 1 L3 L2
abbrev abQ:List cr:=[sh,o8 [.ai,.ai,.ai,.ai,.ai,nf,nf,.ai,.ai,.ai,.ai,nf] [(0,1,L0)],o6 12 L1,Qc,yL]
abbrev D5:List (Nat×dd):=[(7,L3)]
abbrev Ha:List (Nat×dd):=[(17,L1),(18,L2),(19,V0)]
abbrev aaV:List cr:=[qT E7,eJ 3 E3,dU,eJ 4 E3,fV,o8 [n0,n0,n0,n0,.ai,nf,.ai,.ai,.ai,.ai,.ai,n0] [(0,1,Bj),(10,1,L2),(11,1,L4)],dE 118 [L0,L5,Vn]]
abbrev uT:cr:=Pg L0
abbrev DU:cr:=eJ 10 L1
abbrev ux:cr:=xn L2
abbrev ul:cr:=EU 0 L4
abbrev uO:cr:=EU 1 L4
abbrev Zj:List cr:=[qT E7,uT,DU,ux,dE 183 [L3],ul,uO]
abbrev IT:cr:=gP L3 Vt L5
abbrev aa0:az:=dp NJ Q6 .skip
abbrev Qn:cr:=fK 1 E4 L3
abbrev aa8:List cr:=[qT E7,uT,DU,ux,Qn]
abbrev Dx:List cr:=[uS,UP Vn]
abbrev Mp:List (Nat×dd):=[(1,L0),(2,L1),(3,V0)]
abbrev Bv:cr:=xn E1
abbrev aaD:List cr:=[Bv,dE 77 [L0],mZ,ny,DS]
abbrev HF:List cr:=[i (.una .not E6)]
abbrev nY:List (Nat×dd):=[(7,L0)]
abbrev uy:List cr:=[UP Vn]
abbrev Ql:dd:=v (.int .i64 230)
abbrev jj:cr:=eJ 1 L0
abbrev P9:cr:=i (.call 12 [L4] true)
abbrev lK:List (Nat×dd):=[(6,L0)]
abbrev Ss:az:=aE [rA E6 E5] nY
abbrev SL:az:=dp E7 .skip pS
abbrev Qy:az:=aE [] [(3,E6)]
abbrev zg:cr:=je 1 E0 E3
abbrev Ye:List cr:=[zg,cf,je 1 E1 E3,dT,sw L1 L3]
abbrev kR:az:=aE [] [(2,Vf)]
abbrev EA:az:=aA kR .ret
abbrev MR:az:=dp E8 EA .skip
abbrev R0:az:=aE [wg E6 V1] lK
abbrev v8:cr:=vU E0
abbrev P5:List cr:=[v8,vU E1,sw L0 L1]
abbrev Lu:az:=aA (aE P5 pL) (dp E4 EA .skip)
abbrev Ed:List cr:=[v8]
abbrev Rc:az:=aE Ed [(5,L0),(6,V0)]
abbrev Bb:az:=aA (aE [] [(2,Vt)]) .ret
abbrev vT:List (Nat×dd):=[(10,L0)]
abbrev Dy:az:=aE [rA E9 E8] vT
abbrev A7:az:=dp oG .skip pS
abbrev ED:cr:=lh 12 L0
abbrev DH:cr:=fK 12 L2 L1
abbrev uC:cr:=eJ 0 E5
abbrev Jo:cr:=mj L1 V1
abbrev yS:cr:=oc 1 [L1]
abbrev QN:az:=aE Dx I7
abbrev sC:List (Nat×dd):=[(3,L3)]
abbrev iM:List (Nat×dd):=[(2,L0)]
abbrev v6:az:=aE uy iM
abbrev ji:List (Nat×dd):=[(4,L0)]
abbrev RC:az:=aE CT ji
abbrev Dz:List cr:=[uf,cf,gv]
abbrev Sv:az:=aE [wg E2 V1] iM
abbrev RV:az:=aE [wg E4 V1] ji
abbrev qN:az:=dp E6 .skip pS
abbrev YB:cr:=i (.slice 1 E0 (some E2) none)
abbrev kz:List (Nat×dd):=[(3,L0)]
abbrev my:List (Nat×dd):=[(1,L0)]
abbrev mw:az:=aE uy my
abbrev xc:List (Nat×dd):=[(5,L1)]
abbrev nH:cr:=lh 2 L0
abbrev gO:cr:=eJ 0 E2
abbrev Ij:List (Nat×dd):=[(2,L0),(3,L1),(4,V0)]
abbrev M7:cr:=fK 1 E3 L0
abbrev Ev:List cr:=[BQ,M7]
abbrev Qa:cr:=g L0 false (.mov E1)
abbrev Yt:cr:=g L0 false (.fld 0 E2)
abbrev abo:cr:=g L0 false (.bin .geq L1 L4)
abbrev Nn:cr:=gP L0 Vt L5
abbrev BJ:List cr:=[gl]
abbrev py:cr:=o6 1 E1
abbrev HH:List (Nat×dd):=[(2,L0),(3,L1),(4,Vf)]
abbrev YS:List (Nat×dd):=[(2,L0),(3,L1),(4,V0),(5,V0)]
abbrev yF:List (Nat×dd):=[(12,L0)]
abbrev Nq:List cr:=[o8 [.ai,.ai] [],fK 2 E3 L0]
abbrev Yd:cr:=o8 [.str [],n0] [(0,1,v (.str [97])),(1,1,eX)]
abbrev Mv:az:=dp E5 .skip pS
abbrev Qe:az:=aE [] [(3,V0)]
abbrev QG:az:=aE [rA E7 E6] wT
abbrev Lr:az:=dp E8 .skip pS
abbrev EM:cr:=eJ 0 E4
abbrev Sf:az:=aE [wg E7 V1] nY
abbrev RS:az:=aE CT kz
abbrev MD:az:=aA (aE [] [(2,E3)]) .ret
abbrev R9:cr:=i (.mins L1 [E1])
abbrev Et:List (Nat×dd):=[(2,L0),(3,V0),(4,V0)]
abbrev oz:List (Nat×dd):=[(5,L0)]
abbrev QD:cr:=fK 3 E2 L0
abbrev yx:cr:=iLt E0
abbrev zq:List (Nat×dd):=[(9,L2)]
abbrev HD:List (Nat×dd):=[(10,L1)]
abbrev mh:cr:=eJ 0 L0
abbrev SI:dd:=v (.int .i64 190)
abbrev IC:cr:=eJ 3 L0
abbrev sx:cr:=qT L5
abbrev RQ:cr:=dE 4 [E0,V1,L0]
abbrev xC:List (Nat×dd):=[(3,L1)]
abbrev Ng:cr:=dE 108 [E0]
abbrev IR:az:=aA (aE [Ng,dE 192 [E0,v (.int .i64 191),L0]] []) pS
abbrev DN:cr:=dE 63 [E0]
abbrev Bs:az:=aE [DN] []
abbrev sF:cr:=dE 73 [E0,V1,L0]
abbrev aaf:List cr:=[dE 128 [E0],i (.mksl 9 [L0]),o8 [.ai,.ai,n0] [(0,1,L1),(2,1,jU)],OI,fK 3 L3 L2]
abbrev vV:List (Nat×dd):=[(2,L3)]
abbrev gx:cr:=eJ 1 E2
abbrev oS:cr:=eJ 2 E2
abbrev SC:az:=aA (aE [lh 3 E2,fK 3 E1 L0] []) .ret
abbrev Rj:az:=aE CE [(1,L0),(2,V0)]
abbrev lw:dd:=v (.int .i64 4)
abbrev mr:az:=aE [] [(2,V0)]
abbrev Ea:az:=aA mr .ret
abbrev Ya:cr:=g E3 true (.fld 0 E4)
abbrev Nb:cr:=g E3 true (ld L0)
abbrev ky:dd:=v (.str [])
abbrev Ey:List cr:=[o6 3 E0]
abbrev Rw:cr:=g L3 true (.len L5)
abbrev Rz:cr:=gP L3 L7 Vf
abbrev Zh:cr:=g L8 true (.len mA)
abbrev yN:cr:=eJ 1 E1
abbrev abu:List cr:=[yN,cf,gv]
abbrev Eo:cr:=i (.una .not E3)
abbrev XK:cr:=g L0 false (.fld 0 E1)
abbrev Se:cr:=gP L0 Vt L3
abbrev MW:cr:=wg E5 V1
abbrev sI:az:=aE [MW] oz
abbrev qC:az:=aE [] [(1,V0)]
abbrev DI:az:=aA (aE [] [(1,E2)]) .ret
abbrev LY:cr:=je 1 E7 E9
abbrev oC:cr:=xn L0
abbrev ct:cr:=Pg E0
abbrev rx:List (Nat×dd):=[(2,L2)]
abbrev pp:cr:=eJ 10 L0
abbrev HK:cr:=eJ 8 L1
abbrev aaQ:az:=dp E20 .skip (.exit 4)
abbrev QK:cr:=je 2 Kg PP
abbrev Hg:cr:=o6 2 (v (.agg [.ai,.str []]))
abbrev qI:cr:=fK 2 L2 L1
abbrev LG:cr:=o6 9 (v (.agg [n0,n0,n0,n0,n0,.int .u64 0,.str [],.str [],.str []]))
abbrev oY:List (Nat×dd):=[(2,L1)]
abbrev Hs:az:=aE [rA ER yu] FT
abbrev Sq:az:=dp Gc .skip vY
abbrev HG:cr:=o6 2 (v (.agg [.str [],n0]))
abbrev Ih:az:=aE [wg ER V1] xV
abbrev IU:az:=aE [rA qU oG] yF
abbrev Jd:az:=dp sT .skip pS
abbrev wL:cr:=eJ 0 L1
abbrev Ji:cr:=eJ 1 L4
abbrev IE:az:=aE [wg qU V1] xS
abbrev D1:cr:=eJ 1 L1
abbrev Rh:List cr:=[ct,jj,D1,dT]
abbrev PY:List cr:=[ct,jj,eJ 2 L1,dT,sP]
abbrev MX:cr:=mj L1 V0
abbrev Sy:cr:=g L0 true (.mov E4)
abbrev yY:cr:=g L0 true (.mov E0)
abbrev SD:cr:=gP L0 L6 Vf
abbrev BN:List cr:=[vU E1]
abbrev uu:List (Nat×dd):=[(6,L2)]
abbrev HO:cr:=g L2 false (ld L3)
abbrev abN:cr:=g L2 false (.len L5)
abbrev Ln:az:=aA (aE [] [(3,V0),(4,v (.int .i64 222))]) .ret
abbrev zo:List (Nat×dd):=[(4,L1)]
abbrev MH:cr:=lh 12 E3
abbrev IW:cr:=eJ 11 L0
abbrev xu:cr:=qT E5
abbrev RO:cr:=g L0 false (.mov E6)
abbrev LC:cr:=eJ 2 L3
abbrev Il:az:=aA (aE [i (.nils false E0)] iM) (dp E2 (aA mw .ret) .skip)
abbrev uK:List (Nat×dd):=[(1,L1)]
abbrev Io:az:=aE [rA sT qU] Bo
abbrev EF:cr:=eJ 9 E2
abbrev Ik:az:=aE [wg sT V1] yF
abbrev Bp:cr:=eJ 8 E2
abbrev zu:cr:=o6 12 E0
abbrev Mn:List (Nat×dd):=[(2,L0),(3,L1)]
abbrev A8:cr:=PQ L1 V0
abbrev oU:List (Nat×dd):=[(7,L2)]
abbrev Nd:cr:=eJ 4 E2
abbrev D8:cr:=eJ 7 E2
abbrev BU:cr:=eJ 6 E2
abbrev abf:List cr:=[Bp,cf,gv]
abbrev Z3:List cr:=[EF,cf,gv]
abbrev ME:az:=aE [rA oG E9] xS
abbrev LH:az:=dp qU .skip pS
abbrev Qq:List (Nat×dd):=[(5,L2),(4,oG)]
abbrev P3:cr:=i (.callv E2 [L0,L1])
abbrev Sd:az:=dp sT xO .skip
abbrev K8:az:=aE [wg oG V1] vT
abbrev Rb:az:=aA (aE P5 oU) (dp E7 xO .skip)
abbrev P6:az:=aE Ed [(8,E0),(9,L0),(10,V0)]
abbrev I4:cr:=g L4 true (ld L5)
abbrev R6:cr:=g L4 true (ld L7)
abbrev MP:cr:=gP L4 L9 Vf
abbrev P1:cr:=g L4 true (.fld 1 E2)
abbrev Xk:cr:=g L4 true (.fld 1 E3)
abbrev Eu:cr:=o6 4 (v (.agg [n0,n0,.str [],.int .u64 0]))
abbrev DA:List (Nat×dd):=[(1,L2)]
abbrev ML:cr:=je 4 L2 V0
abbrev Zy:List cr:=[dE 18 [E0,V1,v (.str [68,73,83,84,73,78,67,84])],o8 [nf,nf,.ai,.str [],.str [],.ai,.ai,.ai,.ai] [(0,1,L0)],Nz,Ou]
abbrev LV:dd:=v (.str [42])
abbrev xi:cr:=i (.una .not L1)
abbrev xk:List (Nat×dd):=[(3,L2)]
abbrev yC:cr:=fK 2 L1 L0
abbrev XT:List cr:=[dE 131 [E0],eJ 3 E2,yC]
abbrev aa9:List cr:=[dE 132 [E0],eJ 5 E2,mi]
abbrev DK:cr:=dE 107 [E0]
abbrev Q0:cr:=g L3 false (.mov E0)
abbrev aa4:cr:=g mA false (.mov E0)
abbrev Zo:cr:=g L1 false (.mov E2)
abbrev Xp:cr:=g L1 false (.mov E0)
abbrev abH:cr:=o8 [n0,n0,.str [],.int .u64 0] []
abbrev Q8:az:=aA (aE [oc 1 [v (.str [44])],dE 4 [E0,jt,L0]] xc) Mv
abbrev Eh:cr:=i (.callv E2 [])
abbrev LQ:az:=aE uy kz
abbrev Hu:az:=aA (aE [] [(3,E4)]) .ret
abbrev IF:cr:=dE 73 [E0,eX,Vn]
abbrev BE:cr:=i (.fldv false 1 2 L0)
abbrev Yb:az:=dp E3 (aE [dE 193 [E0],gx,mi] []) (aE [IF,BE,gO,lV] [])
abbrev ZY:cr:=i (.fldv false 1 3 L0)
abbrev BA:List (Nat×dd):=[(1,L0),(2,Vf)]
abbrev MG:cr:=sw L1 V0
abbrev MY:az:=aE [rA tA sT] yy
abbrev QB:az:=dp yu .skip vY
abbrev Mm:cr:=g L2 true (.fld 1 E1)
abbrev Yg:cr:=g nK false (ld vR)
abbrev Ny:az:=aE [wg tA V1] Bo
abbrev QF:cr:=gP E3 L3 Vf
abbrev yZ:cr:=g L2 true (ld L3)
abbrev K3:cr:=eJ 2 E1
abbrev aac:List cr:=[K3,cf,gv]
abbrev zx:cr:=PQ L0 V0
abbrev Z5:cr:=g L0 false (.callv L1 [L2])
abbrev ZN:cr:=g L0 false (.call 11 [L3] false)
abbrev ZD:cr:=g L0 false (.una .not L4)
abbrev X6:az:=dp oG EA .skip
abbrev Sl:az:=aE Ed [(6,E0),(7,L0),(8,V0)]
abbrev RL:List cr:=[uf,cf]
abbrev RE:az:=aA (aE RL oY) .ret
abbrev nV:az:=aE [] [(1,Vf)]
abbrev sD:List (Nat×dd):=[(1,L3)]
abbrev Q1:cr:=gP L1 L4 Vf
abbrev Sg:az:=aA nV .ret
abbrev rR:cr:=g L0 false (.mov E0)
abbrev B8:dd:=v (.int .i64 16)
abbrev GI:az:=aE [o6 9 E0] BA
abbrev wW:cr:=o6 2 (v (.agg [.str [],.str []]))
abbrev CJ:cr:=lh 4 L0
abbrev Mz:cr:=o6 4 (v (.agg [nf,.str [],.str [],.ai]))
abbrev Ns:cr:=fK 4 L2 L1
abbrev TT:cr:=g E3 true (.mkl 1 [L1])
abbrev TZ:cr:=g E3 true (.call 114 [L2] false)
abbrev MO:cr:=gP L4 L7 Vf
abbrev UA:cr:=g L4 true (.call 68 [L6] false)
abbrev Nj:cr:=g L6 false (ld L7)
abbrev vt:cr:=eJ 3 E1
abbrev K4:List (Nat×dd):=[(13,L1),(14,L2),(15,V0)]
abbrev Cu:cr:=eJ 6 E1
abbrev Ct:cr:=eJ 7 E1
abbrev zK:cr:=eJ 24 L0
abbrev Aq:az:=aA qC .ret
abbrev F1:cr:=eJ 6 L1
abbrev CF:cr:=eJ 0 L2
abbrev zZ:cr:=vU L4
abbrev zU:List (Nat×dd):=[(2,L6)]
abbrev F2:cr:=eJ 10 L7
abbrev Au:cr:=lh 2 E2
abbrev Lx:az:=aA (aE [] [(1,E4)]) .ret
abbrev T3:List cr:=[ct,zK,fK 1 L1 lw]
abbrev UL:List cr:=[ct,jj,wL,dT,ct,Ji,lh 9 L5,dE 151 [L6],ct,eJ 10 L8,eJ 5 L9,fK 1 mA L3,ct,eJ 10 vR,eJ 4 rh,fK 1 BV L7]
abbrev Uk:az:=dp E8 (aA (aE [] [(1,v (.int .i64 227))]) .ret) .skip
abbrev Ge:List cr:=[ct,eJ 22 L0,dU,Bq]
abbrev wO:cr:=eJ 7 L1
abbrev GB:az:=dp tA .skip pS
abbrev Ta:cr:=g L0 false (.mov E7)
abbrev Gp:cr:=dE 16 [L0]
abbrev pj:az:=aE [rA E5 E4] lK
abbrev ti:az:=aE [] [(3,E5)]
abbrev tp:az:=dp E7 MD .skip
abbrev pn:az:=aE Ed [(4,L0),(5,V0)]
abbrev pf:az:=aA (aE [] [(2,jU)]) .ret
abbrev Vw:cr:=g L2 false (.mov E2)
abbrev U4:cr:=g L2 false (.bin .neq L3 V0)
abbrev Mi:cr:=gP L2 Vt L4
abbrev Gq:cr:=fK 1 L7 L5
abbrev Ui:cr:=g L2 false (.mov E5)
abbrev Gs:cr:=eJ 1 L7
abbrev Cp:cr:=eJ 4 E1
abbrev B9:cr:=fK 1 L8 L6
abbrev Tq:cr:=g L4 true (.call 280 [L6,L8] false)
abbrev Cv:cr:=o6 2 (v (.agg [n0,.ai]))
abbrev UW:List cr:=[je 1 E8 oG,oC,gl,lV]
abbrev Nh:az:=aA (aE [Au,fK 2 E1 L0] []) .ret
abbrev T5:dd:=v (.str [76,69,70,84])
abbrev TX:dd:=v (.str [74,79,73,78])
abbrev zS:List cr:=[o6 2 E0]
abbrev xf:cr:=i (.callv E1 [L1])
abbrev zF:cr:=gP L2 L5 Vf
abbrev Md:List cr:=[je 2 qU tA,nH,HG,qI]
abbrev Tt:List cr:=[ct,eJ 20 L0,dU,yw,fV,ct,eJ 20 L5,qT L6,yw,qT L8,i (.lookk [] .ai false L7 L9),oc 1 [E8],rr 1 mA nK,i (.mputk [] L2 L4 vR)]
abbrev Tc:List cr:=[ct,eJ 21 L0,dU,yw,fV,o8 [.str [],.str []] [(0,1,E6),(1,1,L4)],i (.mputk [2,2] L2 L5 E8)]
abbrev Um:List cr:=[ct,eJ 22 L0,dU,eJ 1 E7,fV,oc 1 [L4],rr 1 L2 L5,ct,eJ 22 L7,B9]
abbrev De:List cr:=[o6 2 E1]
abbrev GR:cr:=EU 0 L5
abbrev GP:cr:=EU 1 L5
abbrev Tj:List cr:=[ct,mh,xn L1,gO,fV,dE 144 [L2,L4],GR,GP]
abbrev UI:List cr:=[ct,eJ 19 L0,dU,i (.mputk [] L2 E6 Vt)]
abbrev Up:List cr:=[ct,pp,wL,dT,oc 1 [E4],rr 1 L3 L4,ct,eJ 10 L6,eJ 0 L7,fK 1 L8 L5]
abbrev MF:List cr:=[dE 81 [],o6 1 (v .nilm),mi]
abbrev Gm:List cr:=[o6 8 E0,gl]
abbrev GK:cr:=fK 1 E2 L2
abbrev SY:List cr:=[uS,py,gl]
abbrev Uw:List (Nat×dd):=[(3,L0),(4,L1),(5,L2),(6,V0),(7,V0)]
abbrev Ck:cr:=o6 1 (v .nilf)
abbrev Ut:List cr:=[i (.mkfn 103 [] [E3]),Ck,mi]
abbrev TP:List cr:=[qT qU,EM,dU,Bq,DD L3 V1,i (.callv L0 [L4,E2]),GR,GP,gl,B9]
abbrev TI:az:=dp ER (aA (aE [BQ,fK 1 E5 L0] [(6,V0),(7,tA)]) .ret) .skip
abbrev T1:List cr:=[xn sT,qT oG,i (.callv L1 [E2]),dE 41 [L0,L2],Ho,HJ]
abbrev GF:cr:=lh 8 L0
abbrev LX:cr:=o6 8 (v (.agg [n0,n0,n0,n0,n0,n0,.int .u64 0,.str []]))
abbrev Lz:cr:=fK 8 L2 L1
abbrev TC:List cr:=[je 8 E6 E8,GF,LX,Lz]
abbrev Gt:cr:=mj L1 eX
abbrev Lp:az:=aE [rA yu tA] xV
abbrev Mg:az:=dp ER .skip pS
abbrev Ma:az:=aE [wg yu V1] yy
abbrev U3:List cr:=[gO,cf,gv]
abbrev Gj:List cr:=[mj E6 V0]
abbrev MJ:cr:=gP L2 Vt L5
abbrev F5:dd:=v (.int .i64 23)
abbrev Vy:cr:=g L0 false (.mov L2)
abbrev Ao:dd:=v (.int .i64 12)
abbrev TL:az:=dp E20 .skip vY
abbrev fM:cr:=qT E1
abbrev vG:az:=aE [o6 12 E1,UP Vn] HH
abbrev xD:cr:=je 1 L2 L4
abbrev TG:List cr:=[ct,jj,dU,gx,fV,xD,sx]
abbrev MK:az:=aE RL xC
abbrev Np:az:=aE [mj E3 V1] ji
abbrev Cf:cr:=fK 1 L0 V0
abbrev MT:az:=aE [mj E3 eX] oz
abbrev Nv:cr:=fK 1 L0 Vn
abbrev LW:cr:=g L3 false (.bin .eql L4 V0)
abbrev TF:cr:=g L6 false (.mov E0)
abbrev Mj:dd:=v (.int .u8 39)
abbrev Ap:cr:=fK 4 E2 L0
abbrev gl2:aq:=.agg [.str [60,62],.str [60,61],.str [62,61],.str [40],.str [41],.str [44],.str [46],.str [42],.str [43],.str [45],.str [47],.str [61],.str [60],.str [62]]
abbrev Tb:dd:=v (.cptr false gl2 0)
abbrev UM:cr:=iIa 14 1 Tb tA
abbrev UG:cr:=dE 51 [E0,V1,L0,L2]
abbrev C5:cr:=i (.callv L0 [L1])
abbrev LU:dd:=v (.int .i64 11)
abbrev Mc:az:=aE zS Of
abbrev TS:cr:=i (.look (.int .i64 0) false L0 L2)
abbrev GE:cr:=fK 1 E8 L0
abbrev CH:cr:=oc 1 [L0]
abbrev T2:List cr:=[gO,cf,je 9 L1 E0,lh 9 L2,LG,fK 9 L4 L3]
abbrev wX:cr:=eJ 0 oG
abbrev SZ:az:=dp E23 (aA (aE [qT E3,eJ 3 oG,lh 4 L1,o8 [n0,n0,n0,n0,n0,n0,.int .u64 0,.str []] [(0,1,V1),(4,4,L2)],i (.callv L0 [L3]),ul,uO,fK 1 E8 L5] [(9,L6)]) .ret) .skip
abbrev CU:List cr:=[BQ,GE]
abbrev Tn:az:=dp E24 (aA (aE [qT E4,eJ 7 oG,dU,eJ 8 oG,fV,o8 [.str [],.str []] [(0,1,L2),(1,1,L4)],dE 94 [L0,L5],Bn,Bh] [(11,L7),(12,L8)]) (aA (aA (aE [mj sT V0,g L0 true (.mov E1),gP L0 L1 Vf] [(25,L2)]) (dp E25 (aA (aE [qT E4,uT,DU,eJ 6 L2,fV,dE 198 [L4,qU]] [(11,L5)]) (aA (aE [rA qU V0] [(26,L0)]) (dp E26 (aE [] [(12,v (.int .i64 225))]) .skip))) .skip)) (aA (aA (aE [sw sT V0] [(27,L0)]) (dp E27 (aA (aE CU [(9,sT)]) .ret) .skip)) (aA (aE [qT E3,o8 [n0,n0,n0,n0,n0,n0,.int .u64 0,.str []] [(0,1,eX),(3,1,qU)],C5,lM,ly,fK 1 E8 L3] [(9,L4)]) .ret)))) .skip
abbrev Ti:List cr:=[xu,wX,dU,TS]
abbrev K5:cr:=g L0 true (.una .not L1)
abbrev Gg:cr:=je 1 yu V0
abbrev U9:List cr:=[wX,cf,Gg,ux,dE 148 [L1,L3],ul,uO,gl,Gq]
abbrev Vd:az:=dp E37 (aE [wX,cf,Gg,ux,je 1 yu V1,xn L4,dE 167 [L1,L3,L5],Bn,Bh,fK 1 PR L7] [(22,L8)]) .skip
abbrev T6:az:=dp E38 (AO [xn PR,qT E7,i (.callv L1 [E1]),dE 41 [L0,L2],Ho,HJ] [(22,L5)] [(0,3)]) .skip
abbrev UO:cr:=g L2 false (.fld 0 E2)
abbrev Ve:az:=dp E9 (aA (aE [gx,oC,ct,eJ 22 L2,fV,dE 41 [L1,L4],GR,GP] [(6,L6),(7,L7)]) (aA (aA (aE [sw E7 V0,Yt,g L0 false (ld L1),g L0 false (.bin .eql L2 fT),g L0 false (.mov L3),g L4 true (.mov E6),g L4 true (.bin .neq L5 eX),g L0 false (.pick L4 L6 Vf),g L0 false (.mov L7),g L8 true (.mov E6),g L8 true (.bin .neq L9 V0),g L0 false (.pick L8 mA Vf),gP L0 Vt nK] [(10,vR)]) (dp oG (aA (aE [] [(3,V0),(4,v (.int .i64 201))]) .ret) .skip)) (aA (aE [gO,cf,mj L1 lw,UO,HO,g L2 false (.bin .eql L4 jt),MJ] [(11,L6)]) (dp qU (aE [] [(5,E6)]) .skip)))) .skip
abbrev T9:List cr:=[ct,pp,wO,dT,i (.mkfn 275 [] [E2]),dE 276 [L3,L4]]
abbrev Te:az:=dp sT (aA (aE [ct,pp,wO,dT,sP] [(8,L4)]) (AO [ct,pp,wO,dT,Au,oc 2 [L4],rr 2 L3 L5,ct,eJ 23 L7,qT L8,oc 1 [E5],rr 1 L9 mA,ct,eJ 10 vR,eJ 7 rh,fK 1 BV L6,ct,eJ 23 AD,fK 1 As nK] [] [(7,0),(8,0),(9,0)])) .skip
abbrev T8:az:=dp tA (aA (aE [] [(3,V0),(4,v (.int .i64 228))]) .ret) .skip
abbrev TN:List cr:=[ct,pp,F1,dT,sP,wg L4 E8]
abbrev Ua:cr:=o8 [n0,n0,n0,n0,n0,n0,.int .u64 0,.str []] [(0,1,E0)]
abbrev Ur:az:=dp NJ .skip vY
abbrev Vb:cr:=g L0 false (.mov E8)
abbrev UY:cr:=g L0 false (.mov E5)
abbrev Mb:cr:=g L0 false (.len L2)
abbrev TO:cr:=g L0 false (.bin .gtr L1 L3)
abbrev Vu:cr:=g L5 false (.una .not L7)
abbrev La:az:=aA (aE uy Of) .ret
abbrev TV:az:=dp Q3 La .skip
abbrev UB:List cr:=[o8 [n0,n0] [(0,1,jU),(1,1,jU)],o6 2 (v (.agg [n0,n0])),yC]
abbrev Ty:cr:=g L0 false (.bin .eql L1 eX)
abbrev Lv:az:=aA (aE [] [(1,V1)]) .ret
abbrev Uy:az:=dp E4 (aA (aE [] [(1,eX)]) .ret) .skip
abbrev Vk:cr:=g L0 true (.pick L3 Vt L5)
abbrev Ul:List cr:=[je 9 tA ER,Wo,LG,Ou]
abbrev Gv:az:=aA qN (aA (ee 1 (aA ti (aA (aE [je 2 E0 E3,nH,xf] oU) tp))) sI)
abbrev Gh:cr:=o8 [n0,n0,.int .u64 0,.str []] []
abbrev Vr:cr:=i (.eqa false [0,0,0,2] L1 L2)
abbrev Ux:cr:=g L3 true (.fld 3 E1)
abbrev Ts:dd:=v (.str [78,85,76,76])
abbrev S0:cr:=dE 51 [E0,jt,L0,L3]
abbrev LJ:dd:=v (.str [67,79,85,78,84])
abbrev Tz:cr:=dE 73 [E0,jt,L0]
abbrev Lh:az:=aE [oc 1 [v (.str [41])],Tz] []
abbrev gl0:aq:=.agg [.str [98,111,111,108],.int .i64 1,.str [105,110,116],.int .i64 2,.str [116,101,120,116],.int .i64 3]
abbrev gl1:aq:=.agg [.str [83,69,76,69,67,84],.str [68,73,83,84,73,78,67,84],.str [70,82,79,77],.str [76,69,70,84],.str [74,79,73,78],.str [79,78],.str [87,72,69,82,69],.str [71,82,79,85,80],.str [66,89],.str [72,65,86,73,78,71],.str [85,78,73,79,78],.str [65,76,76],.str [79,82,68,69,82],.str [76,73,77,73,84],.str [65,83,67],.str [68,69,83,67],.str [65,83],.str [65,78,68],.str [79,82],.str [78,79,84],.str [73,83],.str [78,85,76,76],.str [84,82,85,69],.str [70,65,76,83,69],.str [67,79,85,78,84],.str [83,85,77],.str [77,73,78],.str [77,65,88]]
def ad0:az:=aA acS (aA (dp NJ .skip pS) (aA (ee 1 (aA (aE alY [(12,L2)]) (aE [eJ 0 sT,cf,rr 1 qU L1] KP))) SU))
def anx:az:=aA XU (aA (aA (aE [dE 162 [],zm] [(14,L1)]) (dp yu xO .skip)) (aA (aE [sh,dE 222 [L0],gl,lV] pL) (aA (aE aaH [(5,L7),(6,L6)]) (aA (aA (aE xZ xV) (dp ER Fz .skip)) (aA (aE [AZ,lh 3 E5,Vi,lM,ly,Pa,Kd,TW] [(7,L6),(6,L5)]) (aA (aA (aE xZ FT) (dp Gc Fz .skip)) (aA (aE [AZ,lh 5 E7,Vz,lM,ly,gl,yE] [(8,L5),(6,L4)]) (aA (aA (aE xZ Fc) (dp Kg xO .skip)) (aA (aE [xn E8,dE 183 [L0],mZ,ny] [(9,L2),(6,L3)]) (aA (aA (aE [xn E8,Vh,mZ,ny] [(10,L3)]) (aA (aE [sw E6 V0,g L0 false (.mov oG),YR,AI,ag0,g L3 false (.fld 2 E7),g L3 false (ld L5),g L3 false (.call 184 [L4,L6] false),g L3 false (.una .not L7),gP L3 Vt L8] [(18,L9)]) (dp Q3 xO .skip))) (aA (aE CT xS) (aA (aA (aE Yk [(19,L1),(20,L2),(21,V0)]) (ee 0 (.loop [12,22] ad0))) (aA (aE [dE 43 [qU]] []) (aA (aE [LF,cf,LF,dT,sP,DD L4 V1,je 12 L1 L5,lh 12 L6,ur,fK 12 L8 L7] [(13,L8)]) (aA (aE [xn E8,dE 398 [L0],dE 48 [qU],dE 184 [L1,L2],g L3 true (.fld 0 tA),xl,g L3 true (.bin .eql L5 Bj),D9,g L7 true (.fld 11 tA),Hj,g L7 true (.fld 4 E7),g L7 true (ld mA),g L7 true (.bin .eql L9 nK),gP L7 vR Vf,g rh true (.fld 10 tA),Rm,g rh true (.fld 3 E7),g rh true (ld AD),g rh true (.call 399 [FY,As] false),gP rh TH Vf] [(3,PT)]) .ret)))))))))))))))
def avd:br:=⟨23,2,.pure,[.env 3],anx⟩
def amM:az:=aA (aE CE HV) (aA (aA (aE [dE 162 [],zm] [(15,L1)]) (dp ER Qo .skip)) (aA (aE [vM,dE 222 [L0],gl,lV] qP) (aA (aE aaH [(6,L7),(7,L6)]) (aA (aA (aE [sw E7 V0] FT) (dp Gc (aA (aE [] [(4,Vt)]) .ret) .skip)) (aA (aE [BI,lh 3 E6,Vi,lM,ly,Pa,Kd,TW] [(8,L6),(7,L5)]) (aA (aA (aE [sw E7 V0] Fc) (dp Kg (aA (aE [] [(4,Vt)]) .ret) .skip)) (aA (aE Y9 [(9,L5),(7,L4)]) (aA (aE [i (.maxs E2 [jU]),i (.bin .rem L0 Sx),eJ 3 E8,R3,eJ 4 E8,Qx] []) (aA (aE Y9 [(10,L5),(11,L4)]) (aA (aA (aE [sw E7 V0,g L0 false (.mov qU),YR,AI,g L3 false (.fld 0 E9),DB,Sa,g L3 false (.fld 0 oG),g L3 false (ld L7),g L3 false (.len L8),g L3 false (.bin .neq L6 L9),gP L3 Vt mA] [(18,nK)]) (dp Q3 Qo .skip)) (aA (aE [Mh,cf,gv] [(12,L2)]) (aA (aA (aE [rA sT eX] [(19,L0)]) (dp PP Qo .skip)) (aA (aE [xn E9,DD sT eX,dE 290 [L0,L1],lM,ly,gl,yE] [(13,L5),(7,L4)]) (aA (aE [xn oG,DD sT eX,dE 290 [L0,L1],lM,ly,gl,yE] [(14,L5),(11,L4)]) (aA (aE [mj E7 V0,g L0 true (.mov qU),Yh,rE,g L3 true (lt tA),g L3 true (lt yu),g L3 true (.call 401 [L4,L5] false),D9,g L7 true (.fld 0 oG),Hj,g L7 true (.mov sT),g L7 true (.bin .sub mA V1),g L7 true (.idxs 12 L9 nK),g L7 true (.fld 11 vR),g L7 true (ld rh),g L7 true (.fld 4 E8),g L7 true (ld FY),g L7 true (.bin .eql BV AD),gP L7 As Vf] [(4,TH)]) .ret)))))))))))))))
def avj:br:=⟨20,3,.pure,[.env 4],amM⟩
def zR:az:=aA acS (aA (dp NJ .skip pS) (aA (ee 1 (aA (aE alY [(11,L2),(10,PR)]) (aA (aE [AZ,lh 9 qU,dE 219 [L0,L1],lM,ly,gl,yE] [(12,L5),(13,L4)]) (aA (aA (aE [sw tA V0,g L0 false (.mov E9),g L0 false (.fld 0 sT),SH,RW,g L0 false (.bin .add L1 L4),g L0 false (.fld 0 E8),g L0 false (ld L6),g L0 false (.len L7),g L0 false (.bin .gtr L5 L8),gP L0 Vt L9] [(23,mA)]) (dp E23 xO .skip)) (aA (aE [xn E8,eJ 0 sT,dU,Bq,wg E9 L3,DD L4 V1,dE 290 [L0,L5],Bn,Bh,gl,fK 1 L9 L7] [(14,L9),(13,L8)]) (aA (aA (aE [sw tA V0,g L0 false (lt yu),g L0 false (lt sT),g L0 false (.call 401 [L1,L2] false),g L0 false (.una .not L3),LB] [(24,L5)]) (dp E24 xO .skip)) (aA (aE [eJ 0 sT,cf,gv,wg E9 L2] [(9,L3)]) (aA (aE [Gf oG V0] [(25,L0)]) (dp E25 (aA (aA (aE [LF,cf,gv,PQ E9 L2,g L3 false (.fld 0 E8),DB,ag0,g L3 false (.idxs 12 L5 L6),g L3 false (.fld 0 L7),g L3 false (ld L8),g L3 false (.bin .neq L9 Ez),gP L3 Vt mA] [(26,nK)]) (dp E26 xO .skip)) ze) .skip))))))))) SU))
def T7:az:=aA XU (aA (aA (aE [dE 162 [],zm] [(15,L1)]) (dp ER xO .skip)) (aA (aE [sh,dE 222 [L0],gl,lV] pL) (aA (aE aaH [(5,L7),(6,L6)]) (aA (aA (aE xZ FT) (dp Gc Fz .skip)) (aA (aE [AZ,lh 3 E5,Vi,lM,ly,Pa,Kd,TW] [(7,L6),(6,L5)]) (aA (aA (aE xZ Fc) (dp Kg Fz .skip)) (aA (aE [AZ,lh 5 E7,Vz,lM,ly,gl,yE] [(8,L5),(6,L4)]) (aA (aA (aE xZ [(18,L0)]) (dp Q3 xO .skip)) (aA (aE [] [(9,V0)]) (aA (aA (aE Yk [(19,L1),(20,L2),(21,V0)]) (ee 0 (.loop [3,10,11,12,13,14,22,23,24,25,26] zR))) (aA (aE [LF,cf,gv,DD L2 V1,mj E9 L3] EH) .ret)))))))))))
def aso:br:=⟨27,2,.pure,[.env 3],T7⟩
def alh:az:=aA (aE [] [(0,Vf)]) (aA (aE [dE 120 [],dE 121 [L0,v (.str [83,69,76,69,67,84,32,98,32,70,82,79,77,32,116,32,87,72,69,82,69,32,97,32,61,32,49])],mZ,ny,DS,RU,fK 2 L5 L2] [(1,L5),(2,L3),(3,L4)]) (aA (aE [dE 120 [],dE 121 [L0,v (.str [83,69,76,69,67,84,32,122,32,70,82,79,77,32,116])],mZ,ny,DS,RU,fK 2 L5 L2] [(4,L4)]) (aA (aE [mj E3 V0,g L0 true (.mov E2),Yh,rE,g L3 true (.mov E4),g L3 true (.bin .eql L4 (v (.int .i64 222))),gP L3 L5 Vf,g L6 true (.fld 0 E1),g L6 true (lt L7),g L6 true (.call 185 [L8] false),g L6 true (.mkl 1 [V1,fT,jt,Bj]),g L6 true (.call 186 [L9,mA] false),gP L6 nK Vf,Ze,Rs,g vR true (.len BV),g vR true (.bin .eql FY V1),gP vR AD Vf,g As true (.fld 1 E1),QM,g As true (.idxs 1 PT V0),g As true (ld L20),g As true (.bin .eql L21 (v (.str [98]))),gP As PO Vf] [(0,L23)]) .ret)))
def avg:br:=⟨5,0,.pure,[.env 0],alh⟩
def Cc:az:=aA zA (aA yP (aA (ee 1 (aA (aE abP [(5,L2),(4,E8)]) (AO [pu,cf,pu,dT,DR,wZ,dE 224 [L5,jt],Lg,qT L7,dE 225 [L8,jt],je 3 L1 E4,eJ 1 mA,fK 1 nK L6,je 3 L3 E4,eJ 2 rh,fK 1 BV L9] [] [(2,13),(3,13)]))) wN))
def afL:az:=aA (aE [uS,gl] I7) (aA (aE [uf,cf,dE 226 [L1,jt],Xf,gl,RX] EH) (aA (aA (aE LZ Qf) (ee 0 (.loop [4,5,9] Cc))) (aA (aE [vM,Hm] []) .ret)))
def auS:br:=⟨10,1,.pure,[.cell true 1 2],afL⟩
def aai:az:=aA (aE Hz [(1,L0),(2,V0),(3,V0)]) (aA (aE [dE 123 [E0,v (.fn 127 [] [])],D2,K7,EU 2 L0,fK 3 E1 L1] [(2,L2),(3,L3)]) .ret)
def ath:br:=⟨4,1,.pure,[.cell true 3 1,.env 2,.env 3],aai⟩
def Em:az:=aA (aE [rA E29 E28] [(30,L0)]) (aA (dp E30 .skip vY) (aA (ee 3 (aA (aE [je 3 E27 E29,K9,Mk,Qd] [(15,L2)]) (aA (aE [lh 3 ER,eJ 1 E9,dU,dE 189 [L0,L2],Ho,HJ] [(16,L4),(17,L5)]) (aA (aA (aE [sw Kg V0] [(31,L0)]) (dp E31 (aA (aE Ra [(5,v (.int .i64 90)),(6,Kg)]) .ret) .skip)) (aE [eJ 3 E9,cf,eJ 2 ER,dT,o8 [n0,nf] [(0,1,Gc),(1,1,L3)],oc 2 [L4],rr 2 L1 L5,eJ 3 E9,QJ] []))))) (aE [wg E29 V1] [(29,L0)])))
def zi:az:=aA (aE [rA NJ PR] [(23,L0)]) (aA (dp E23 .skip pS) (aA (ee 1 (aA (aE ZP [(11,L2),(10,NJ)]) (aA (aE abj [(12,L6)]) (aA (aA ZU (aA (aE [sw tA V0] [(24,L0)]) (dp E24 (aA (AO [He,iMu Ep oG,Pg sT,eJ 24 L2,fV,wg L1 L4,DV] [(5,L5),(6,tA)] [(2,7),(3,7),(4,7)]) .ret) .skip))) (aA (aA (aE [dE 169 [sT]] yy) (aA (aE [mj oG V0] [(25,L0)]) (dp E25 (aE [dE 170 [sT],eJ 1 E9,mi,eJ 2 E9,fK 1 L3 yu] []) (aA (aE [eJ 2 E9,cf,dE 190 [L1,yu],G5] [(26,L3)]) (dp E26 (aA (aE [He,iMu Ep oG,wg L1 xK,DV] [(5,L2),(6,v (.int .i64 229))]) .ret) .skip))))) (aE XX [])))))) (aE [wg NJ V1] [(22,L0)])))
def WY:az:=aA (aE [uS,o6 3 E1,Kd] [(2,L0),(3,L1),(4,L2),(5,V0),(6,V0)]) (aA (aA (aE QH xJ) (aA (aE [sw E7 V0] [(18,L0)]) (dp Q3 (aA (aE Ra [(5,V0),(6,E7)]) .ret) .skip))) (aA (aA (aE [lh 3 E3,dE 135 [L0]] wa) (aA (aE Jp [(19,L0)]) (dp PP (aA (aE Ra [(5,V0),(6,E8)]) .ret) .skip))) (aA (aE [eJ 2 E3,cf,o8 [.ai,.ai,.ai,.ai,n0] [(4,1,L1)],Kd,fK 5 L3 L2] [(9,L3)]) (aA (aA (.lift 9 0 9 (aE LZ [(20,L1),(21,L2),(22,V0)])) (ee 0 (.loop [9999,5,6,10,11,12,13,14,23,24,25,26] zi))) (aA (aA (.lift 9 3 2 (aE [DM,cf,gv] [(27,L1),(28,L2),(29,V0)])) (ee 2 (.loop [9999,5,6,15,16,17,30,31] Em))) (aA (aE [lh 5 E9,DV] [(5,V0),(6,V0)]) .ret))))))
def arY:br:=⟨32,2,.pure,[.cell true 5 4,.env 5,.env 6],WY⟩
def nG:az:=aA IA (aA (dp E20 .skip pS) (aA (ee 1 (aA (aE [je 9 Kg PP,Wo,ahQ,Ou] [(10,L2),(9,PP)]) (aA (aE [sh,lh 9 oG,dE 172 [L0,L1],lM,ly,gl,yE] [(11,L5),(12,L4)]) (aA (aA (aE [sw sT V0] [(21,L0)]) (dp PR (aA (aE IN [(5,sT)]) .ret) .skip)) (aE [xn qU,i (.callv E8 [E9,L0])] []))))) HS))
def aeT:az:=aA (aE abT GZ) (aA (aA Ly (aA (aE xZ xV) (dp ER (aA (aE IN [(5,E6)]) .ret) .skip))) (aA (aA (aE [pu,cf,gv,rA L2 V1,g L3 false (.fld 0 E3),DB,Sa,g L3 false (.bin .gtr L6 fT),gP L3 Vt L7] [(16,L8)]) YF) (aA (aE abQ D5) (aA (aE [i (.mkfn 182 [] [E7])] wT) (aA (aA (aE LZ Ha) (ee 0 (.loop [5,9,10,11,12,20,21] nG))) (aA (aE aaV []) (aA (aE Zj [(13,L5),(14,L6)]) (aA (aA (aE [qT E7,uT,eJ 11 L1,dT,g L3 false (.mov yu),g L3 false (.bin .neq L4 V0),IT,g L6 false (.mov tA),g L6 false (.len L7),g L6 false (.fld 1 E3),g L6 false (ld L9),g L6 false (.len mA),g L6 false (.bin .neq L8 nK),gP L6 Vt vR,g rh false (.mov tA),g rh false (.fld 2 E3),g rh false (ld FY),g rh false (.call 184 [BV,AD] false),g rh false (.una .not As),gP rh Vt TH] [(22,PT)]) aa0) (aA (aE aa8 [(5,V0)]) .ret)))))))))
def ar4:br:=⟨23,2,.pure,[.cell true 1 4,.env 5],aeT⟩
def Xs:az:=aA (aE Dx Mp) (aA (aE aaD [(4,L2),(5,L3),(6,L4)]) (aA (aA (aE HF nY) (dp E7 (aA (aE uy [(2,L0),(3,Ql)]) .ret) .skip)) (aA (aE [Pg E4,jj,dU,je 1 L2 E5,fV,P9] [(2,L5),(3,V0)]) .ret)))
def as1:br:=⟨8,1,.pure,[.env 2,.env 3],Xs⟩
def Y2:az:=aA (aE CE [(1,L0),(2,V0),(3,V0)]) (aA (aE aaD [(4,L3),(5,L4)]) (aA (aA (aE [i (.una .not E5)] lK) (dp E6 (aA (aE [] [(2,E4),(3,Ql)]) .ret) .skip)) (aA (aE [] [(2,V0),(3,V0)]) .ret)))
def atc:br:=⟨7,1,.pure,[.env 2,.env 3],Y2⟩
def C0:az:=aA Ss (aA SL (aA (ee 1 (aA Qy (aA (aE Ye [(8,L4)]) MR))) R0))
def Uj:az:=aA kR (aA Lu (aA (aA Rc (ee 0 (.loop [2,3,7,8] C0))) Bb))
def asw:br:=⟨9,2,.pure,[.env 2],Uj⟩
def adu:az:=aA Dy (aA A7 (aA (ee 1 (aA (aE [je 12 E7 E9,ED,ur,DH] qP) (aA (aE [uC,cf,Jo] KP) (dp qU (aE [eJ 3 E5,cf,yS,rr 1 E4 L2] [(4,L3)]) .skip)))) ze))
def akx:az:=aA QN (aA (aA (aE [Bv,Vh,mZ,ny] sC) (aA (aE [sw E3 V0] lK) (dp E6 (aA v6 .ret) .skip))) (aA RC (aA (aA (aE Dz [(7,L1),(8,L2),(9,V0)]) (ee 0 (.loop [5,10,11] adu))) (aA (aE [dE 43 [E4]] []) (aA (aE [dE 48 [E4]] iM) .ret)))))
def avc:br:=⟨12,1,.pure,[.env 2],akx⟩
def Dc:az:=aA (aA (aE [vU E3,rA E4 L0] wa) (dp E8 .skip vY)) (aA (ee 3 (aA (aE [je 1 E3 E4,cf,DD E4 V1,je 1 E3 L2,fV,sw L1 L4] [(9,L5)]) (dp E9 (aA (aE [je 1 E3 E4,cf,je 1 E0 E2,lV] []) Sv) .skip))) RV)
def tx:az:=aA (aA (aE [v8,rA E2 L0] sA) qN) (aA (ee 1 (aA (aE [je 1 E0 E2,cf,DD E2 V1,je 1 E0 L2,fV,mj L1 L4] [(7,L5)]) (dp E7 (aA (aE [YB] kz) (aA (aA (aE [] [(4,V1)]) (ee 2 (.loop [8,9] Dc))) (aA (aE [YB,i (.clr (.int .i64 0) L0)] []) (aA (aE [i (.slice 1 E0 none (some E2))] my) .ret)))) .skip))) Sv)
def Tu:az:=aA mw (aA (aA (aE [v8,rA L0 eX] xc) (dp E5 (aA (aE [] [(1,E0)]) .ret) .skip)) (aA (aA (aE [] [(2,V1)]) (ee 0 (.loop [1,3,4,6,7,8,9] tx))) (aA (aE [] [(1,E0)]) .ret)))
def asi:br:=⟨10,1,.keep,[.env 1],Tu⟩
def F7:az:=aA Ss (aA SL (aA (ee 1 (aA Qy (aA (aE [je 2 E0 E3,nH,je 2 E1 E3,lh 2 L2,i (.eqa true [0,1] L1 L3)] [(8,L4)]) MR))) R0))
def agH:az:=aA kR (aA Lu (aA (aA Rc (ee 0 (.loop [2,3,7,8] F7))) Bb))
def auE:br:=⟨9,2,.pure,[.env 2],agH⟩
def Gk:az:=aA (aA (aE [iLq E8 E1] xS) (dp qU .skip (.exit 1))) (aA (ee 2 (aE [yw,cf,gO,dT,je 12 L3 E8,lh 12 L4,Pg E5,eJ 2 L6,qT L7,je 1 L8 E1,qT L9,i (.una .neg mA),dE 69 [L5,nK],oc 12 [vR],rr 12 L1 rh,yw,fK 1 FY BV] [])) wN)
def ahd:az:=aA (aE [uS,gl] Ij) (aA (aE [sh,dE 77 [L0],mZ,ny,DS] [(5,L2),(6,L4)]) (aA (ee 0 (aA (aE HF pW) (dp E9 (aA (aE Ev [(4,Ql)]) .ret) (aA (aE [rA E1 V0,Qa,Yt,SH,RW,abo,Nn] [(10,L6)]) (dp oG (aA (aE Ev [(4,eX)]) .ret) .skip))))) (aA (aE BJ nY) (aA (aA (.lift 7 0 12 (aE [Pg E5,eJ 2 L0,dU,je 1 L2 E1,fV] [(8,L4)])) (ee 1 (.loop [11] Gk))) (aA (aE [xn E7,M7] [(4,V0)]) .ret)))))
def auC:br:=⟨12,2,.pure,[.cell true 1 3,.env 4],ahd⟩
def ag1:az:=aA (aE [uS,py] HH) (aA (aE [gO,cf,pu,dT,dE 404 [L1,L3,v (.fn 405 [] [])]] [(4,L4)]) .ret)
def atJ:br:=⟨5,2,.pure,[.env 4],ag1⟩
def afD:az:=aA (aE [uS,o6 9 E1,gl] GZ) (aA (aA Ly (aA (aE xZ nY) (dp E7 (aA (aE IN [(5,E6)]) .ret) .skip))) (aA (aE [sh,lh 9 E3,dE 172 [L0,L1],lM,ly,Qn] [(5,L4)]) .ret))
def atU:br:=⟨8,2,.pure,[.cell true 1 4,.env 5],afD⟩
def alB:az:=aA (aE [uS,RU] YS) (aA (aA Ly (aA (aE xZ yF) (dp sT (aA (aE Nq [(4,V0),(5,E6)]) .ret) .skip))) (aA (aE [dE 122 [E1],D2,K7,EU 2 L0,OI,fK 3 L4 L1] [(7,L4),(8,L2),(9,L3)]) (aA (aA (aE [sw E9 V0] Bo) (dp tA (aA (aE Nq [(4,E8),(5,E9)]) .ret) .skip)) (aA (aE [sh,lh 3 E7,Vi,lM,ly,Pa,Kd,TW] [(10,L6),(8,L4),(9,L5)]) (aA (aA (aE [sw E9 V0] yy) (dp yu (aA (aE Nq [(4,E8),(5,E9)]) .ret) .skip)) (aA (aE [sh,lh 5 oG,Vz,lM,ly,gl,yE] [(11,L5),(9,L4)]) (aA (aA (aE [sw E9 V0] xV) (dp ER (aA (aE Nq [(4,V0),(5,E9)]) .ret) .skip)) (aA (aE [xn qU,eJ 1 oG,dU,o8 [.ai,.ai] [(0,1,L0),(1,1,L2)],fK 2 E3 L3] [(4,V0),(5,V0)]) .ret))))))))
def avb:br:=⟨16,2,.pure,[.cell true 2 3,.env 4,.env 5],alB⟩
def am6:az:=aA (aE BJ [(0,L0)]) (aA (aE [Yd,o8 [.str [],n0] [(0,1,v (.str [98])),(1,1,fT)],oc 2 [L0,L1],o8 [.str [],.ai,.ai] [(0,1,v (.str [116])),(1,1,L2)],Yd,oc 2 [L4],o8 [.str [],.ai,.ai] [(0,1,v (.str [117])),(1,1,L5)],oc 3 [L3,L6],o8 [.ai] [(0,1,L7)],fK 1 E0 L8] []) .ret)
def avh:br:=⟨1,0,.pure,[.cell true 1 0],am6⟩
def ada:az:=aA (aA (aE [v8,rA E3 L0] xc) Mv) (aA (ee 1 (aA (aE Ye [(6,L4)]) (dp E6 EA .skip))) (aE [wg E3 V1] kz))
def aox:az:=aA kR (aA Lu (aA (aA Qe (ee 0 (.loop [2,5,6] ada))) Bb))
def ave:br:=⟨7,2,.pure,[.env 2],aox⟩
def acI:az:=aA QG (aA Lr (aA (ee 1 (aA (aE [je 12 E5 E7,ED,ur,DH] pL) (aE [EM,cf,yS,rr 1 E3 L2] sC))) Sf))
def ame:az:=aA QN (aA RS (aA (aA (aE Dz [(5,L1),(6,L2),(7,V0)]) (ee 0 (.loop [4,8] acI))) MD))
def avi:br:=⟨9,1,.pure,[.env 2],ame⟩
def Vm:az:=aA v6 (aA (aE [iMn 3,v8,R9,i (.slice 3 E0 none (some L2)),rr 3 L0 L3] [(2,L4)]) .ret)
def asr:br:=⟨3,2,.keep,[.env 2],Vm⟩
def U6:az:=aA v6 (aA (aE [iMn 2,v8,R9,i (.slice 2 E0 none (some L2)),rr 2 L0 L3] [(2,L4)]) .ret)
def ast:br:=⟨3,2,.pure,[.env 2],U6⟩
def Th:az:=aA v6 (aA (aE [iMn 1,v8,R9,i (.slice 1 E0 none (some L2)),rr 1 L0 L3] [(2,L4)]) .ret)
def asn:br:=⟨3,2,.pure,[.env 2],Th⟩
def NU:az:=aA (aE Hz Et) (aA (aE Hz oz) (aA (aE [dE 124 [E0],D2,K7,EU 2 L0] [(6,L1),(7,L2),(8,L3)]) (aA (aA (aE Jp xS) (dp qU (aA (aE [lh 3 E5,QD] [(3,E7),(4,E8)]) .ret) .skip)) (aA (aE [yx,o8 [.ai,n0,n0,n0] [(0,1,E6),(1,1,L0)],o6 4 L1] zq) (aA (aE [i (.callv E1 [E9]),OI,fK 3 L1 L0] HD) (aA (aA (aE [Pg E9,mh,dU,Bq,Gf L3 V0] [(12,L4)]) (dp sT (aE [dE 108 [E9],dE 192 [E9,SI,L0]] []) .skip)) (aA (aA (aE [Pg E9,IC,dU,sw L2 V0] [(13,L3)]) (dp tA (aA (AO [lh 3 E5,Pg E9,eJ 2 L1,dT,Pg E9,eJ 3 L4,sx,QD] [(3,L3),(4,L6)] [(1,8),(2,8),(3,8),(4,8),(5,8),(6,8)]) .ret) .skip)) (aA (aE [lh 3 oG,QD] [(3,V0),(4,V0)]) .ret))))))))
def asc:br:=⟨14,2,.pure,[.cell true 3 2,.env 3,.env 4],NU⟩
def vo:az:=aA (aA (aE [oc 1 [v (.str [85,78,73,79,78])],RQ] xC) (dp E3 .skip pS)) (ee 1 (aA (aA (aE [gO,cf,gv,mj L2 fT] [(4,L3)]) (dp E4 IR .skip)) (aA Bs (aA (aE [oc 1 [v (.str [65,76,76])],sF] []) (AO [gO,cf,dE 128 [E0],i (.mksl 9 [L2]),rr 9 L1 L3,gO,fK 1 L5 L4] [] [(0,3),(0,4),(1,3),(1,4)])))))
def aau:az:=aA (aE Hz my) (aA (aE aaf vV) (aA (ee 0 (.loop [3,4] vo)) (aA (aA (aE [dE 18 [E0,V1,v (.str [79,82,68,69,82])]] oz) (dp E5 (aA (aE [oc 1 [v (.str [66,89])],sF] []) (aE [i (.mkfn 194 [E0] []),dE 195 [E0,fT,L0],gx,lV] [])) .skip)) (aA (aA (aE [dE 18 [E0,V1,v (.str [76,73,77,73,84])]] lK) (dp E6 (aE [dE 193 [E0],oS,mi] []) .skip)) SC))))
def ar0:br:=⟨7,1,.trunc,[.cell true 3 1],aau⟩
def X3:az:=aA Rj (aA (aE [UP (v (.fn 52 [] []))] kz) (aA (aA (aE [uf,cf,gv,Gf L2 lw,g L3 false (.fld 0 E1),DB,g L3 false (.mov E3),g L3 false (.call 87 [L5,L6] false),gP L3 Vt L7,g L8 false (.fld 0 E1),g L8 false (ld L9),g L8 false (.call 88 [mA,v (.fn 13 [] [])] false),g L8 false (.una .not nK),gP L8 Vt vR] [(4,rh)]) (dp E4 (aA (aE [] [(2,v (.int .i64 210))]) .ret) .skip)) Ea))
def ats:br:=⟨5,1,.pure,[.env 2],X3⟩
def Dw:az:=aA QG (aA Lr (aA (ee 1 (aA (aE [je 3 E5 E7,K9,Mk,Qd] pL) (aE [Ya,Nb,g E3 true (.bin .eql L1 ky),g E3 true (.mov L2),g L3 true (.fld 1 E4),xl,g L3 true (.call 196 [L5] false),g E3 true (.pick L3 L6 Vf),g E3 true (.mov L7),g L8 false (.fld 0 E4),g L8 false (ld L9),g L8 false (.call 11 [mA] false),g L8 false (.mov nK),g vR true (.fld 1 E4),Rs,g vR true (.bin .eql BV V0),g L8 false (.pick vR FY Vf),g E3 true (.pick L8 Vt AD),gP E3 As Vf] [(3,TH)]))) Sf))
def ah5:az:=aA (aE Ey [(1,L0),(2,V0)]) (aA (aE [uf,cf,gv,Gf L2 V0,g L3 true (.fld 0 E1),xl,Rw,g L3 true (.bin .leq L6 fT),Rz,g L8 true (.fld 1 E1),g L8 true (ld L9),Zh,g L8 true (.bin .leq nK fT),gP L8 vR Vf,g rh true (.fld 2 E1),Rm,g rh true (.bin .eql FY jU),g rh true (.mov AD),g As false (.fld 2 E1),g As false (ld TH),g As false (.call 196 [PT] false),g rh true (.pick As Vt L20),gP rh L21 Vf] [(3,PO)]) (aA (aA (aE abu [(5,L1),(6,L2),(7,V0)]) (ee 0 (.loop [4,8] Dw))) (aA (aA (aE [Eo,XK,g L0 false (ld L1),g L0 false (.call 136 [L2,v (.fn 138 [] [])] false),Se] [(9,L4)]) (dp E9 (aA (aE [] [(2,v (.int .i64 180))]) .ret) .skip)) Ea)))
def arA:br:=⟨10,1,.pure,[.env 2],ah5⟩
def Hx:az:=aA (aE [rA E5 xK] lK) (aA qN (aA (ee 1 (aA (aE [i (.idxv false 6 1 E4 E5)] kz) (aA (aE [i (.callv E3 [])] iM) (aA (aE [sw E2 V0] nY) (dp E7 pS .skip))))) sI))
def an1:az:=aA qC (.scope (aA mr (aA (aA (aE [i (.mkfn 142 [E0] []),i (.mkfn 146 [E0] []),i (.mkfn 147 [E0] []),i (.mkfn 149 [E0] []),i (.mkfn 150 [E0] []),i (.mkfn 168 [E0] []),o8 [.nilf,.nilf,.nilf,.nilf,.nilf,.nilf] [(0,1,L0),(1,1,L1),(2,1,L2),(3,1,L3),(4,1,L4),(5,1,L5)]] [(4,L6),(5,V0)]) (ee 0 (.loop [9999,3,6,7] Hx))) DI)))
def atZ:br:=⟨8,1,.keep,[.env 1],an1⟩
def GQ:az:=aA Dy (aA A7 (aA (ee 1 (aA (aE [LY,oC,gl,lV] pL) (aA (aE [AZ,dE 41 [L0,E2],mZ,ny] qP) (aE [oc 1 [E5],rr 1 E3 L0] xC)))) ze))
def YL:az:=aA mw (aA (aE [ct,eJ 22 L0,dU] rx) (aA (aA (aE [ct,pp,eJ 4 L1,dT] [(6,L3)]) (dp E6 (aE [ct,eJ 23 L0,dU] rx) .skip)) (aA RS (aA (aA (aE [ct,pp,HK,dT,sP] [(7,L3),(8,L4),(9,V0)]) (ee 0 (.loop [9999,4,5,10] GQ))) (aA (aE [] [(1,E3)]) .ret)))))
def ate:br:=⟨11,1,.keep,[.env 1],YL⟩
def xB:az:=aA IA (aA aaQ (aA (ee 5 (aA (aE [QK,nH,Hg,qI] qP) (aA (aE [DR,cf] sA) (aA (aA (aE [uC,mh,dU,uC,eJ 0 L3,wZ,vU L5,DD L6 V1,je 9 L2 L7,lh 9 L8,LG,fK 9 mA L9] [(7,mA)]) (aA (aE [mj E6 ky] [(21,L0)]) (dp PR (aE [eJ 8 E7,cf] sA) .skip))) (aE [oc 1 [E6],rr 1 E2 L0] oY))))) HS))
def Gu:az:=aA Hs (aA Sq (aA (ee 3 (aA (aE [je 2 tA ER,nH,HG,qI] pL) (aE [EM,cf,yS,rr 1 E2 L2] vV))) Ih))
def F3:az:=aA IU (aA Jd (aA (ee 1 (aA (aE [je 1 E9 qU,cf] xC) (aA (aE [ct,mh,wL,dT,je 3 L3 E3,Ji,sx,vU L6] [(13,L6),(14,L7),(15,V0)]) (ee 2 (.loop [9999,4,16] Gu))))) IE))
def aaR:az:=aA mw (aA (aE CT iM) (aA (aA (aE Rh [(8,L3)]) (dp E8 (aA (aE [ct,pp,wL,dT,sP] [(9,L3),(10,L4),(11,V0)]) (ee 0 (.loop [9999,3,4,12,13,14,15,16] F3))) .skip)) (aA (aA (aE PY [(17,L3),(18,L4),(19,V0)]) (ee 4 (.loop [9999,5,6,7,20,21] xB))) DI)))
def as3:br:=⟨22,1,.keep,[.env 1],aaR⟩
def oN:az:=aA zA (aA yP (aA (ee 1 (aA (aE [je 1 E6 E8,cf] [(3,E8),(4,L1)]) (ee 2 (aA (aE [zg,cf,MX] [(10,L2)]) (dp oG (aE [zg,fK 1 L0 E4] []) (aA (aE [sw E4 V0,Sy,yY,g L0 true (.mov E3),g L0 true (.idxs 1 L2 L3),g L0 true (ld L4),g L0 true (.bin .neq L1 L5),SD] [(11,L7)]) (dp qU EA .skip))))))) wN))
def Va:az:=aA kR (aA (aA (aE P5 qP) (dp E5 EA .skip)) (aA (aA (aE BN [(6,E1),(7,L0),(8,V0)]) (ee 0 (.loop [2,3,4,9,10,11] oN))) Bb))
def asg:br:=⟨12,2,.keep,[.env 2],Va⟩
def QS:az:=aA (aE Ey Et) (aA (aA (aE [gO,cf,mj L1 ky] uu) (dp E6 (aA (aA (aE [gx,cf,rA L1 V1,g L2 false (.fld 1 E2),HO,g L2 false (.mov E1),abN,g L2 false (.bin .gtr L4 L6),gP L2 Vt L7] [(7,L8)]) (dp E7 Ln .skip)) (aA (aE [gx,cf,DD L1 V1] [(3,L2),(4,V0)]) .ret)) .skip)) (aA (aE [gO,cf,dE 6 [E1,L1]] qP) (aA (ee 0 (aA (aE [rA E5 V0] wT) (dp E8 Ln (aA (aE [MW,i (.slice 1 E1 (some L0) none),gO,dT,dE 5 [L1,L3]] [(9,L4)]) (dp E9 (aA (aE [] [(3,V0),(4,v (.int .i64 223))]) .ret) .skip))))) (aA (aE [] [(3,E5),(4,V0)]) .ret))))
def arV:br:=⟨10,2,.pure,[.env 3,.env 4],QS⟩
def Z4:az:=aA (aE [py] kz) (aA (aA (aE [mj E0 V0] ji) (dp E4 (aA (aE [qT E2,vM,uT,eJ 10 L2,fK 1 L3 L1] []) .ret) .skip)) (aE [qT E2,o8 [n0,n0,n0,n0,.ai,nf,.ai,.ai,.ai,.ai,.ai,n0] [(0,1,Ez)],vM,oc 1 [L2],dE 118 [L0,L1,L3]] []))
def atd:br:=⟨5,3,.keep,[],Z4⟩
def aba:az:=aA (aE [o6 12 E1] kz) (aA (aA (aE [vU E2,Gf L0 V0] zo) (dp E4 (aA (aE [MH,ct,DU,ux,je 1 E2 V0,xn L4,dE 191 [L0,L3,L5],Bn,Bh,dE 105 [E0,L7,L8]] []) .ret) .skip)) (aE [MH,ct,DU,ux,dE 119 [L0,L3],ul,uO,dE 105 [E0,L5,L6]] []))
def asB:br:=⟨5,3,.keep,[],aba⟩
def tf:az:=aA (aE [rA E9 lw] vT) (aA A7 (aA (ee 1 (aA (aE [i (.idxv false 4 1 E8 E9)] nY) (aA (aE [i (.callv E7 [])] []) (aA (aE [Pg E6,IW,dU] KP) (dp qU Q6 .skip))))) ze))
def abU:az:=aA (aE [uS,o6 9 E1,gl] GZ) (aA (aE [sh,lh 9 E3,o8 [.ai,.ai,.ai,.ai,.ai,nf,nf,.ai,.ai,.ai,.ai,nf] [(0,1,L0),(1,9,L1)],o6 12 L2] [(6,L3)]) (aA (aA (aE [i (.mkfn 173 [E6] []),i (.mkfn 179 [E6] []),i (.mkfn 180 [E6] []),i (.mkfn 181 [E6] []),o8 [.nilf,.nilf,.nilf,.nilf] [(0,1,L0),(1,1,L1),(2,1,L2),(3,1,L3)]] [(8,L4),(9,V0)]) (ee 0 (.loop [5,7,10,11] tf))) (aA (aE [Pg E6,pp,xn L1,fK 1 E4 L2] [(5,V0)]) .ret)))
def asO:br:=⟨12,2,.pure,[.cell true 1 4,.env 5],abU⟩
def ud:az:=ee 1 (aA (aE [i (.una .not E8)] Bo) (dp tA (aA (aE [xu,Hm,fK 1 E3 E7,fK 1 E4 Vf] []) .ret) .skip))
def sB:az:=aA (aE [] [(7,qU)]) (aE [] [(8,sT)])
def NV:az:=aA (aE [uS,Qc,o6 1 V0,o6 1 Vf] [(1,L0),(2,L1),(3,L2),(4,L3)]) (aA (aE [Bv,o8 [.ai,.ai,.ai] [(0,1,L0)],o6 3 L1,Qc,yL] [(5,L3)]) (aA (aE Dz uu) (aA (aA (aE [rA E6 V1,RO,g L0 false (.bin .gtr L1 (v (.int .i64 60))),AI] [(9,L3)]) (dp E9 (aA (aE [xu,Hm,fK 1 E3 V0,fK 1 E4 Vf] []) .ret) .skip)) (aA (aA (aE [xu,dE 78 [L0]] HD) (ee 0 (.rng 14 oG 35))) (aA (AO [xu,DD E6 V1,xu,Pg L2,LC,wZ,DD E6 V1,je 1 L5 L6,qT L7,mj L8 V0,Hm,fK 1 E3 L1,fK 1 E4 L9] [] [(2,11),(2,12),(3,11),(3,12),(4,11),(4,12),(5,11),(5,12),(7,11),(7,12),(8,11),(8,12)]) .ret)))))
def asd:br:=⟨14,1,.keep,[.cell false 1 2,.cell false 1 3,.cell false 1 4],NV⟩
def qG:yH:=⟨14,[11,12],sB,ud⟩
def aeK:az:=aA mw (aA Il (aA (aE [UP (v .ai),rr 1 L0 E0] uK) .ret))
def aum:br:=⟨3,1,.fresh 1,[.env 1],aeK⟩
def F0:az:=aA Io (aA (dp tA .skip vY) (aA (ee 3 (aA (aE [] [(5,sT)]) (AO [EF,cf,EF,dT,je 1 L3 E5,eJ 0 L4,sx,i (.call 64 [L6] true),je 1 L1 E5,eJ 0 L8,fK 1 L9 L7] [] [(0,8),(1,8)]))) Ik))
def F9:az:=aA Dy (aA A7 (aA (ee 1 (aA (aE [] [(4,E9)]) (AO [Bp,cf,Bp,dT,je 2 L3 E4,Ji,eJ 0 L5,qT L6,i (.call 64 [L7] true),je 2 L1 E4,eJ 1 L9,eJ 0 mA,fK 1 nK L8] [] [(0,9),(1,9)]))) ze))
def PI:az:=aA (aE [zu,ur] Mn) (aA (aA (aE [gx,cf,A8] uu) (dp E6 (aE [gx,cf,wg L1 E1,gx,yL] []) .skip)) (aA (aA (aE [oS,cf,A8] oU) (dp E7 (aE [oS,cf,wg L1 E1,oS,yL] []) .skip)) (aA (AO [Nd,cf,i (.call 12 [L1] true),D8,fV,P9,eJ 10 E2,qT L6,i (.call 70 [L7] true),Nd,fK 1 L9 L2,D8,fK 1 nK L5,eJ 10 E2,fK 1 rh L8] [] [(3,0),(4,0),(6,0),(6,3),(7,0),(7,3),(9,3),(9,6)]) (aA (aE [BU,mh,dU,i (.call 64 [L2] true),BU,eJ 0 L4,yE] []) (aA (AO [Bp,cf,i (.call 71 [L1] true),EF,fV,i (.call 72 [L4] true),Bp,fK 1 L6 L2,EF,fK 1 L8 L5] [] [(3,0),(4,0),(6,3)]) (aA (aA (aE abf [(8,L2),(9,V0)]) (ee 0 (.loop [4,10] F9))) (aA (aA (aE Z3 [(11,L2),(12,V0)]) (ee 2 (.loop [5,13] F0))) (aA (aE [lh 12 E2,fK 12 E3 L0] []) .ret))))))))
def ase:br:=⟨14,2,.pure,[.cell true 12 3],PI⟩
def GS:az:=aA ME (aA LH (aA (ee 1 (aA (aE [je 12 E8 oG,ED,ur,DH] Qq) (aA (aE [je 12 E1 E4,ED,ur,DH] uu) (aA (aE [lh 12 E5,lh 12 E6,P3,G5] [(12,L3)]) Sd)))) K8))
def agf:az:=aA KC (aA Rb (aA (aA P6 (ee 0 (.loop [3,4,5,6,11,12] GS))) Fz))
def auV:br:=⟨13,3,.pure,[.env 3],agf⟩
def afH:az:=aA (aE [zu,o6 12 E1] HH) (aA (aE [UP (v (.fn 408 [] []))] oz) (aA (aE [Nd,cf,eJ 4 E3,dT,dE 184 [L1,L3],g L4 true (.fld 7 E2),I4,g L4 true (.fld 7 E3),R6,g L4 true (.call 184 [L6,L8] false),MP,g mA true (.fld 10 E2),g mA true (ld nK),g mA true (.fld 10 E3),g mA true (ld rh),g mA true (.call 399 [vR,BV] false),gP mA FY Vf] [(6,AD)]) (aA (aE [BU,oC,eJ 6 E3,ux,dE 280 [L1,L3],g L4 true (.fld 8 E2),I4,g L4 true (.fld 8 E3),R6,g L4 true (.mov E5),g L4 true (.call 406 [L6,L8,L9] false),gP L4 mA Vf,g nK true (.fld 9 E2),g nK true (ld vR),g nK true (.fld 9 E3),g nK true (ld BV),g nK true (.call 407 [rh,FY,v (.fn 280 [] [])] false),gP nK AD Vf] [(7,As)]) (aA (aE [gO,cf,pu,dT,mj L1 L3,P1,I4,Xk,R6,g L4 true (.bin .eql L6 L8),MP,g mA true (.fld 2 E2),g mA true (ld nK),g mA true (.fld 2 E3),g mA true (ld rh),g mA true (.bin .eql vR BV),gP mA FY Vf,g AD true (.fld 3 E2),g AD true (ld As),g AD true (.fld 3 E3),g AD true (ld PT),g AD true (.bin .eql TH L20),gP AD L21 Vf,g PO true (.fld 5 E2),g PO true (ld L23),g PO true (.fld 5 E3),g PO true (ld L25),g PO true (.eqb false L24 L26),gP PO L27 Vf,g L28 true (.fld 11 E2),g L28 true (ld L29),g L28 true (.fld 11 E3),g L28 true (ld L31),g L28 true (.bin .eql L30 L32),gP L28 L33 Vf,g L34 true (.mov E6),gP L34 L35 Vf,g L36 true (.mov E7),gP L36 L37 Vf] [(4,L38)]) .ret))))
def atF:br:=⟨8,2,.pure,[.env 4],afH⟩
def uv:az:=ee 1 (aA (aA (aE HF xS) (dp qU (aA (AO [DR,cf,fK 1 E1 Vn,fK 1 E2 L1,fK 1 E3 (v (.int .i64 170))] [] [(0,3),(1,3)]) .ret) .skip)) (aE [qT E4,lh 4 E5,oc 4 [L1],rr 4 L0 L2,Qn] []))
def sz:az:=aA (aE [Eu,fK 4 L0 E9] oz) (aE [] [(6,oG)])
def Zr:az:=aA (aE [o6 1 Vn,o6 1 V0,o6 1 V0] [(1,L0),(2,L1),(3,L2)]) (aA (aA (aE [yx,Gf L0 (v (.int .i64 600))] xJ) (dp E7 (aA (aE [fK 1 E1 Vn,fK 1 E2 V0,fK 1 E3 fT] []) .ret) .skip)) (aA (aE [o6 1 Vn] ji) (aA (aA (.lift 4 0 4 (aE [dE 125 [E0]] wT)) (ee 0 (.rng 12 E8 59))) (aA (aE [qT E4,fK 1 E1 L0,fK 1 E2 V0,fK 1 E3 V0] []) .ret))))
def asI:br:=⟨12,1,.pure,[.cell false 1 1,.cell false 1 2,.cell false 1 3],Zr⟩
def pZ:yH:=⟨12,[9,10],sz,uv⟩
def YJ:az:=aA (aE [ct,IC,dU,mj L2 V0] sC) (dp E3 (aE [ct,IC,fK 1 L1 E1,ct,LC,fK 1 L4 E2] []) .skip)
def asy:br:=⟨4,3,.trunc,[],YJ⟩
def Zx:az:=aA qC (aA (aA (aE [ct,mh,dU,Bq,mj L3 V0] [(2,L4)]) (dp E2 (aA (aE [ct,jj,dU] DA) .ret) .skip)) (aA (aE [ct,mh,dU,ML,eJ 1 L3,wZ] [(1,L5)]) .ret))
def atp:br:=⟨3,1,.pure,[.env 1],Zx⟩
def Tv:az:=aA (aE [Nz] my) (aA (aE [oc 1 [v (.str [83,69,76,69,67,84])],sF] []) (aA (aE Zy rx) (aA (aA (aE [dE 18 [E0,jt,LV],gx,mi] []) (aA (aE [gx,cf,xi] xk) (dp E3 (aE [i (.mkfn 130 [E0] []),dE 129 [E0,xK,L0],oS,lV] []) .skip))) (aA (aE [oc 1 [v (.str [70,82,79,77])],sF] []) (aA (aE XT []) (aA (aE aa9 []) (aA (aA (aE [dE 18 [E0,V1,v (.str [87,72,69,82,69])]] ji) (dp E4 (aE [DK,BU,mi] []) .skip)) (aA (aA (aE [dE 18 [E0,V1,v (.str [71,82,79,85,80])]] oz) (dp E5 (aA (aE [oc 1 [v (.str [66,89])],sF] []) (aE [i (.mkfn 113 [E0] []),dE 197 [E0,fT,L0],Bp,lV] [])) .skip)) (aA (aA (aE [dE 18 [E0,V1,v (.str [72,65,86,73,78,71])]] lK) (dp E6 (aE [DK,D8,mi] []) .skip)) (aA (aE [lh 9 E2,fK 9 E1 L0] []) .ret))))))))))
def ar2:br:=⟨7,1,.trunc,[.cell true 9 1],Tv⟩
def Ko:az:=aA KC (aA (aA (aE [ct,IC,dU,sw L2 V0,Q0,g L3 false (.nilck L4),g L3 false (.fld 0 L5),g L3 false (ld L6),g L3 false (.len L7),g L3 false (.bin .eql L8 V0),gP L3 Vt L9,aa4,g mA false (.nilck nK),g mA false (.fld 0 vR),g mA false (ld rh),g mA false (.idxs 4 BV V0),g mA false (.fld 0 FY),g mA false (ld AD),g mA false (.mov E1),g mA false (.bin .neq As TH),gP mA Vt PT] [(4,L20)]) (dp E4 xO .skip)) (aA (aE [vU E2,mj L0 V0,Zo,Xp,g L1 false (.nilck L3),g L1 false (.fld 0 L4),g L1 false (ld L5),g L1 false (.idxs 4 L6 V0),g L1 false (.fld 2 L7),g L1 false (ld L8),g L1 false (.call 5 [L2,L9] false),gP L1 Vt mA] [(3,nK)]) .ret))
def arZ:br:=⟨5,3,.pure,[.env 3],Ko⟩
def agh:az:=aA (aE [Eu] my) (aA (aE [ct,mh,dU,ML,lh 4 L3,Eu,fK 4 L5 L4] [(2,L5)]) (aA (aE [ct,mh,dU,i (.slice 4 L2 (some V1) none),ct,eJ 0 L4,yE] []) (aA (aE [lh 4 E2,fK 4 E1 L0] []) .ret)))
def atW:br:=⟨3,1,.trunc,[.cell true 4 1],agh⟩
def XG:az:=aA (aE [Eu] kz) (aA (aA (aE [dE 4 [E0,E1,E2],zm] zo) (dp E4 (aA (aE [Ng,dE 192 [E0,SI,L0]] []) (aA (aE [abH,fK 4 E3 L0] []) .ret)) .skip)) (aA (aE [DN,fK 4 E3 L0] []) .ret))
def atj:br:=⟨5,3,.trunc,[.cell true 4 3],XG⟩
def XJ:az:=aA KC (aA (aA (aE [oc 1 [E2],dE 4 [E0,E1,L0],xi] pL) (dp E4 xO .skip)) (aA Bs Fz))
def asV:br:=⟨5,3,.trunc,[.env 3],XJ⟩
def zH:az:=aA Q8 (ee 1 (aA (aA (aE [vU E4,mj L0 E1] sA) (dp E6 IR .skip)) (aA Bs (aE [Eh,oc 3 [L0],rr 3 E4 L1] pL))))
def afr:az:=aA LQ (aA (aE [Eh,i (.mksl 3 [L0])] zo) (aA (ee 0 (.loop [5,6] zH)) Hu))
def atE:br:=⟨7,3,.trunc,[.env 3],afr⟩
def T0:az:=aA (aE [Mk] my) (aA (aE [Mk] iM) (aA (aA (aE [dE 4 [E0,fT,Vn]] kz) Yb) (aA (aA (aE [dE 18 [E0,V1,v (.str [68,69,83,67])],oS,mi] []) (aA (aE [oS,cf,xi] pL) (dp E4 (aE [dE 18 [E0,V1,v (.str [65,83,67])]] []) .skip))) SC)))
def arU:br:=⟨5,1,.trunc,[.cell true 3 1],T0⟩
def abA:az:=aA qC (aA (aE [Ng] iM) (aA (aE [dE 73 [E0,fT,Vn],ZY] xC) (aA (aA (aE [Gf E3 (v (.int .u64 2147483647))] ji) (dp E4 (aE [dE 192 [E0,SI,E2]] []) .skip)) (aA (aE [i (.conv .i64 E3)] my) .ret))))
def ato:br:=⟨5,1,.trunc,[.env 1],abA⟩
def afS:az:=aA (aE Ey BA) (aA (aE [lh 3 E1,dE 53 [L0],MG] rx) .ret)
def auu:br:=⟨3,1,.pure,[.env 2],afS⟩
def ta:az:=aA MY (aA QB (aA (ee 3 (aA (aE [je 1 qU tA,cf] [(5,tA),(6,L1)]) (aE [g E3 true (.mov E6),g E3 true (.bin .geq L0 V0),gP E3 L1 Vf,g L2 true (.mov E6),Mm,g L2 true (ld L4),g L2 true (.len L5),g L2 true (.bin .lss L3 L6),gP L2 L7 Vf,g L8 true (.mov E5),g L8 true (.bin .eql L9 V0),g L8 true (.mov mA),g nK false (.fld 2 E1),Yg,g nK false (.mov E5),g nK false (.bin .sub BV V1),g nK false (.idxs 1 rh FY),g nK false (ld AD),g nK false (.mov E6),g nK false (.bin .lss As TH),g L8 true (.pick nK Vt PT),gP L8 L20 Vf] [(3,L21)]))) Ny))
def Di:az:=aA Dy (aA A7 (aA (ee 1 (aA (aE [je 2 E7 E9,nH,HG,qI] pL) (aE [g E3 true (.fld 1 E4),Nb,g E3 true (.call 38 [L1] false),g E3 true (.bin .neq L2 ky),QF] EH))) ze))
def O7:az:=aA (aE Ey [(1,L0),(2,V0)]) (aA (aE [uf,cf,dE 11 [L1],Mm,yZ,g L2 true (.len L4),g L2 true (.bin .geq L5 V1),gP L2 L6 Vf,g L7 true (.fld 1 E1),Hj,g L7 true (.len L9),g L7 true (.bin .leq mA lw),gP L7 nK Vf,Ze,Rs,g vR true (.call 54 [BV,v (.fn 10 [] [])] false),gP vR FY Vf] [(3,AD)]) (aA (aA (aE abu [(7,L1),(8,L2),(9,V0)]) (ee 0 (.loop [4,10] Di))) (aA (aA (aE aac [(11,L1),(12,L2),(13,V0)]) (ee 2 (.loop [5,6,14] ta))) (aA (aA (aE [Eo] xV) (dp ER (aA (aE [] [(2,v (.int .i64 211))]) .ret) .skip)) Ea))))
def ar9:br:=⟨16,1,.pure,[.env 2],O7⟩
def afO:az:=aA kR (aA (aE [dE 29 [E0,E1],zx] oY) .ret)
def au9:br:=⟨3,2,.pure,[.env 2],afO⟩
def Ac:az:=aA zA (aA yP (aA (ee 1 (aA (aE abP [(4,L2),(3,E8)]) (aA (aE [lh 3 E4,i (.callv E1 [L0]),dE 50 [E0,E1,L1],lM,ly] [(5,L3)]) (aA (aE [sw E5 E3,Qa,g L0 false (.load true 3 E4),Z5,ZN,ZD,Nn] [(10,L6)]) X6)))) wN))
def Xl:az:=aA kR (aA (aA Sl (ee 0 (.loop [2,3,4,5,9,10] Ac))) Bb)
def asz:br:=⟨11,2,.pure,[.env 2],Xl⟩
def afp:az:=aA (aE Ey [(1,L0),(2,ky)]) RE
def auP:br:=⟨3,1,.pure,[.env 2],afp⟩
def aou:az:=aA nV (aA (aE [PQ E0 V0,yY,g L0 true (.bin .leq L1 Sx),rE] sD) .ret)
def arD:br:=⟨2,1,.pure,[.env 1],aou⟩
def vF:az:=aA (aE [i (.nexts E4),D2] [(5,L0),(6,L1)]) (aA qN (ee 1 (aA (aE [EU 2 E5] iM) (aA (aE [dE 3 [E2],zm,g L1 true (.mov E2),g L1 true (.call 1 [L2] false),g L1 true (.una .not L3),Q1,g L5 true (.mov E2),g L5 true (.bin .neq L6 (v (.int .i32 95))),gP L5 L7 Vf] [(7,L8)]) (dp E7 Sg .skip)))))
def FQ:az:=aA nV (aA (aA (aE [mj E0 ky,rR,g L0 false (.lent L1),g L0 false (.bin .gtr L2 B8),Se,g L4 false (.mov E0),g L4 false (.idxt L5 V0),g L4 false (.conv .i32 L6),g L4 false (.call 1 [L7] false),g L4 false (.una .not L8),gP L4 Vt L9,aa4,g mA false (.call 8 [nK] false),g mA false (.call 9 [vR] false),gP mA Vt rh] [(3,BV)]) (dp E3 Sg .skip)) (aA (aA (aE [i (.rngs E0)] ji) (ee 0 (.loop [1,2,5,6,7] vF))) (aA (aE [] [(1,Vt)]) .ret)))
def arP:br:=⟨8,1,.pure,[.env 1],FQ⟩
def af9:az:=aA kR (aA (aE [dE 137 [E0,E1],zx] oY) .ret)
def ava:br:=⟨3,2,.pure,[.env 2],af9⟩
def al7:az:=aA GI (aA (aE [lh 9 E1,dE 139 [L0],xi] rx) .ret)
def arz:br:=⟨3,1,.pure,[.env 2],al7⟩
def uH:az:=aA (aE [rA NJ eX] [(23,L0)]) (aA (dp E23 .skip (.exit 6)) (aA (ee 7 (aA (aE [i (.idxv true 2 1 PR NJ),gl,mi] xJ) (aE [g E3 true (.fld 0 E7),Nb,g E3 true (.len L1),g E3 true (.bin .eql L2 V0),g E3 true (.mov L3),g L4 false (lt E7),g L4 false (.mkl 1 [L5]),g L4 false (.call 114 [L6] false),g E3 true (.pick L4 Vt L7),gP E3 L8 Vf] [(3,L9)]))) (aE [wg NJ V1] [(22,L0)])))
def HY:az:=aA IA (aA aaQ (aA (ee 5 (aA (aE [QK,nH,wW,qI] uu) (aE [g E3 true (.fld 1 E6),Nb,g E3 true (.call 11 [L1] false),gP E3 L2 Vf,g L3 true (.fld 0 E6),xl,g L3 true (.call 68 [L5] false),D9] [(3,L7)]))) HS))
def Iw:az:=aA Hs (aA Sq (aA (ee 3 (aA (aE [je 4 tA ER,CJ,Mz,Ns] qP) (aE [g E3 true (.fld 3 E5),g E3 true (lt L0),TT,TZ,QF,g L4 true (.fld 1 E5),g L4 true (.load true 2 L5),g L4 true (.call 140 [L6] false),MO] [(3,L8)]))) Ih))
def IV:az:=aA IU (aA Jd (aA (ee 1 (aA (aE [je 2 E9 qU,nH,Hg,qI] pL) (aE [Ya,g E3 true (lt L0),TT,TZ,QF,g L4 true (.fld 1 E4),I4,UA,MO] [(3,L8)]))) IE))
def ahW:az:=aA GI (aA (aA (aE [yN,cf,K3,dT,sP,mj L4 V0,i (.eqb true L1 L5),g L6 false (.fld 2 E1),Nj,g L6 false (.len L8),g L6 false (.bin .gtr L9 xK),gP L6 Vt mA,g nK false (.fld 5 E1),Yg,g nK false (.len rh),g nK false (.bin .gtr BV eX),gP nK Vt FY,g AD false (.fld 8 E1),g AD false (ld As),g AD false (.len TH),g AD false (.bin .gtr PT fT),gP AD Vt L20] [(8,L21)]) MR) (aA (aE [vt,nH,dE 140 [L1]] xk) (aA (aA (aE aac [(9,L1),(10,L2),(11,V0)]) (ee 0 (.loop [4,12] IV))) (aA (aA (aE [eJ 5 E1,cf,gv] K4) (ee 2 (.loop [5,16] Iw))) (aA (aA (aE [eJ 8 E1,cf,gv] Ha) (ee 4 (.loop [6,20] HY))) (aA (aA (aE [Cu,oC,Ct,ux,o8 [.ai,.ai] [(0,1,L1),(1,1,L3)]] [(21,L4),(22,V0)]) (ee 6 (.loop [7,23] uH))) MD))))))
def asZ:br:=⟨24,1,.pure,[.env 2],ahW⟩
def af6:az:=aA qC (aA (aE [ct,zK,fK 1 L1 V0] []) (aA (aE [ct,jj,eJ 3 L1,lh 2 L2,dE 143 [E0,L3]] [(1,L4)]) .ret))
def aue:br:=⟨2,1,.keep,[.env 1],af6⟩
def vl:az:=aA zA (aA yP (aA (ee 1 (aA (aE [je 4 E6 E8,CJ,Mz,Ns] rx) (aA (aA (aE [gx,nH,dE 143 [E0,L1]] xk) (aA (aE [sw E3 V0] vT) (dp oG (aA (aE [] [(1,E3)]) .ret) .skip))) (aA (aE [eJ 3 E2,oC,dE 166 [E0,L1,Vf],lM,ly,gl,yE] [(4,L5),(5,L4)]) (aA (aA (aE [sw E5 V0] xS) (dp qU (aA (aE [] [(1,E5)]) .ret) .skip)) (aE [ct,pp,D1,dT,gO,wZ,AZ,o8 [nf,.ai] [(0,1,L5),(1,1,L6)],oc 2 [L7],rr 2 L3 L8,ct,eJ 10 mA,eJ 1 nK,fK 1 vR L9] [])))))) wN))
def XA:az:=aA qC (aA (aE [ct,zK,fK 1 L1 V1] []) (aA (aA (aE [ct,jj,eJ 5 L1,dT,sP] [(6,L3),(7,L4),(8,V0)]) (ee 0 (.loop [9999,1,2,3,4,5,9,10,11] vl))) Aq))
def as7:br:=⟨12,1,.keep,[.env 1],XA⟩
def aaC:az:=aA qC (aA (aE [ct,zK,fK 1 L1 eX] []) (aA (aA (aE [ct,jj,F1,CF,fV,zZ,Gf L5 V0] zU) (dp E2 (aE [ct,jj,F1,ux,dE 166 [E0,L3,Vf],ul,uO,ct,F2,eJ 2 L8,fK 1 L9 L5] [(1,L6)]) .skip)) (aA (aE [] [(1,E1)]) .ret)))
def asK:br:=⟨3,1,.keep,[.env 1],aaC⟩
def AA:az:=aA QG (aA Lr (aA (ee 1 (aA (aE [je 2 E5 E7,nH,wW,qI] rx) (aA (aE [Au,dE 94 [E0,L0],mZ,ny] [(3,L2),(4,L3)]) (aA (aA (aE [sw E4 V0] pW) (dp E9 Lx .skip)) (AO [ct,pp,F1,dT,oc 1 [E3],rr 1 L3 L4,ct,eJ 23 L6,qT L7,ct,eJ 22 L9,qT mA,je 1 nK E3,qT vR,oc 1 [rh],rr 1 L8 BV,ct,eJ 10 AD,eJ 6 As,fK 1 TH L5,ct,eJ 23 L20,fK 1 L21 FY] [] [(6,0),(7,0),(8,0),(9,0),(10,0),(11,0),(12,0),(13,0)]))))) Sf))
def ZE:az:=aA qC (aA (aE [ct,zK,fK 1 L1 fT] []) (aA (aA (aE [ct,jj,HK,dT,sP] [(5,L3),(6,L4),(7,V0)]) (ee 0 (.loop [9999,1,2,3,4,8,9] AA))) Aq))
def as5:br:=⟨10,1,.keep,[.env 1],ZE⟩
def wP:az:=aA (aE [rA Gc ER] Fc) (aA (dp Kg .skip vY) (aA (ee 3 (aA (aE [je 2 yu Gc,nH,Hg,qI] qP) (aA (AO [uC,oC,ct,eJ 10 L2,eJ 4 L3,wZ,dE 93 [E0,L1,L5],Bn,Bh,EU 2 L6,gl,fK 1 mA L7] [(6,mA),(7,L9)] [(0,11),(1,11),(2,11),(3,11),(4,11),(5,11)]) (aA (aA (aE [sw E7 V0] [(18,L0)]) (dp Q3 (aA (aE [] [(1,E7)]) .ret) .skip)) (aE [ct,pp,HK,dT,xn E6,oc 1 [L4],rr 1 L3 L5,ct,F2,eJ 8 L8,fK 1 L9 L6] []))))) (aE [wg Gc V1] FT)))
def xq:az:=aA IU (aA Jd (aA (ee 1 (aA (aE [] [(2,qU)]) (aA (aE [o8 [n0,n0,n0,n0,n0,n0,.int .u64 0,.str []] [(0,1,eX),(3,1,E2)],dE 101 [L0],mZ,ny,gl,fK 1 L4 L2] [(3,L4),(4,L3)]) (aA (aA (aE [sw E4 V0] Bo) (dp tA Lx .skip)) (aE [ct,pp,HK,dT,vM,oc 1 [L4],rr 1 L3 L5,ct,F2,eJ 8 L8,fK 1 L9 L6] []))))) IE))
def alI:az:=aA qC (aA (aE T3 []) (aA (aE UL []) (aA (aA (aE [ct,jj,D1,dT,g L3 true (.mov E0),g L3 true (.nilck L4),g L3 true (.fld 10 L5),g L3 true (.fld 4 L6),g L3 true (ld L7),gP L3 L8 Vf] [(8,L9)]) Uk) (aA (aA (aE Rh [(9,L3)]) (dp E9 (aA (aE Ge [(10,L3),(11,V0)]) (ee 0 (.loop [9999,1,2,3,4,12,13] xq))) .skip)) (aA (aA (aE PY [(14,L3),(15,L4),(16,V0)]) (ee 2 (.loop [9999,1,5,6,7,17,18] wP))) Aq)))))
def arK:br:=⟨19,1,.keep,[.env 1],alI⟩
def Yn:az:=aA qC (aA (aE [ct,zK,fK 1 L1 jt] []) (aA (aA (aE [ct,jj,wO,CF,fV,zZ,Gf L5 V0] zU) (dp E2 (aE [ct,jj,wO,ux,dE 166 [E0,L3,Vt],ul,uO,ct,F2,eJ 3 L8,fK 1 L9 L5] [(1,L6)]) .skip)) (aA (aE [] [(1,E1)]) .ret)))
def atq:br:=⟨3,1,.keep,[.env 1],Yn⟩
def Cd:az:=aA (aE [rA Kg Gc] [(18,L0)]) (aA (dp Q3 .skip vY) (aA (ee 3 (aA (aE [je 1 ER Kg,cf] wa) (aA (aE [qT E3,vU L0,PQ E8 L1] [(19,L2)]) (dp PP (aA (aE [] [(4,V0),(5,eX)]) .ret) .skip)))) (aE [wg Kg V1] Fc)))
def KR:az:=aA Io (aA GB (aA (ee 1 (aA (aE [je 1 oG sT,cf] xJ) (aA (aE [rA E7 V0,Ta,g L0 false (.bin .gtr L1 fT),AI] [(14,L3)]) (dp yu (aA (aE [] [(4,V0),(5,eX)]) .ret) .skip)))) Ik))
def NK:az:=aA (aE [uS,py] YS) (aA (aA (aE [sh,Gp] sA) (aA (aE xZ pW) (dp E9 (aA (aE [] [(4,V0),(5,E6)]) .ret) .skip))) (aA (aA (aE [qT E3,vU L0] [(10,L0),(11,L1),(12,V0)]) (ee 0 (.loop [4,5,7,13,14] KR))) (aA (aA (aE [sh,dE 42 [L0],gv] [(15,L1),(16,L2),(17,V0)]) (ee 2 (.loop [4,5,8,18,19] Cd))) (aA (aE [sh,i (.mkfn 21 [] [E3]),dE 49 [L0,L1],lM,ly] [(4,L3),(5,L4)]) .ret))))
def ar8:br:=⟨20,2,.pure,[.env 4,.env 5],NK⟩
def s7:az:=aA pj (aA qN (aA (ee 1 (aA ti (aA (aE [zg,cf,mj E1 L1] oU) tp))) sI))
def Oi:az:=aA mr (aA (aA pn (ee 0 (.loop [2,3,6,7] s7))) pf)
def asa:br:=⟨8,2,.pure,[.env 2],Oi⟩
def agq:az:=aA kR (aA (aE [dE 6 [E0,E1],zx] oY) .ret)
def auk:br:=⟨3,2,.pure,[.env 2],agq⟩
def agF:az:=aA (aE [py] kz) (aA (aE [ct,IW,dU,Vw,U4,Mi,ct,eJ 11 L6,Gq] []) (aE [vM,ct,DU,fK 1 L2 L0] []))
def auL:br:=⟨4,3,.keep,[],agF⟩
def aeM:az:=aA (aE [zu,py,o6 1 E2,gl] [(3,L0),(4,L1),(5,L2),(6,L3),(7,V0)]) (aA (aE [MH,AZ,BI,oc 1 [L1,L2],dE 104 [L0,L3],ul,uO,fK 1 E6 L5] [(7,L6)]) .ret)
def auY:br:=⟨8,3,.pure,[.cell true 1 6,.env 7],aeM⟩
def afV:az:=aA (aE [zu,py,gl] GZ) (aA (aE [lh 12 E2,vM,yS,dE 104 [L0,L2],Ho,HJ,fK 1 E4 L4] [(5,L5)]) .ret)
def au0:br:=⟨6,2,.pure,[.cell true 1 4,.env 5],afV⟩
def vz:az:=aA Dy (aA A7 (aA (ee 1 (aA (aE [je 2 E7 E9,nH,o6 2 (v (.agg [nf,.ai])),qI] [(3,L2),(2,E9)]) (aA (aE [wg E2 V1,je 1 E1 L0,dU,dE 174 [E0,L2],Ho,HJ,gl,fK 1 L6 L4] [(4,L6),(5,L5)]) (aA (aE [ct,IW,dU,Ui,U4,Mi,ct,eJ 11 L6,Gq] []) (aE [pu,cf,DM,ux,o8 [n0,n0,n0,n0,.ai,nf,.ai,.ai,.ai,.ai,.ai,n0] [(0,1,eX),(5,1,L1),(6,1,L3)],AZ,oc 1 [L5],dE 118 [E0,L4,L6]] []))))) ze))
def Oo:az:=aA (aE [ct,jj,wL,dT] sD) (aA (aA (aE [vU E1,rA L0 V1,g L1 false (.mov E1),g L1 false (.len L2),g L1 false (.bin .gtr L3 fT),gP L1 Vt L4,g L5 false (.mov E0),g L5 false (.nilck L6),g L5 false (.fld 1 L7),g L5 false (.fld 1 L8),g L5 false (ld L9),g L5 false (.len mA),g L5 false (.mov E1),g L5 false (.len vR),g L5 false (.bin .sub rh V1),g L5 false (.bin .neq nK BV),gP L5 Vt FY,ct,eJ 11 As,fK 1 TH AD] []) (aA (aE [ct,IW,dU] uu) (dp E6 .ret .skip))) (aA (aE [je 1 E1 V0,cf,dE 174 [E0,L1],lM,ly,dE 105 [E0,L3,L4]] []) (aA (aE [ct,jj,D1,dT,sP] [(7,L3),(8,L4),(9,V0)]) (ee 0 (.loop [2,3,4,5,10] vz)))))
def asb:br:=⟨11,1,.keep,[],Oo⟩
def ZH:az:=aE [ct,jj,eJ 2 L1,CF,fV,zZ,Gf L5 V0,ct,Gs,eJ 2 L8,xn L9,o8 [n0,n0,n0,n0,.ai,nf,.ai,.ai,.ai,.ai,.ai,n0] [(0,1,fT),(6,1,mA)],dE 158 [E0,L6,nK]] []
def asQ:br:=⟨1,1,.keep,[],ZH⟩
def Fk:az:=aA (aE [ct,jj,lh 9 L1,ahQ,fK 9 L3 L2] sD) (aA (aE [Cu,cf,gv,Ct,fV,zZ,wg L2 L5,Gf L6 V0] [(2,L7)]) (aA (aE [vt,mh,dU,Bq,Gf L3 V0] EH) (aA (aA (aE [Cp,cf,xi] qP) (dp E5 (aA (aE [ct,IW,dU,Vw,gP L2 Vt L3,g L4 false (.mov E3),gP L4 Vt L5,ct,eJ 11 L7,B9] []) .ret) .skip)) (aA (aE [Cu,cf,Ct,dT,o8 [n0,n0,n0,n0,.ai,nf,.ai,.ai,.ai,.ai,.ai,n0] [(0,1,lw),(7,1,L1),(8,1,L3)],ur,fK 12 L5 L4] [(4,L5)]) (aA (aA (aE [i (.una .not E2)] lK) (dp E6 (aE [o8 [n0,.ai] [(0,1,V1)],oc 2 [L0],eJ 8 E4,lV] []) .skip)) (aA (aE [lh 12 E4,dE 118 [E0,L0,Vn]] []) (aE [vt,oC,o8 [n0,n0,n0,n0,.ai,nf,.ai,.ai,.ai,.ai,.ai,n0] [(0,1,fT),(6,1,L1)],dE 158 [E0,E3,L2]] [])))))))
def arS:br:=⟨7,1,.keep,[],Fk⟩
def Yc:az:=aA (aE [ct,jj,HK,dT,o8 [n0,n0,n0,n0,.ai,nf,.ai,.ai,.ai,.ai,.ai,n0] [(0,1,jt),(9,1,L3)],dE 118 [E0,L4,Vn]] []) (aE [ct,jj,eJ 5 L1,dT,o8 [n0,n0,n0,n0,.ai,nf,.ai,.ai,.ai,.ai,.ai,n0] [(0,1,xK)],dE 158 [E0,L3,L4]] [])
def asS:br:=⟨1,1,.keep,[],Yc⟩
def aho:az:=aA (aE CE [(1,L0),(2,v .nilf)]) (aA (.lift 0 1 1 (.lift 0 2 1 (aE [i (.mkfn 79 [] [E1])] iM))) .ret)
def atA:br:=⟨3,1,.keep,[.env 2],aho⟩
def agP:az:=aA mw (aA Il (aA (aE [UP (v .ai),rr 2 L0 E0] uK) .ret))
def auQ:br:=⟨3,1,.fresh 2,[.env 1],agP⟩
def af4:az:=aA mw (aA Il (aA (aE [UP (v .ai),rr 8 L0 E0] uK) .ret))
def auA:br:=⟨3,1,.fresh 8,[.env 1],af4⟩
def aeO:az:=aA mw (aA Il (aA (aE [UP (v .ai),rr 2 L0 E0] uK) .ret))
def at5:br:=⟨3,1,.fresh 2,[.env 1],aeO⟩
def ae2:az:=aA mw (aA Il (aA (aE [UP (v .ai),rr 1 L0 E0] uK) .ret))
def aut:br:=⟨3,1,.fresh 1,[.env 1],ae2⟩
def ag9:az:=aA (aE [o6 2 E0,o6 2 E1] HH) (aA (aE [gO,cf,pu,dT,mj L1 L3,P1,g L4 true (lt L5),Xk,g L4 true (lt L7),Tq,MP] [(4,mA)]) .ret)
def atw:br:=⟨5,2,.pure,[.env 4],ag9⟩
def aeN:az:=aA (aE [uS,py] HH) (aA (aE [gO,cf,pu,dT,dE 281 [L1,L3]] [(4,L4)]) .ret)
def atV:br:=⟨5,2,.pure,[.env 4],aeN⟩
def GD:az:=aA ME (aA LH (aA (ee 1 (aA (aE [je 2 E8 oG,nH,Cv,qI] Qq) (aA (aE [je 2 E1 E4,nH,Cv,qI] uu) (aA (aE [lh 2 E5,lh 2 E6,P3,G5] [(12,L3)]) Sd)))) K8))
def afU:az:=aA KC (aA Rb (aA (aA P6 (ee 0 (.loop [3,4,5,6,11,12] GD))) Fz))
def au6:br:=⟨13,3,.pure,[.env 3],afU⟩
def GW:az:=aA ME (aA LH (aA (ee 1 (aA (aE UW Qq) (aA (aE [je 1 E1 E4,oC,gl,lV] uu) (aA (aE [BI,xn E6,P3,G5] [(12,L3)]) Sd)))) K8))
def ahu:az:=aA KC (aA Rb (aA (aA P6 (ee 0 (.loop [3,4,5,6,11,12] GW))) Fz))
def atY:br:=⟨13,3,.pure,[.env 3],ahu⟩
def agp:az:=aA (aE CE [(1,L0),(2,v .nilf)]) (aA (aE [i (.mkfn 126 [] [E1])] iM) .ret)
def auf:br:=⟨3,1,.pure,[.env 2],agp⟩
def zW:az:=aA Q8 (ee 1 (aA (aA (aE [vU E4,mj L0 E1] sA) (dp E6 IR .skip)) (aA Bs (aE [Eh,oc 2 [L0],rr 2 E4 L1] pL))))
def aeX:az:=aA LQ (aA (aE [Eh,i (.mksl 2 [L0])] zo) (aA (ee 0 (.loop [5,6] zW)) Hu))
def auo:br:=⟨7,3,.trunc,[.env 3],aeX⟩
def Z7:az:=aA (aE [Hg] my) (aA (aE [DK,o8 [.ai,.str []] [(0,1,L0)],Hg,qI] rx) (aA (aA (aE [dE 18 [E0,V1,v (.str [65,83])]] kz) (dp E3 (aE [IF,BE,gx,lV] []) .skip)) Nh))
def asU:br:=⟨4,1,.trunc,[.cell true 2 1],Z7⟩
def XQ:az:=aA (aE [wW] my) (aA (aE [IF,BE,o8 [.str [],.str []] [(0,1,L1)],wW,fK 2 L3 L2] vV) (aA (aA (aE [dE 4 [E0,eX,Vn]] kz) (dp E3 (aE [DN,BE,gx,lV] []) .skip)) Nh))
def as8:br:=⟨4,1,.trunc,[.cell true 2 1],XQ⟩
def Ak:az:=aA (aA (aE [oc 1 [T5,TX],RQ] zo) (dp E4 .skip pS)) (ee 1 (aA (aA (aE [vU E2,mj L0 eX] xc) (dp E5 IR .skip)) (aA (aE [dE 18 [E0,V1,T5],o8 [nf,.str [],.str [],.ai] [(0,1,L0)],Mz,Ns] xk) (aA (aE [oc 1 [TX],sF] []) (aA (aE [dE 131 [E0],DM,yC] []) (aA (aE [oc 1 [v (.str [79,78])],sF] []) (aA (aE [DK,eJ 3 E3,mi] []) (aE [lh 4 E3,oc 4 [L0],rr 4 E2 L1] rx))))))))
def afl:az:=aA mw (aA (aE [iMn 4] iM) (aA (ee 0 (.loop [3,4,5] Ak)) DI))
def auw:br:=⟨6,1,.trunc,[.env 1],afl⟩
def U2:az:=aA (aE BJ my) (aA (aE [Ng] iM) (aA (aE [dE 109 [E0],o8 [.ai] [(0,1,L0)],gl,lV] xk) (aA (aA (aE [ct,IC,dU,mj L2 V0,g L3 true (lt E3),g L3 true (.call 89 [L4] false),g L3 true (.bin .neq L5 V0),D9] [(4,L7)]) (dp E4 (aE [dE 192 [E0,v (.int .i64 192),E2]] []) .skip)) (aA (aE [vM,fK 1 E1 L0] []) .ret))))
def asm:br:=⟨5,1,.trunc,[.cell true 1 1],U2⟩
def Ax:az:=aA Q8 (ee 1 (aA (aA (aE [vU E4,mj L0 E1] sA) (dp E6 IR .skip)) (aA Bs (aE [Eh,oc 2 [L0],rr 2 E4 L1] pL))))
def afy:az:=aA LQ (aA (aE [Eh,i (.mksl 2 [L0])] zo) (aA (ee 0 (.loop [5,6] Ax)) Hu))
def aua:br:=⟨7,3,.trunc,[.env 3],afy⟩
def X9:az:=aA (aE [wW] my) (aA (aE [IF,BE,o8 [.str [],.str []] [(1,1,L1)],wW,fK 2 L3 L2] vV) (aA (aA (aE [dE 18 [E0,jt,v (.str [46])]] kz) (dp E3 (AO [gx,cf,IF,i (.fldv false 1 2 L2),gO,Qx,gx,fK 1 L6 L3] [] [(0,3),(1,3),(4,0)]) .skip)) Nh))
def atf:br:=⟨4,1,.trunc,[.cell true 2 1],X9⟩
def zJ:az:=aA zA (aA yP (aA (ee 1 (aA (aE [je 2 E6 E8,nH,HG,qI] [(4,L2),(3,E8)]) (aA (aE [lh 2 E4,i (.callv E1 [L0]),dE 36 [E0,E1,L1],lM,ly] [(5,L3)]) (aA (aE [sw E5 E3,Qa,g L0 false (.load true 2 E4),Z5,ZN,ZD,Nn] [(10,L6)]) X6)))) wN))
def ZS:az:=aA kR (aA (aA Sl (ee 0 (.loop [2,3,4,5,9,10] zJ))) Bb)
def as2:br:=⟨11,2,.pure,[.env 2],ZS⟩
def ahn:az:=aA (aE zS [(1,L0),(2,ky)]) RE
def au8:br:=⟨3,1,.pure,[.env 2],ahn⟩
def Ay:az:=aA (aE [rA E4 fT] oz) (aA Mv (aA (ee 1 (aA (aE [i (.idxv true 3 2 E3 E4),HG,yC] oY) (aA (aE [gx,cf,mj L1 E0] uu) (dp E6 (aA (aE [gO,cf] uK) .ret) .skip)))) RV))
def ae3:az:=aA (aE [] [(1,ky)]) (aA (aA (aE [lh 6 (v (.cptr false gl0 0))] [(3,L0),(4,V0)]) (ee 0 (.loop [1,2,5,6] Ay))) (aA (aE [] [(1,ky)]) .ret))
def auq:br:=⟨7,1,.pure,[.env 1],ae3⟩
def tM:az:=aA pj (aA qN (aA (ee 1 (aA ti (aA (aE [je 3 E0 E3,K9,xf] oU) tp))) sI))
def Ys:az:=aA mr (aA (aA pn (ee 0 (.loop [2,3,6,7] tM))) pf)
def atl:br:=⟨8,2,.pure,[.env 2],Ys⟩
def abF:az:=aA (aE [py,o6 1 E2] [(3,L0),(4,L1),(5,V0),(6,Vf)]) (aA (aE [i (.mkfn 30 [] [E3,E4]),dE 29 [E0,L0]] xJ) (aA (aE [i (.maxs E7 [V0]),PQ E7 V0] [(5,L0),(6,L1)]) .ret))
def asH:br:=⟨8,3,.pure,[.env 5,.env 6],abF⟩
def ahl:az:=aA nV (aA (aE [PQ E0 (v (.int .i32 97)),yY,g L0 true (.bin .leq L1 (v (.int .i32 122))),rE] sD) .ret)
def auG:br:=⟨2,1,.pure,[.env 1],ahl⟩
def ae7:az:=aA nV (aA (aE [i (.aslice 28 (v (.cptr false gl1 0))),dE 5 [L0,E0]] uK) .ret)
def atG:br:=⟨2,1,.pure,[.env 1],ae7⟩
def afh:az:=aA nV (aA (aE [PQ E0 (v (.int .i32 48)),yY,g L0 true (.bin .leq L1 (v (.int .i32 57))),rE] sD) .ret)
def atQ:br:=⟨2,1,.pure,[.env 1],afh⟩
def tO:az:=aA pj (aA qN (aA (ee 1 (aA ti (aA (aE [je 9 E0 E3,Wo,xf] oU) tp))) sI))
def Yr:az:=aA mr (aA (aA pn (ee 0 (.loop [2,3,6,7] tO))) pf)
def asR:br:=⟨8,2,.pure,[.env 2],Yr⟩
def aov:az:=aA (aE zS BA) (aA (aE [uf,cf,dE 11 [L1],Mm,yZ,g L2 true (.call 68 [L4] false),zF] zU) .ret)
def aty:br:=⟨3,1,.pure,[.env 2],aov⟩
def amS:az:=aA nV (aA (aE [dE 115 [E0,v (.fn 117 [] [])],zm] uK) .ret)
def atH:br:=⟨2,1,.pure,[.env 1],amS⟩
def acU:az:=aA nV (aA (aE [mj E0 ky,rR,g L0 false (.call 11 [L1] false),AI] sD) .ret)
def arx:br:=⟨2,1,.pure,[.env 1],acU⟩
def xr:az:=aA MY (aA (dp yu .skip (.exit 1)) (aA (ee 2 (aA (aE Md oU) (aA (aE Ge [(8,L3)]) (aA (AO Tt [] [(0,13),(1,13),(2,13),(3,13),(4,13)]) (aA (aE Tc []) (aE Um [])))))) Ny))
def Oe:az:=aA (aE De [(2,L0),(3,V0)]) (aA (aE Tj [(4,L6),(5,L7)]) (aA (aE [Au,dE 145 [L0]] sA) (aA (ee 0 (aA (aE [i (.una .not E5)] pW) (dp E9 (aA (aE [] [(3,v (.int .i64 220))]) .ret) (aA (aE [ct,eJ 19 L0,dU,i (.lookk [] (.bool false) false L2 E6)] [(10,L3)]) (dp oG (aA (aE [] [(3,v (.int .i64 221))]) .ret) .skip))))) (aA (aE UI []) (aA (aE Up []) (aA (aA (aE [ct,mh,wL,dT,je 3 L3 E4,Ji,sx,vU L6] [(11,L6),(12,L7),(13,V0)]) (ee 1 (.loop [9999,7,8,14] xr))) (aA Qe .ret)))))))
def arO:br:=⟨15,2,.keep,[.env 3],Oe⟩
def UH:az:=aA (aE [py,gl] [(3,L0),(4,L1),(5,V0)]) (aA (aE [vM,dE 93 [E0,L0,E2],mZ,ny,DS,gl,fK 1 L5 L2] [(6,L5),(7,L3),(8,L4)]) (aA (aA (aE [mj E8 V0,g L0 true (.mov E7),g L0 true (.bin .neq L1 V1),rE,g L3 true (.mov E7),g L3 true (.bin .neq L4 V0),gP L3 L5 Vf] [(9,L6)]) (dp E9 (aE [] [(8,v (.int .i64 226))]) .skip)) (aA (aE [xn E6,fK 1 E4 L0] [(5,E8)]) .ret)))
def asu:br:=⟨10,3,.keep,[.cell true 1 4,.env 5],UH⟩
def JN:az:=aA (aE De Et) (aA (aA (aE [gO,cf,sw L1 ky] [(8,L2)]) (dp E8 (aA (aE [ct,eJ 21 L0,dU,Au,i (.lookk [2,2] (.int .i64 0) true L2 L3),ul,uO] [(5,L5),(6,L6)]) (aA (aA (aE HF pW) (dp E9 Ln .skip)) (aA (aE [] [(3,E5),(4,V0)]) .ret))) .skip)) (aA (aA (aE [ct,eJ 20 L0,dU,gx,fV,i (.lookk [] .ai false L2 L4)] [(7,L5)]) (aA (aE [vU E7] vT) (ee 0 (aA (aE [mj oG V0] xS) (dp qU Ln (aA (aE [mj oG V1] yF) (dp sT (aA (aE [je 1 E7 V0,cf] [(3,L1),(4,V0)]) .ret) .skip))))))) (aA (aE [] [(3,V0),(4,v (.int .i64 223))]) .ret)))
def ar5:br:=⟨13,2,.keep,[.env 3,.env 4],JN⟩
def adg:az:=aA GI (aA (aE MF xC) (aA (aE [i (.mkfn 154 [] [E3])] ji) (aA (aE [eJ 8 E1,cf,gv,Gf L2 V0,g L3 false (.fld 7 E1),g L3 false (.fld 0 L4),g L3 false (ld L5),g L3 false (.len L6),g L3 false (.bin .gtr L7 V0),gP L3 Vt L8,g L9 false (.fld 2 E1),g L9 false (ld mA),g L9 false (.mov E4),g L9 false (.call 152 [nK,vR] false),gP L9 Vt rh] [(2,BV)]) .ret)))
def asv:br:=⟨5,1,.pure,[.env 2],adg⟩
def XH:az:=aA (aE Gm Mp) (aA (aE [lh 8 E1,dE 83 [L0,Vn],mZ,ny,GK] sC) .ret)
def asN:br:=⟨4,1,.pure,[.cell true 1 2,.env 3],XH⟩
def US:az:=aA (aE SY Uw) (aA (aE MF wa) (aA (aE [Ck,fK 1 L0 (v (.fn 100 [] []))] pW) (aA (aE Ut HD) (aA (aE [Ck] xS) (aA (aE [i (.mkfn 82 [] [E4,E9,E3,E8,qU,oG]),fK 1 qU L0] []) (aA (aE TP [(12,L8),(13,L7)]) (aA (aA (aE [sw tA V0] xV) TI) (aA (AO T1 [(14,L4),(13,L5)] [(0,3)]) (aA (aE [xn sT,fK 1 E5 L0] [(6,yu),(7,tA)]) .ret)))))))))
def arT:br:=⟨16,3,.keep,[.cell true 1 5,.env 6,.env 7],US⟩
def afc:az:=aA Rj (aA (aA (aE [Bv,dE 17 [L0],mZ,ny] sC) (aA (aE [Eo] ji) (dp E4 (aA (aE [] [(2,v (.int .i64 200))]) .ret) .skip))) Ea)
def auT:br:=⟨5,1,.pure,[.env 2],afc⟩
def Cq:az:=aA zA (aA yP (aA (ee 1 (aA (aE TC pL) (aA (aE [EM,cf,Gt] [(10,L2)]) (dp oG (aE [eJ 3 E4,cf,yS,rr 1 E3 L2] sC) .skip)))) wN))
def af1:az:=aA QN (aA (aA (aE [Bv,Gp,MG] qP) (dp E5 (aA v6 .ret) .skip)) (aA RS (aA (aA (aE Dz Qf) (ee 0 (.loop [4,9,10] Cq))) (aA (aE [dE 43 [E3]] []) (aA (aE [dE 48 [E3]] iM) .ret)))))
def auI:br:=⟨11,1,.pure,[.env 2],af1⟩
def Cm:az:=aA Lp (aA Mg (aA (ee 1 (aA (aE [je 8 sT yu,GF,LX,Lz] zq) (aA (AO [lh 8 E9,Mh,dU,dE 2 [L2],i (.callv E7 [L3]),i (.callv E1 [L0,L4]),GR,GP] [(10,L6),(11,L7)] [(0,5)]) (aA (aA (aE [sw qU V0] FT) (dp Gc (aA (aE [] [(8,qU)]) pS) .skip)) (aE [xu,oc 1 [oG],rr 1 L0 L1,fK 1 E5 L2] []))))) Ma))
def XV:az:=aA (aE CE Et) (.scope (aA (aE [o6 1 Vn] oz) (aA (aE [] [(6,V0)]) (aA (aE [i (.mkfn 20 [] [E5])] nY) (aA (aE [] [(8,V0)]) (aA (aA (.lift 5 0 1 (aE U3 [(12,L1),(13,L2),(14,V0)])) (ee 0 (.loop [9,10,11,15,16] Cm))) (aA (aA (aE Jp Fc) (dp Kg (aA (aE [] [(3,E6),(4,E8)]) .ret) .skip)) (aA (aE [xu,je 1 L0 V0,dU] [(3,L2),(4,V0)]) .ret))))))))
def asP:br:=⟨18,2,.pure,[.env 3,.env 4],XV⟩
def Gl:az:=aA Io (aA GB (aA (ee 1 (aA (aE [je 1 oG sT,cf] xJ) (ee 2 (aA (aE [mj E7 V0,Ta,RO,g L0 false (.bin .eql L1 L2),Se] [(14,L4)]) (dp yu .skip (aA (aE Gj xV) (dp ER (aE [] [(6,E7)]) (aE [] [(6,jU)])))))))) Ik))
def agY:az:=aA (aE [o6 8 E0] [(3,L0),(4,V0),(5,V0)]) (aA (aE [] [(6,V0)]) (aA (aA (aE BN [(10,E1),(11,L0),(12,V0)]) (ee 0 (.loop [7,13,14,15] Gl))) (aA (aE [] [(8,E6)]) (aA (aE [] [(9,V1)]) (aA (ee 3 (aA (aE [pu,cf,Jo] [(16,L2)]) (dp Gc (aA (aE [eJ 4 E3,mh,dU] [(4,L2),(5,V0)]) .ret) (aA (aE [pu,cf,Gt] [(17,L2)]) (dp Kg (aA (aE [qT E2,eJ 3 E3,dU,je 1 L0 L2,fV] [(4,L4),(5,V0)]) .ret) (aA (aE [pu,cf,dE 76 [L1]] [(18,L2)]) (dp Q3 (aE [] [(8,eX),(9,eX)]) (aA (aE [pu,cf,mj L1 jt,g L2 false (.fld 0 E3),HO,g L2 false (.bin .eql L4 (v (.int .i64 22))),MJ,g L6 false (.fld 0 E3),Nj,g L6 false (.bin .eql L8 F5),gP L6 Vt L9] [(19,mA)]) (dp PP (aE [] [(8,V1)]) .skip))))))))) (aA (aA (aE [mj E6 jU,RO,YR,Vy,g L3 true (.mov E6),g L3 true (.mov E8),g L3 true (.bin .neq L4 L5),g L0 false (.pick L3 L6 Vf),gP L0 Vt L7] [(20,L8)]) (dp E20 (aA (aE [] [(4,V0),(5,v (.int .i64 201))]) .ret) .skip)) (aA (aE [] [(4,E9),(5,V0)]) .ret)))))))
def auH:br:=⟨21,3,.pure,[.env 4,.env 5],agY⟩
def ae1:az:=aA nV (aA (aE [mj E0 lw,rR,g L0 false (.bin .geq L1 Ao),Vy,g L3 true (.mov E0),g L3 true (.bin .leq L4 (v (.int .i64 15))),g L0 false (.pick L3 L5 Vf),gP L0 Vt L6] [(1,L7)]) .ret)
def auc:br:=⟨2,1,.pure,[.env 1],ae1⟩
def CM:az:=aA IA (aA TL (aA (ee 3 (aA (aE [je 12 Kg PP,ED,ur,DH] [(10,L2)]) (aE [uC,cf,lh 12 oG,dE 69 [L2,E9],oc 12 [L3],rr 12 L1 L4,uC,fK 1 L6 L5] []))) HS))
def qL:az:=aA Lp (aA Mg (aA (ee 1 (aA (aE [je 1 sT yu,oC,gl,lV] [(7,L2),(6,yu)]) (aA (aA (aE [xn E7,Vh,mZ,ny] [(8,L3)]) (aA (aE Jp FT) (dp Gc (aA (aE Ev [(4,E8)]) .ret) .skip))) (aA (aE [uC,cf,gv] zq) (aA (aA (aE Yk Ha) (ee 2 (.loop [10,20] CM))) (aA (aE Gj [(21,L0)]) (dp PR (aE [uC,cf,gv,DD L2 V1,gx,RX] []) (aE [uC,cf,gv,DD L2 V1,oS,RX] [])))))))) Ma))
def Vc:az:=aA (aE [zu,gl] Ij) (aA (aE [gx,fK 1 L0 jU,oS,fK 1 L2 jU] []) (aA (aE BJ oz) (aA (aA (.lift 5 0 12 (aE BN [(12,E1),(13,L0),(14,V0)])) (ee 0 (.loop [4,6,7,8,9,10,15,16,17,18,19,20,21] qL))) (aA (aE [uC,cf,lh 12 E2,dE 69 [L2,V0],oc 12 [L3],rr 12 L1 L4,uC,fK 1 L6 L5] []) (aA (aA (aE [BI,Vh,mZ,ny] [(11,L3)]) (aA (aE [sw qU V0] [(22,L0)]) (dp NJ (aA (aE Ev [(4,qU)]) .ret) .skip))) (aA (aE [BI,M7] [(4,V0)]) .ret))))))
def asf:br:=⟨23,2,.pure,[.cell true 1 3,.env 4],Vc⟩
def ZF:az:=aA (aE BJ [(2,L0),(3,V0)]) (aA (aE [ct,mh,xn L1,oc 1 [E1],dE 175 [L2,L3],ul,uO] [(4,L5),(5,L6)]) (aA (aA (aE [sw E5 V0] lK) (dp E6 (aA (aE [BQ,Hm] [(3,E5)]) .ret) .skip)) (aA (aE [o8 [n0,n0,n0,n0,.ai,nf,.ai,.ai,.ai,.ai,.ai,n0] [(0,1,V1),(3,1,E1),(4,1,E4)],dE 178 [L0],mZ,ny,GK] sC) .ret)))
def asJ:br:=⟨7,2,.pure,[.cell true 1 2,.env 3],ZF⟩
def XL:az:=aA (aE [o6 12 E2] kz) (aA (aE [] [(4,E1)]) (dp E4 (aE [MH,dE 118 [E0,L0,Vn]] []) .skip))
def asC:br:=⟨5,3,.keep,[],XL⟩
def pd:az:=aA Io (aA GB (aA (ee 1 (aA (aE [je 12 oG sT,ED,ur,DH] [(4,L2),(3,sT)]) (aA (aE [EM,cf,i (.look .nilf true E2 L1),lM,ly] [(5,L3),(6,L4)]) (aA (aE [g E6 true (.load true 12 E4),g E6 true (.call 31 [L0] false),g E6 true (.call 32 [L1] false),gP E6 L2 Vf] D5) (aA (aA (aE [] [(14,E7)]) (dp yu (aA (aE [] [(8,V0)]) (aA (aE [fM,dE 33 [L0,E3],mZ,ny] [(8,L2),(7,L3)]) (AO [fM,fM,Pg L1,eJ 2 L2,fV,oc 1 [E8],rr 1 L4 L5,uT,eJ 2 L7,B9] [] [(0,7)]))) .skip)) (aA (aE uy pW) (aA (aA (aE [] [(15,E7)]) (dp ER (aE [lh 12 E4,i (.callv E5 [L0]),mZ,ny] [(9,L2),(7,L3)]) .skip)) (aA (aE [g E7 true (.mov E9),g E7 true (.len L0),g E7 true (.bin .leq L1 B8),gP E7 L2 Vf] D5) (aA (AO [fM,fM,Pg L1,eJ 1 L2,fV,oc 1 [E9],rr 1 L4 L5,uT,Gs,B9] [] [(0,7)]) (aA (aE [i (.callv E0 [E3,E7]),zm,g L1 false (.mov E7),g L1 false (.una .not L2),gP L1 Vt L3] [(16,L4)]) (dp Gc .ret .skip))))))))))) Ik))
def YC:az:=aA (aE [uJ,fM,i (.mkfn 80 [L1] []),i (.mput L0 V1 L2),fM,i (.mkfn 199 [L4] []),i (.mput L0 eX L5),fM,i (.mkfn 91 [L7] []),i (.mput L0 fT L8),fM,i (.mkfn 200 [mA] []),i (.mput L0 lw nK),fM,i (.mkfn 106 [rh] []),i (.mput L0 jt BV),fM,i (.mkfn 201 [AD] []),i (.mput L0 xK As),fM,i (.mkfn 202 [PT] []),i (.mput L0 Ez L20),fM,i (.mkfn 159 [PO] []),i (.mput L0 Bj L23)] iM) (aA (aE [fM,uT,wL,CF,fV,zZ] [(10,L4),(11,L5),(12,V0)]) (ee 0 (.loop [3,4,5,6,7,8,9,13,14,15,16] pd)))
def atm:br:=⟨17,2,.keep,[],YC⟩
def Kc:az:=aA vG (aA (aE [UP (v (.fn 39 [] []))] oz) (aA (aE [eJ 3 E2,cf,A8,g L2 true (.fld 3 E2),yZ,g L2 true (.bin .lss L4 lw),zF,g L6 true (.fld 4 E2),g L6 true (ld L7),g L6 true (.len L8),g L6 true (.bin .geq L9 V1),gP L6 mA Vf,g nK true (.fld 4 E2),g nK true (ld vR),g nK true (.len rh),g nK true (.bin .leq BV lw),gP nK FY Vf] [(6,AD)]) (aA (aE [Nd,cf,g E6 true (.fld 4 E2),g E6 true (ld L2),g E6 true (.mov E5),g E6 true (.call 74 [L3,L4] false),g E6 true (.una .not L5),gP E6 L6 Vf] [(3,L1),(4,L7)]) .ret)))
def ar7:br:=⟨7,2,.keep,[.env 3,.env 4],Kc⟩
def agj:az:=aA vG (aA (aE [ct,jj,dU,gx,fV,xD,sx,ct,Gs,qT L8,oS,qT mA,je 1 L9 nK,qT vR,oc 1 [L6,rh],dE 266 [BV]] [(5,FY)]) (aA (aE [BU,oC,dE 92 [L1,E5]] [(3,E5),(4,L2)]) .ret))
def auU:br:=⟨6,2,.pure,[.env 3,.env 4],agj⟩
def ag8:az:=aA vG (aA (aE [ct,jj,dU,gx,fV,xD,sx,BU,xn L7,ct,eJ 1 L9,qT mA,gx,qT vR,je 1 nK rh,qT BV,dE 92 [L8,FY]] [(3,L6),(4,AD)]) .ret)
def au2:br:=⟨5,2,.keep,[.env 3,.env 4],ag8⟩
def Ga:az:=aA IA (aA TL (aA (ee 3 (aA (aE [QK,nH,Cv,qI] zq) (aA (aE [lh 2 E9,dE 267 [L0,E5],mZ,ny] [(10,L2),(11,L3)]) (aE [oc 1 [oG],rr 1 E7 L0,g E6 true (.mov qU),gP E6 L2 Vf] [(7,L1),(6,L3)])))) HS))
def Gd:az:=aA Hs (aA (dp Gc .skip pS) (aA (ee 1 (aA (aE [je 1 tA ER,cf] wa) (aE [je 1 E5 E8,cf,yS,rr 1 E7 L2] D5))) Ih))
def KE:az:=aA vG (aA (aE TG [(5,L6)]) (aA (aE [D8,cf,gv,iLq L2 fT,g L3 true (.fld 8 E2),xl,Rw,g L3 true (.bin .leq L6 Ao),Rz,g L8 true (.fld 7 E2),g L8 true (ld L9),Zh,g L8 true (.fld 8 E2),g L8 true (ld vR),g L8 true (.len rh),g L8 true (.bin .add nK BV),g L8 true (.bin .gtr FY V0),gP L8 AD Vf,g As true (.fld 7 E2),QM,g As true (.mov E5),g As true (.call 268 [PT,L20] false),gP As L21 Vf] [(6,PO)]) (aA (aA (aE HF yF) (dp sT (aA (aE uy HV) .ret) .skip)) (aA (aE CT nY) (aA (aA (aE [D8,cf,gv] K4) (ee 0 (.loop [8,16] Gd))) (aA (aA (aE abf Ha) (ee 2 (.loop [9,10,11,20] Ga))) (aA (aE [] [(3,E7),(4,E6)]) .ret)))))))
def arW:br:=⟨21,2,.pure,[.env 3,.env 4],KE⟩
def GA:az:=aA Io (aA GB (aA (ee 1 (aA (aE [je 1 oG sT,oC,gl,lV] oU) (aA (aE [xn E7,ct,D1,dT,gx,wZ,je 1 L3 L5,qT L6,dE 41 [L0,L7],EU 0 L8,EU 1 L8] [(8,L9),(9,mA)]) (aE [oc 1 [E8],rr 1 E6 L0,g E5 true (.mov E9),g E5 true (.bin .eql L2 V0),gP E5 L3 Vf] [(6,L1),(5,L4)])))) Ik))
def S8:az:=aA vG (aA (aE [EF,cf,gv,PQ L2 V1,g L3 true (.fld 9 E2),xl,Rw,g L3 true (.bin .leq L6 B8),Rz] [(5,L8)]) (aA (aE CT lK) (aA (aA (aE Z3 [(10,L1),(11,L2),(12,V0)]) (ee 0 (.loop [7,8,9,13] GA))) (aA (aE [] [(3,E6),(4,E5)]) .ret))))
def ash:br:=⟨14,2,.pure,[.env 3,.env 4],S8⟩
def agT:az:=aA vG (aA (aE TG [(3,L6),(4,Vt)]) .ret)
def aux:br:=⟨5,2,.keep,[.env 3,.env 4],agT⟩
def xG:az:=aA Lp (aA Mg (aA (ee 1 (aA (aE [je 1 sT yu,cf] [(9,yu),(10,L1)]) (aA (aA (aE [LY,cf,MX] [(16,L2)]) (dp Gc (aE [LY,fK 1 L0 oG] []) .skip)) (aE [g E8 true (.mov E7),g E8 true (.mov E9),g E8 true (.idxs 1 L0 L1),g E8 true (ld L2),g E8 true (.mov oG),g E8 true (.bin .eql L3 L4),g E8 true (.mov L5),g L6 false (.mov oG),g L6 false (.bin .eql L7 V0),g E8 true (.pick L6 Vt L8),gP E8 L9 Vf] [(8,mA)])))) Ma))
def Yy:az:=aA vG (aA (aE [ct,jj,dU,gx,fV,xD,sx,ct,Gs,qT L8,oS,qT mA,je 1 L9 nK,qT vR] [(5,L6),(6,rh)]) (aA (aA (aE [vU E5,vU E6,sw L0 L1] KP) (dp qU (aA (aE uy HV) .ret) .skip)) (aA (aE [i (.call 12 [E5] true)] nY) (aA (aE [] [(8,Vt)]) (aA (aA (aE [vU E6] [(12,E6),(13,L0),(14,V0)]) (ee 0 (.loop [9,10,15,16] xG))) (aA (aE [] [(3,E7),(4,E8)]) .ret))))))
def as6:br:=⟨17,2,.pure,[.env 3,.env 4],Yy⟩
def Kj:az:=aA vG (aA (AO [ct,jj,dU,gx,fV,xD,sx,o6 1 Vn,QJ] [(5,L7)] [(0,8),(1,8),(2,8),(3,8),(4,8),(5,8),(6,8)]) (aA (aE [i (.mkfn 203 [] [E5])] lK) (aA (aE [eJ 10 E2,cf,gv,iLq L2 fT,g L3 true (.fld 10 E2),xl,g L3 true (.mov E6),g L3 true (.call 160 [L5,L6] false),g L3 true (.una .not L7),gP L3 L8 Vf,g L9 true (.fld 11 E2),g L9 true (ld mA),g L9 true (.bin .geq nK jU),gP L9 vR Vf,g rh true (.fld 11 E2),Rm,g rh true (.bin .leq FY Sx),gP rh AD Vf] [(7,As)]) (aA (aE [xu,g E7 true (.mov E0),g E7 true (.nilck L1),g E7 true (.fld 1 L2),g E7 true (ld L3),g E7 true (.len L4),g E7 true (.mov E0),g E7 true (.nilck L6),g E7 true (.fld 0 L7),g E7 true (.fld 0 L8),g E7 true (ld L9),g E7 true (.len mA),g E7 true (.bin .sub nK V1),g E7 true (.bin .eql L5 vR),gP E7 rh Vf] [(3,L0),(4,BV)]) .ret))))
def ar6:br:=⟨8,2,.keep,[.env 3,.env 4],Kj⟩
def A0:az:=aA (aE [zu] BA) (aA (aE [vt,cf,MX,g L2 true (.fld 4 E1),yZ,g L2 true (.len L4),g L2 true (.bin .eql L5 V0),gP L2 L6 Vf,g L7 true (.fld 5 E1),Hj,g L7 true (.una .not L9),gP L7 mA Vf,g nK true (.fld 6 E1),g nK true (.fld 0 vR),g nK true (ld rh),g nK true (.len BV),g nK true (.bin .eql FY V0),gP nK AD Vf,g As true (.fld 7 E1),QM,g As true (.len PT),g As true (.bin .eql L20 V0),gP As L21 Vf,g PO true (.fld 8 E1),g PO true (ld L23),g PO true (.len L24),g PO true (.bin .eql L25 V0),gP PO L26 Vf,g L27 true (.fld 9 E1),g L27 true (ld L28),g L27 true (.len L29),g L27 true (.bin .eql L30 V0),gP L27 L31 Vf,g L32 true (.fld 10 E1),g L32 true (ld L33),g L32 true (.len L34),g L32 true (.bin .eql L35 V0),gP L32 L36 Vf,g L37 true (.fld 11 E1),g L37 true (ld L38),g L37 true (.bin .eql L39 V0),gP L37 L40 Vf] [(2,L41)]) .ret)
def arI:br:=⟨3,1,.pure,[.env 2],A0⟩
def Fl:az:=aA (aE [zu,ur] I7) (aA (aA MK (ee 0 (aA Np (dp E4 (aE [vt,Cf,Cp,R3] []) (aA MT (dp E5 (aE [BQ,eJ 5 E1,fK 1 L1 Vf,Cu,fK 1 L3 L0] []) (aA (aE [mj E3 fT] lK) (dp E6 (aE [BQ,Cu,mi] []) (aA (aE [mj E3 lw] nY) (dp E7 (aE [Ct,Nv,eJ 8 E1,R3] []) (aA (aE [mj E3 jt] wT) (dp E8 (aE [eJ 9 E1,Nv] []) (aA (aE [mj E3 Bj] pW) (dp E9 (aE [eJ 10 E1,Nv,eJ 11 E1,fK 1 L2 V0] []) .skip)))))))))))))) (aA (aE [lh 12 E1,fK 12 E2 L0] []) .ret))
def arQ:br:=⟨10,1,.keep,[.cell true 12 2],Fl⟩
def xR:az:=aA (aE [] [(2,V0),(3,Vf)]) (aA (aE [ct,mh,wL,dT,je 12 L3 E1,lh 12 L4,ur,fK 12 L6 L5] [(4,L6)]) (aA (aA (aE [EM,cf,dE 34 [L1]] qP) (ee 0 (aA (aE [mj E5 V0] lK) (dp E6 (aA (aE [eJ 1 E4,cf,mj L1 jU,g L2 true (.fld 2 E4),yZ,g L2 true (.bin .eql L4 jU),zF] [(2,E1),(3,L6)]) .ret) (aA (aE [mj E5 V1] nY) (dp E7 (aA (aA (aE [eJ 1 E4,cf,DD E1 V1,sw L1 L2,g L3 false (.fld 2 E4),DB,g L3 false (.bin .neq L5 jU),gP L3 Vt L6,g L7 false (.mov E1),g L7 false (.bin .eql L8 V0),gP L7 Vt L9] [(8,mA)]) (dp E8 (aA (aE [] [(2,V0),(3,Vf)]) .ret) .skip)) (aA (aE [ct,eJ 2 L0,dU,eJ 1 E4,fV,xD,sx] [(2,L6),(3,Vt)]) .ret)) .skip)))))) (aA (aA (aE [eJ 2 E4,cf,DD E1 V1,sw L1 L2,g L3 false (.mov E1),LW,IT,g L6 false (.fld 1 E4),Nj,TF,g L6 false (.nilck L9),g L6 false (.fld 2 mA),g L6 false (ld nK),g L6 false (.fld 2 E4),g L6 false (ld rh),g L6 false (.idxs 1 vR BV),g L6 false (ld FY),g L6 false (.bin .sub AD V1),g L6 false (.bin .neq L8 As),gP L6 Vt TH,g PT false (.fld 1 E4),g PT false (ld L20),g PT false (.bin .lss L21 V0),gP PT Vt PO] [(9,L23)]) (dp E9 (aA (aE [] [(2,V0),(3,Vf)]) .ret) .skip)) (aA (aE [ct,eJ 2 L0,dU,eJ 1 E4,fV,xD,sx] [(2,L6),(3,Vt)]) .ret))))
def arH:br:=⟨10,2,.pure,[.env 2,.env 3],xR⟩
def CK:az:=aA Ss (aA SL (aA (ee 1 (aA Qy (aA (aE [je 8 E0 E3,GF,je 8 E1 E3,lh 8 L2,i (.eqa true [0,0,0,0,0,0,0,2] L1 L3)] [(8,L4)]) MR))) R0))
def U7:az:=aA kR (aA Lu (aA (aA Rc (ee 0 (.loop [2,3,7,8] CK))) Bb))
def asq:br:=⟨9,2,.pure,[.env 2],U7⟩
def qQ:az:=aA (aA (aE [fM,iLt L0,rA E2 L1] uu) qN) (ee 1 (aA (aA (aE [fM,i (.idxt L0 E2),dE 23 [v (.str [32,9,10,13]),L1],PQ L2 V0] D5) (dp E7 (aA Sv (.exit 1)) .skip)) (aA (aE [fM,i (.slicet L0 (some E2) none),dE 55 [L1],lM,ly,Pa,Eu,fK 4 L6 L3] [(3,L6),(4,L4),(5,L5)]) (aA (aE [DM,fK 1 L0 E2] []) (aA (aA (aE [lh 4 E3,i (.callv E0 [L0,E5]),xi,Ui,g L2 false (.una .not L3),Mi] [(8,L5)]) (dp E8 pS .skip)) (aE [wg E2 E4] iM))))))
def Yp:az:=.scope (aA mr (ee 0 (.loop [3,4,5,6,7,8] qQ)))
def asA:br:=⟨9,2,.keep,[],Yp⟩
def af7:az:=aA mr (aA (aE [dE 24 [E0,E1]] iM) .ret)
def atX:br:=⟨3,2,.pure,[.env 2],af7⟩
def pN:az:=aA (aE [uS,Eu] [(1,L0),(2,L1),(3,V0),(4,Vf)]) (aA (aA (aE [fM,i (.idxt L0 V0),mj L1 Mj] [(14,L2)]) (dp yu (aA (aE [fM,dE 204 [L0],mZ,ny,DS] [(5,L2),(6,L3),(7,L4)]) (aA (aE [o8 [n0,n0,.str [],.int .u64 0] [(0,1,lw),(2,1,E5)],Ap] [(3,E6),(4,E7)]) .ret)) .skip)) (aA (aA (aE [fM,dE 56 [L0]] wa) (aA (aE [Gf E8 V0] xV) (dp ER (aA (aE [fM,i (.slicet L0 none (some E8))] [(9,L1)]) (aA (aA (aE [dE 65 [E9],D2,K7] [(10,L1),(11,L2)]) (aA (aE [] [(16,qU)]) (dp Gc (aA (aE [o8 [n0,n0,.str [],.int .u64 0] [(0,1,fT),(3,1,oG)],Ap] [(3,E8),(4,Vt)]) .ret) .skip))) (aA (aA (aE [dE 8 [E9]] yF) (aA (aE [dE 9 [sT]] Fc) (dp Kg (aA (aE [o8 [n0,n0,.str [],.int .u64 0] [(0,1,V1),(2,1,sT)],Ap] [(3,E8),(4,Vt)]) .ret) .skip))) (aA (aE [o8 [n0,n0,.str [],.int .u64 0] [(0,1,eX),(2,1,E9)],dE 11 [E9],Ap] [(3,E8),(4,L1)]) .ret)))) .skip))) (aA (aE [i (.aslice 14 Tb),i (.mkfn 60 [] [E1]),dE 163 [L0,L1]] [(13,L2)]) (aA (aA (aE [rA tA V0] [(18,L0)]) (dp Q3 (aA (aE [abH,Ap] [(3,V0),(4,Vf)]) .ret) .skip)) (aA (AO [UM,cf,o8 [n0,n0,.str [],.int .u64 0] [(0,1,jt),(2,1,L1)],UM,fV,iLt L4,fK 4 E2 L2] [(3,L5),(4,Vt)] [(3,7),(4,7)]) .ret)))))
def arF:br:=⟨19,1,.pure,[.cell true 4 2,.env 3,.env 4],pN⟩
def afi:az:=aA mw (aA (aE [uJ,i (.mputk [] L0 (v (.str [79,82])) F5),i (.mkfn 110 [E0] []),UG] sD) .ret)
def auv:br:=⟨2,1,.trunc,[.env 1],afi⟩
def abl:az:=aA Rj (aA (aA (aE [Bv,dE 90 [L0],mZ,ny] sC) (aA (aE [Eo] ji) (dp E4 (aA (aE [] [(2,v (.int .i64 180))]) .ret) .skip))) Ea)
def arC:br:=⟨5,1,.pure,[.env 2],abl⟩
def aeI:az:=aA (aE [py,o6 1 E2] [(3,L0),(4,L1),(5,V0),(6,Vf)]) (aA (aE [i (.mkfn 22 [] [E3,E4]),dE 37 [E0,L0]] xJ) (aA (aE [i (.maxs E7 [V0]),PQ E7 V0] [(5,L0),(6,L1)]) .ret))
def au4:br:=⟨8,3,.pure,[.env 5,.env 6],aeI⟩
def aeL:az:=aA (aE Ey HV) (aA (AO [fM,lh 3 E3,C5,qT E2,mj L2 L3] [(4,L4)] [(3,0)]) .ret)
def auM:br:=⟨5,3,.pure,[.env 4],aeL⟩
def afx:az:=aA kR (aA (aE [dE 116 [E0,E1],zx] oY) .ret)
def atI:br:=⟨3,2,.pure,[.env 2],afx⟩
def amt:az:=aA (aE CE BA) (aA (aE [Bv,dE 89 [L0],MG] rx) .ret)
def auj:br:=⟨3,1,.pure,[.env 2],amt⟩
def aht:az:=aA (aE CE [(2,L0),(3,V0),(4,Vf)]) (aA (aE [gO,cf,dE 50 [L1,v (.fn 13 [] []),E1],lM,ly] [(3,L3),(4,L4)]) .ret)
def aub:br:=⟨5,2,.pure,[.env 3,.env 4],aht⟩
def ahE:az:=aA (aE zS [(1,L0),(2,ky)]) (aA (aA (aE [yN,cf,mj L1 ky] xk) (dp E3 RE .skip)) (aA (aE [yN,cf] oY) .ret))
def ati:br:=⟨4,1,.pure,[.env 2],ahE⟩
def apu:az:=aA (aE [] [(0,v .nilm)]) (aA (aE [uJ,i (.mput L0 fT V1),i (.mput L0 Bj eX),i (.mput L0 (v (.int .i64 9)) fT),i (.mput L0 Ep lw),i (.mput L0 LU jt)] [(0,L0)]) .ret)
def avf:br:=⟨1,0,.pure,[.env 0],apu⟩
def aoA:az:=aA Mc (aA (aE [gO,mh,dU,i (.mkfn 157 [] [E1]),dE 155 [L2,L3]] EH) .ret)
def atK:br:=⟨4,2,.pure,[.env 3],aoA⟩
def ag7:az:=aA kR (aA (aE [dE 156 [E0,E1],zx] oY) .ret)
def atM:br:=⟨3,2,.pure,[.env 2],ag7⟩
def aia:az:=aA (aE [o6 9 E0] Of) (aA (aE [fM,gO,dU,TS,Gf L3 V0] EH) .ret)
def asF:br:=⟨4,2,.pure,[.env 3],aia⟩
def afn:az:=aA kR (aA (aE [dE 153 [E0,E1],zx] oY) .ret)
def auN:br:=⟨3,2,.pure,[.env 2],afn⟩
def wS:az:=aA IU (aA Jd (aA (ee 1 (aA (aE [je 1 E9 qU,oC,gl,lV] qP) (aA (aE [BI,Gp] sA) (aA (aE xZ Bo) (dp tA (aA (aE Ev [(4,E6)]) .ret) .skip))))) IE))
def Kb:az:=aA (aE Gm Ij) (aA (aA (aE BN [(9,E1),(10,L0),(11,V0)]) (ee 0 (.loop [4,5,6,12,13] wS))) (aA (aE [lh 8 E2,dE 84 [L0,E1],gl,lV] oU) (aA (aA (aE [xn E7,Gp] wa) (aA (aE Jp yy) (dp yu (aA (aE Ev [(4,E8)]) .ret) .skip))) (aA (aE [xn E7,M7] [(4,V0)]) .ret))))
def ar3:br:=⟨15,2,.pure,[.cell true 1 3,.env 4],Kb⟩
def agl:az:=aA (aE Gm Mp) (aA (aE [lh 8 E1,dE 101 [L0],mZ,ny,GK] sC) .ret)
def aud:br:=⟨4,1,.pure,[.cell true 1 2,.env 3],agl⟩
def agR:az:=aA v6 (aA (aA (aE [] [(3,E0)]) (dp E3 (aA (aE [fM,uT,eJ 23 L1,dT] vV) .ret) .skip)) (aA (aE [fM,uT,eJ 22 L1,dT] vV) .ret))
def auR:br:=⟨4,2,.keep,[.env 2],agR⟩
def qJ:az:=aA (aE [rA E29 eX] [(30,L0)]) (aA (dp E30 .skip pS) (aA (ee 1 (aA (aE [i (.idxv false 2 1 E28 E29)] xV) (aA (aA (aE [rA ER V0] [(31,L0)]) (dp E31 pS .skip)) (aA (aE [qT E6,g E1 true (.mov tA),g E1 true (.bin .eql L1 V0),gP E1 L2 Vf,i (.callv L0 [ER,L3]),ul,uO,gl,Gq] [(16,L7),(17,L6)]) (aA (aA (aE [sw Kg V0] [(32,L0)]) (dp E32 (aA (aE [xn Gc,GE] [(9,Kg)]) .ret) .skip)) (aE [xn Gc,CH,rr 1 yu L1] [(14,L2)])))))) (aE [wg E29 V1] [(29,L0)])))
def B6:az:=aA (aE BJ [(8,L0),(9,V0)]) (aA (aE T2 [(10,L4)]) (aA (aA (aE [wX,cf,Jo] [(23,L2)]) SZ) (aA (aA (aE [wX,cf,Gt] [(24,L2)]) Tn) (aA (aE Ti [(13,L3)]) (aA (aE CT yy) (aA (aA (aE [eJ 1 oG,cf,eJ 2 oG,dT,o8 [n0,n0] [(0,1,L1),(1,1,L3)]] [(28,L4),(29,V0)]) (ee 0 (.loop [9999,9,15,16,17,30,31,32] qJ))) (aA (ee 2 (aA (aE [Gf tA V0,g L0 true (.mov E1),K5,rE] [(33,L3)]) (dp E33 (aA (aE CU [(9,v (.int .i64 224))]) .ret) (aA (aE [Gf tA V0] [(34,L0)]) (dp E34 (aA (aE [o8 [n0,.ai] [(0,1,tA)],Cv,yC] [(18,L1)]) (aA (aA (aE [vU yu,Gf L0 V0] [(35,L1)]) (dp E35 (aE [Gg,oC,eJ 1 Q3,lV] []) .skip)) (aA (aE [qT E4,lh 2 Q3,dE 205 [L0,L1],lM,ly] [(19,L3),(20,L4)]) (aA (aA (aE [sw E20 V0] [(36,L0)]) (dp E36 (aA (aE CU [(9,E20)]) .ret) .skip)) (aA (aE [qT E3,o8 [n0,n0,n0,n0,n0,n0,.int .u64 0,.str []] [(0,1,eX),(3,1,PP)],C5,lM,ly,fK 1 E8 L3] [(9,L4)]) .ret))))) .skip))))) (aA (AO U9 [(21,L7),(22,L6)] [(0,8),(1,8),(2,8),(3,8),(4,8)]) (aA (aA (aE [vU yu,mj L0 eX] [(37,L1)]) Vd) (aA (aA (aE [mj NJ V0] [(38,L0)]) T6) (aA (aE [xn PR,GE] [(9,NJ)]) .ret)))))))))))
def arG:br:=⟨39,8,.keep,[.cell true 1 8,.env 9],B6⟩
def tB:az:=aA pj (aA qN (aA (ee 1 (aA ti (aA (aE [zg,cf,mj E1 L1] oU) tp))) sI))
def Zn:az:=aA mr (aA (aA pn (ee 0 (.loop [2,3,6,7] tB))) pf)
def asX:br:=⟨8,2,.pure,[.env 2],Zn⟩
def api:az:=aA (aE De Et) (aA (aE [] [(5,eX)]) (aA (aA (aE [gO,cf,sw L1 V1] zq) Ve) (aA (aE T9 [(8,L5)]) (aA (aA (aE [rA E8 V0] yF) Te) (aA (aA (aE [ct,pp,wO,dT,sP,Gf L4 Ao] [(13,L5)]) T8) (aA (aE TN [(3,L5),(4,V0)]) .ret))))))
def arN:br:=⟨14,2,.keep,[.env 3,.env 4],api⟩
def afB:az:=aA (aE [py,gl] Ij) (aA (aE [Ua,sh,yS,dE 83 [L0,L2],Ho,HJ,fK 1 E3 L4] [(4,L5)]) .ret)
def auK:br:=⟨5,2,.pure,[.cell true 1 3,.env 4],afB⟩
def agA:az:=aA (aE [py,o6 1 E2,gl] [(3,L0),(4,L1),(5,L2),(6,V0)]) (aA (aE [Ua,vM,AZ,oc 1 [L1,L2],dE 83 [L0,L3],ul,uO,fK 1 E5 L5] [(6,L6)]) .ret)
def atB:br:=⟨7,3,.pure,[.cell true 1 5,.env 6],agA⟩
def wR:az:=aA acS (aA Ur (aA (ee 3 (aA (aE [je 1 PP PR,cf] [(12,PR),(13,L1)]) (AO [je 1 E4 tA,cf,i (.mins qU [L1]),iIa 2 1 oG sT,fK 1 L3 tA] KP [(0,5),(1,5)]))) SU))
def jD:az:=aA (aE [rA Gc ER] Fc) (aA (dp Kg .skip pS) (aA (ee 1 (aA (aE [je 8 yu Gc,GF,LX,Lz] [(7,L2),(6,Gc)]) (aA (aE [yw,cf,dE 2 [L1]] [(8,L2)]) (aA (aA (aE [rA E8 V0,Vb,UY,Mb,TO,LB,g L5 false (.load true 8 E7),g L5 false (.call 7 [L6] false),Vu,gP L5 Vt L8] [(18,L9)]) TV) (aA (aE [vU E5,DD L0 E8,i (.slice 1 E5 (some L1) none)] zq) (aA (aE UB HD) (aA (aE [] [(11,E6)]) (aA (aA (aE [vU E9] [(19,E9),(20,L0),(21,V0)]) (ee 2 (.loop [12,13,22] wR))) (aA (aA (aE [lh 2 oG,eJ 1 E7,dU,eJ 2 E7,fV,o8 [n0,n0] [(0,1,L2),(1,1,L4)],i (.eqa true [0,0] L0 L5)] [(23,L6)]) (dp E23 La .skip)) (aA (aE [oc 1 [qU],rr 1 E4 L0] zo) (aE [vU E5,DD L0 E8,i (.slice 1 E5 none (some L1)),oc 1 [E6],rr 1 L2 L3] [(5,L4)]))))))))))) (aE [wg Gc V1] FT)))
def Vs:az:=aA (aE Dx [(1,L0),(2,L1),(3,Vf)]) (aA (aE [iMn 1,iMn 1] [(4,L0),(5,L1)]) (aA (aA (aE Dz [(14,L1),(15,L2),(16,V0)]) (ee 0 (.loop [2,3,6,7,8,9,10,11,12,13,17,18,19,20,21,22,23] jD))) (aA (aE [vU E5,mj L0 V1,g L1 true (.mov E4),g L1 true (.len L2),g L1 true (.bin .leq L3 (v (.int .i64 1000))),Q1] [(2,E4),(3,L5)]) .ret)))
def ass:br:=⟨24,1,.pure,[.env 2,.env 3],Vs⟩
def agE:az:=aA v6 (aA (aE [fM,fM,gv,DD L2 E0,i (.slice 1 L0 (some L3) none),P9] [(3,L5)]) (aA (aE [fM,fM,gv,DD L2 E0,i (.slice 1 L0 none (some L3)),fK 1 E1 L4] []) MD))
def atN:br:=⟨4,2,.keep,[.env 2],agE⟩
def FA:az:=aA qC (aA (ee 0 (aA (aE [mj E0 V1,rR,Ty,AI] vV) (dp E2 Aq (aA (aE [PQ E0 lw,yY,g L0 true (.bin .leq L1 Ez),rE] sC) (dp E3 Lv (aA (aE [PQ E0 Ao,yY,g L0 true (.bin .leq L1 F5),rE] [(4,L3)]) Uy)))))) (aA (aE [] [(1,jU)]) .ret))
def arR:br:=⟨5,1,.pure,[.env 1],FA⟩
def ajz:az:=aA (aE Dx Ij) (aA (aA (aE QH xc) (aA (aE [sw E5 V0] lK) (dp E6 (aA (aE uy [(3,L0),(4,E5)]) .ret) .skip))) (aA (aA (aE [i (.mkfn 176 [] [E2]),dE 74 [E1,L0]] xJ) (dp E7 (aA (aE uy [(3,L0),(4,lw)]) .ret) .skip)) (aA (aE [sh,dE 177 [L0,E1]] [(3,L1),(4,V0)]) .ret)))
def asD:br:=⟨8,2,.pure,[.env 3,.env 4],ajz⟩
def afJ:az:=aA (aE [zu,gl] Mp) (aA (aE [lh 12 E1,dE 104 [L0,Vn],mZ,ny,GK] sC) .ret)
def auF:br:=⟨4,1,.pure,[.cell true 1 2,.env 3],afJ⟩
def ahf:az:=aA nV (aA (aE [dE 40 [E0],zm] uK) .ret)
def aul:br:=⟨2,1,.pure,[.env 1],ahf⟩
def afF:az:=aA nV (aA (aE [mj E0 V1,rR,Ty,AI,Q0,g L3 false (.bin .eql L4 fT),IT] [(1,L6)]) .ret)
def au3:br:=⟨2,1,.pure,[.env 1],afF⟩
def ae6:az:=aA kR (aA (aE [dE 75 [E0,E1],zx] oY) .ret)
def aug:br:=⟨3,2,.pure,[.env 2],ae6⟩
def vm:az:=aA MY (aA QB (aA (ee 3 (aA (aE [je 1 qU tA,cf] xc) (aE [rr 1 E4 E5] ji))) Ny))
def GM:az:=aA zA (aA yP (aA (ee 1 (aA (aE [je 1 E6 E8,cf] xC) (aA (aE [vU E3,wg E2 L0] oY) (aA (aE [rA E2 V0] vT) (dp oG (aE [i .bad,i .bad] []) .skip))))) wN))
def aah:az:=aA mw (aA mr (aA (aA Sl (ee 0 (.loop [3,9,10] GM))) (aA (aE [dE 271 [Vn,E2]] ji) (aA (aA (aE Ed [(11,E0),(12,L0),(13,V0)]) (ee 2 (.loop [5,14] vm))) Lx))))
def as0:br:=⟨15,1,.pure,[.env 1],aah⟩
def agK:az:=aA XU (aA (aE [sh,dE 41 [L0,E1],mZ,ny] [(4,L2),(5,L3)]) (aA (aE [mj E5 V0,Sy,g L0 true (.bin .eql L1 V1),g L0 true (.mov L2),g L3 false (.mov E4),LW,Vk,SD] [(3,L7)]) .ret))
def auh:br:=⟨6,2,.pure,[.env 3],agK⟩
def afE:az:=aA (aE [py] Of) (aA (aE [i (.mkfn 272 [] [E2]),dE 74 [E0,L0],xi] xk) .ret)
def auz:br:=⟨4,2,.pure,[.env 3],afE⟩
def Ke:az:=aA (aE zS [(2,L0),(3,V0),(4,Vf)]) (aA (aA (aE [gO,cf,Jo] oU) (dp E7 (aA (aE [gx,mh,dU,Bq,mj L3 V0] [(3,eX),(4,L4)]) .ret) .skip)) (aA (aE [gx,oC,dE 41 [L1,E1],lM,ly] [(5,L3),(6,L4)]) (aA (aA (aE [gO,cf] wa) (ee 0 (aA (aE [mj E8 eX] pW) (dp E9 (aA (aE Gj [(3,eX),(4,L0)]) .ret) (aA (aE [mj E8 fT] vT) (dp oG (aA (aE [mj E6 V0,g L0 true (.mov E5),g L0 true (.bin .eql L1 eX),g L0 true (.mov L2),g L3 false (.mov E5),LW,Vk,SD] [(3,eX),(4,L7)]) .ret) (aA (aA (aE [mj E8 lw] xS) (dp qU .skip (aE [mj E8 jt] xS))) (dp qU (aA (aE Gj [(3,E5),(4,L0)]) .ret) .skip)))))))) (aA (aE [] [(3,V0),(4,Vf)]) .ret))))
def ar1:br:=⟨12,2,.pure,[.env 3,.env 4],Ke⟩
def afw:az:=aA Mc (aA (aE [gO,cf,rA L1 V0,UO,HO,g L2 false (ld E1),abN,g L2 false (.bin .geq L4 L6),gP L2 Vt L7] [(3,L8)]) .ret)
def atS:br:=⟨4,2,.pure,[.env 3],afw⟩
def agx:az:=aA kR (aA (aE [dE 161 [E0,E1],zx] oY) .ret)
def atT:br:=⟨3,2,.pure,[.env 2],agx⟩
def agB:az:=aA qC (aA (aA (aE [] [(2,E0)]) (ee 0 (aA (aE [mj E2 V1] kz) (dp E3 Aq (aA (aA (aE [mj E2 eX] ji) (dp E4 .skip (aE [mj E2 Ez] ji))) Uy))))) Lv)
def auy:br:=⟨5,1,.pure,[.env 1],agB⟩
def agW:az:=aA mr (aA (aE [dE 25 [E0,E1]] iM) .ret)
def au7:br:=⟨3,2,.pure,[.env 2],agW⟩
def mc:az:=aA (aA (aE [yx,rA E5 L0] sA) qN) (aA (ee 1 (ee 2 (aA (aE [i (.idxt E0 E5),sw L0 Mj] xJ) (dp E7 (aE [i (.idxt E0 E5),CH,rr 1 E4 L1] pL) (aA (aE [MW,yx,rA L0 L1,g L2 true (.mov E0),g L2 true (.mov E5),g L2 true (.bin .add L4 V1),g L2 true (.idxt L3 L5),g L2 true (.bin .eql L6 Mj),gP L2 L7 Vf] [(8,L8)]) (dp E8 (aA (aE [i (.idxt E0 E5),CH,rr 1 E4 L1] pL) sI) (aA (aE [i (.b2s E4),MW,i (.b2s E4),dE 279 [L2]] [(1,L0),(2,L1),(3,L3)]) .ret))))))) sI)
def abW:az:=aA (aE [] [(1,ky),(2,V0),(3,Vf)]) (aA RC (aA (aA (aE [] [(5,V1)]) (ee 0 (.loop [1,2,3,6,7,8] mc))) (aA (aE [] [(1,ky),(2,V0),(3,Vf)]) .ret)))
def asE:br:=⟨9,1,.pure,[.env 1,.env 2,.env 3],abW⟩
def aam:az:=aA qC (aA (aA (aE [dE 57 [E0,v (.fn 14 [] [])]] iM) (aA (aE [PQ E2 V0] kz) (dp E3 DI .skip))) (aA (aE [yx] my) .ret))
def as9:br:=⟨4,1,.pure,[.env 1],aam⟩
def tL:az:=aA pj (aA qN (aA (ee 1 (aA ti (aA (aE [zg,cf,xf] oU) tp))) sI))
def Zs:az:=aA mr (aA (aA pn (ee 0 (.loop [2,3,6,7] tL))) pf)
def atk:br:=⟨8,2,.pure,[.env 2],Zs⟩
def afN:az:=aA kR (aA (aE [fM,dE 61 [L0,E0]] oY) .ret)
def au1:br:=⟨3,2,.pure,[.env 2],afN⟩
def ahj:az:=aA kR (aA (aE [dE 62 [E0,E1]] iM) .ret)
def atv:br:=⟨3,2,.pure,[.env 2],ahj⟩
def zM:az:=ee 1 (aA (aA (aE [dE 4 [E0,E1,Vn],zm] wa) (dp E8 (aA (aE [] [(4,E5)]) .ret) .skip)) (aA (aE [ct,mh,dU,ML,LC,wZ,i (.lookk [] (.int .i64 0) true E2 L5),Bn,Bh] [(6,L7),(7,L8)]) (aA (aA (aE [i (.una .not E7)] pW) (dp E9 (aA (aE [] [(4,E5)]) .ret) .skip)) (aA Bs (aE [i (.callv E3 []),oc 1 [E5,L0],dE 165 [E6,L1]] qP)))))
def aga:az:=aA (aE uy ji) (aA (aE [i (.callv E3 [])] oz) (ee 0 (.loop [4,6,7,8,9] zM)))
def aui:br:=⟨10,4,.trunc,[.env 4],aga⟩
def ag3:az:=aA mw (aA (aE [uJ,i (.mputk [] L0 (v (.str [65,78,68])) (v (.int .i64 22))),i (.mkfn 111 [E0] []),UG] sD) .ret)
def atx:br:=⟨2,1,.trunc,[.env 1],ag3⟩
def HW:az:=aA acS (aA Ur (aA (ee 3 (aA (aE [je 1 PP PR,cf] [(12,L1)]) (AO [eJ 0 qU,cf,je 2 E4 sT,CF,fV,i (.mins L1 [L4]),eJ 1 qU,qT L6,je 2 E4 sT,eJ 1 L8,qT L9,wg mA V1,i (.maxs L7 [nK]),eJ 0 qU,fK 1 rh L5,eJ 1 qU,fK 1 FY vR] [] [(8,15),(9,15),(10,15)]))) SU))
def fW:az:=aA Hs (aA (dp Gc .skip pS) (aA (ee 1 (aA (aE Ul [(7,L2),(6,ER)]) (aA (aE [yw,cf,dE 66 [L1]] [(8,L2)]) (aA (aA (aE [rA E8 V0,Vb,UY,Mb,TO,LB,g L5 false (.load true 9 E7),g L5 false (.call 67 [L6] false),Vu,gP L5 Vt L8] [(17,L9)]) (dp Kg La .skip)) (aA (aE [vU E5,DD L0 E8,i (.slice 1 E5 (some L1) none)] zq) (aA (aE [i (.mksl 1 [jU,jU])] vT) (aA (aE [i (.copy 1 oG E9)] []) (aA (aA (aE [eJ 1 E7,cf,je 1 oG V0,dT,sw L1 L3,g L4 false (.fld 2 E7),g L4 false (ld L5),g L4 false (.mov oG),g L4 false (.idxs 1 L7 V1),g L4 false (ld L8),g L4 false (.bin .neq L6 L9),gP L4 Vt mA] [(18,nK)]) TV) (aA (aE [o8 [n0,n0] [(0,1,E6),(1,1,V1)],o6 2 (v (.agg [n0,n0])),yC] [(11,L1)]) (aA (aA (aE [vU E9] [(19,E9),(20,L0),(21,V0)]) (ee 2 (.loop [12,22] HW))) (aA (aE [lh 2 qU,oc 2 [L0],rr 2 E4 L1] pL) (aE [vU E5,DD L0 E8,i (.slice 1 E5 none (some L1)),oc 1 [E6],rr 1 L2 L3] [(5,L4)])))))))))))) Ih))
def ZK:az:=aA (aE Dx [(1,L0),(2,L1),(3,Vf)]) (aA (aE [iMn 2] ji) (aA (aE CT oz) (aA (aA (aE Dz K4) (ee 0 (.loop [2,3,6,7,8,9,10,11,12,16,17,18,19,20,21,22] fW))) (aA (aE [vU E5,mj L0 V1,g L1 true (.mov E4),g L1 true (.len L2),g L1 true (.bin .leq L3 (v (.int .i64 300))),Q1,g L5 true (.mov E4),g L5 true (.mov E4),g L5 true (.len L7),g L5 true (.bin .sub L8 V1),g L5 true (.idxs 2 L6 L9),g L5 true (.fld 1 mA),g L5 true (ld nK),g L5 true (.bin .leq vR (v (.int .i64 20))),gP L5 rh Vf] [(2,E4),(3,BV)]) .ret))))
def arB:br:=⟨23,1,.pure,[.env 2,.env 3],ZK⟩
def tP:az:=aA pj Gv
def ZA:az:=aA mr (aA (aA pn (ee 0 (.loop [2,3,6,7] tP))) pf)
def atr:br:=⟨8,2,.pure,[.env 2],ZA⟩
def ag2:az:=aA (aE zS HV) (aA (AO [fM,lh 2 E3,C5,qT E2,mj L2 L3] [(4,L4)] [(3,0)]) .ret)
def auO:br:=⟨5,3,.pure,[.env 4],ag2⟩
def tq:az:=aA pj (aA qN (aA (ee 1 (aA ti (aA (aE [zg,oC,xf] oU) tp))) sI))
def aaJ:az:=aA mr (aA (aA pn (ee 0 (.loop [2,3,6,7] tq))) pf)
def atn:br:=⟨8,2,.pure,[.env 2],aaJ⟩
def tc:az:=aA pj (aA qN (aA (ee 1 (aA ti (aA (aE [je 9 E0 E3,Wo,xf] oU) tp))) sI))
def Zw:az:=aA mr (aA (aA pn (ee 0 (.loop [2,3,6,7] tc))) pf)
def atb:br:=⟨8,2,.pure,[.env 2],Zw⟩
def tN:az:=aA pj Gv
def YW:az:=aA mr (aA (aA pn (ee 0 (.loop [2,3,6,7] tN))) pf)
def asx:br:=⟨8,2,.pure,[.env 2],YW⟩
def Dd:az:=aA ME (aA LH (aA (ee 1 (aA (aE UW [(7,L2),(6,oG)]) (aA (aE [xn E7,dE 102 [E4,L0]] zo) (aE [vU E4,DD L0 V1,iIa 2 1 E5 E6,lV] [])))) K8))
def ahk:az:=aA (aE Gm Mn) (aA (aE [iMn 8] ji) (aA (aE UB xc) (aA (aA (aE BN [(8,E1),(9,L0),(10,V0)]) (ee 0 (.loop [6,7,11] Dd))) (aA (AO [iIa 2 1 E5 V0,cf,iIa 2 1 E5 V1,dT,gx,Qx,oS,fK 1 L6 L3] [] [(2,6),(3,6)]) (aA (aE [lh 8 E2,oc 8 [L0],rr 8 E4 L1,Xf,fK 1 E3 L3] []) .ret)))))
def auZ:br:=⟨12,2,.pure,[.cell true 1 3],ahk⟩
def sZ:az:=aA pj Gv
def X7:az:=aA mr (aA (aA pn (ee 0 (.loop [2,3,6,7] sZ))) pf)
def asM:br:=⟨8,2,.pure,[.env 2],X7⟩
def aji:az:=aA Mc (aA (aE [gO,cf,uf,dT,mj L1 L3,P1,g L4 true (lt L5),g L4 true (.fld 1 E1),g L4 true (lt L7),Tq,MP] [(3,mA)]) .ret)
def asT:br:=⟨4,2,.pure,[.env 3],aji⟩
def Vx:az:=aA (aE [o6 8 E0] BA) (aA (aA MK (ee 0 (aA Np (dp E4 (aA (aE [Cp,CJ,dE 26 [L1],g L2 true (.fld 3 E1),yZ,g L2 true (.bin .eql L4 V0),zF] zU) .ret) (aA MT (dp E5 (aA (aE [Cp,CJ,Gh,Vr,Ux,xl,g L3 true (.bin .geq L5 V0),D9,g L7 true (.fld 3 E1),Hj,g L7 true (.bin .lss L9 B8),gP L7 mA Vf] [(2,nK)]) .ret) .skip)))))) (aA (aE [Cp,CJ,Gh,Vr,Ux,xl,g L3 true (.bin .eql L5 V0),D9] [(2,L7)]) .ret))
def asj:br:=⟨6,1,.pure,[.env 2],Vx⟩
def am0:az:=aA kR (aA (aE [rA E0 V0,rR,XK,SH,RW,abo,Nn] zU) .ret)
def atD:br:=⟨3,2,.pure,[.env 2],am0⟩
def Ir:az:=aA MY (aA QB (aA (ee 3 (aA (aE Md uu) (aE [eJ 1 E6,cf,yS,rr 1 E4 L2] [(4,L3)]))) Ny))
def Nk:az:=aA Dy (aA A7 (aA (ee 1 (aA (aE [LY,cf] xc) (aA (aE [gO,cf,je 3 L1 E5,eJ 1 L2,fV,zZ] [(11,L4),(12,L5),(13,V0)]) (ee 2 (.loop [6,14] Ir))))) ze))
def alS:az:=aA (aE Dx Mn) (aA RC (aA (aA (aE BN [(7,E1),(8,L0),(9,V0)]) (ee 0 (.loop [5,6,10,11,12,13,14] Nk))) Hu))
def auX:br:=⟨15,2,.pure,[.env 3],alS⟩
def tD:az:=aA pj (aA qN (aA (ee 1 (aA ti (aA (aE [zg,cf,xf] oU) tp))) sI))
def aab:az:=aA mr (aA (aA pn (ee 0 (.loop [2,3,6,7] tD))) pf)
def atg:br:=⟨8,2,.pure,[.env 2],aab⟩
def Yx:az:=aA v6 (aA (aA (aE [rA E1 V0] kz) (dp E3 (aE [i .bad,i .bad] []) .skip)) (aA (aA (aE [i (.cap E0),v8,DD L0 L1,DD E1 L2] sD) (aA (aE [Gf E1 V0] ji) (dp E4 (aE [i (.cap E0),i (.slice 1 E0 none (some L0)),i (.appz 1 (.int .i64 0) L1 E1),v8,i (.slice 1 L2 none (some L3))] [(0,L4)]) .skip))) (aA (aE [] [(2,E0)]) .ret)))
def asG:br:=⟨5,2,.keep,[.env 2],Yx⟩
def afP:az:=aA kR (aA (aE [rA E0 V0,rR,g L0 false (ld E1),Mb,g L0 false (.bin .geq L1 L3),LB] [(2,L5)]) .ret)
def aup:br:=⟨3,2,.pure,[.env 2],afP⟩
def tQ:az:=aA pj Gv
def aaP:az:=aA mr (aA (aA pn (ee 0 (.loop [2,3,6,7] tQ))) pf)
def asL:br:=⟨8,2,.pure,[.env 2],aaP⟩
def agr:az:=aA nV (aA (aE [UP (v (.fn 282 [] []))] iM) (aA (aE [yx,iLq L0 (v (.int .i64 40)),g L1 true (.mov E0),g L1 true (.mov E2),g L1 true (.call 57 [L2,L3] false),g L1 true (.bin .lss L4 V0),gP L1 L5 Vf] [(1,L6)]) .ret))
def aun:br:=⟨3,1,.pure,[.env 1],agr⟩
def afT:az:=aA mr (aA (aE [dE 58 [E0,E1,Vt]] iM) .ret)
def aus:br:=⟨3,2,.pure,[.env 2],afT⟩
def ahc:az:=aA nV (aA (aE [dE 15 [E0],zm] uK) .ret)
def auW:br:=⟨2,1,.pure,[.env 1],ahc⟩
def aeZ:az:=aA nV (aA (aE [dE 3 [E0],rR,g L0 false (.call 1 [L1] false),AI,Q0,g L3 false (.call 19 [L4] false),IT,TF,g L6 false (.bin .eql L7 (v (.int .i32 95))),gP L6 Vt L8] [(1,L9)]) .ret)
def atP:br:=⟨2,1,.pure,[.env 1],aeZ⟩
def X8:az:=aA kR (aA (aE [yx,iLt E1,PQ L0 L1,g L2 true (.mov E0),g L2 true (.mov E1),g L2 true (.lent L4),g L2 true (.slicet L3 none (some L5)),g L2 true (.mov E1),g L2 true (.bin .eql L6 L7),gP L2 L8 Vf] [(2,L9)]) .ret)
def att:br:=⟨3,2,.pure,[.env 2],X8⟩
def B7:az:=aA Hs (aA Sq (aA (ee 3 (aA (aE Ul [(8,L2)]) (aA (aA (aE [eJ 1 E8,cf,A8] [(17,L2)]) (dp Kg (aE [eJ 1 E8,cf,wg L1 E7,eJ 1 E8,yL] []) .skip)) (aA (aA (aE [eJ 2 E8,cf,A8] [(18,L2)]) (dp Q3 (aE [eJ 2 E8,cf,wg L1 E7,eJ 2 E8,yL] []) .skip)) (aE [lh 9 E8,oc 9 [L0],rr 9 E4 L1] pL))))) Ih))
def B5:az:=aA IU (aA Jd (aA (ee 1 (aA (aE [je 1 E9 qU,cf] [(5,qU),(6,L1)]) (aA (aE [vU E4] nY) (aA (aA (aE [vU E6] [(13,E6),(14,L0),(15,V0)]) (ee 2 (.loop [8,16,17,18] B7))) (aA (aE [mj E5 V0] [(19,L0)]) (dp PP (aE [vU E4,DD L0 V1,DM,lV] []) (aE [vU E4,DD L0 V1,eJ 2 E3,lV] []))))))) IE))
def ae5:az:=aA v6 (aA (aE [o8 [n0,n0,n0,n0,n0,.int .u64 0,.str [],.str [],.str []] [(0,1,E0),(1,1,jU),(2,1,jU)],LG,fK 9 L1 L0] xC) (aA (aE [iMn 9] ji) (aA (aA (aE BN [(9,E1),(10,L0),(11,V0)]) (ee 0 (.loop [5,6,7,8,12,13,14,15,16,17,18,19] B5))) (aA (aE [lh 9 E3,oc 9 [L0],rr 9 E4 L1] rx) .ret))))
def aur:br:=⟨20,2,.pure,[.env 2],ae5⟩
def YD:az:=aA mw (aA (aA (aE [dE 18 [E0,V1,v (.str [78,79,84])]] iM) (dp E2 (aA (aE [dE 111 [E0],CH,dE 165 [jt,L1]] DA) .ret) .skip)) (aA (aE [dE 112 [E0]] my) .ret))
def asY:br:=⟨3,1,.trunc,[.env 1],YD⟩
def aog:az:=aA qC (aA (ee 0 (aA (aE [rA E0 V1,rR,g L0 false (.bin .gtr L1 F5),AI] vV) (dp E2 (aA (aE [] [(1,jU)]) .ret) (aA (aE [iLq E0 fT] kz) (dp E3 Aq (aA (aE [iLq E0 LU] ji) (dp E4 Lv .skip))))))) (aA (aE [] [(1,eX)]) .ret))
def arE:br:=⟨5,1,.pure,[.env 1],aog⟩
def aes:az:=aA GI (aA (aE [Ct,cf,sw L1 ky,g L2 false (.fld 8 E1),HO,g L2 false (.bin .neq L4 ky),MJ,vt,lh 4 L7,Gh,i (.eqa true [0,0,0,2] L8 L9)] [(3,L6),(4,mA)]) (aA (aA (aE RL xc) (ee 0 (aA (aE [mj E5 V1] lK) (dp E6 (aA (aE [Eo,g L0 true (.fld 3 E1),g L0 true (.load true 4 L1),g L0 true (.call 26 [L2] false),gP L0 L3 Vf,g L4 true (.fld 3 E1),g L4 true (.fld 1 L5),g L4 true (ld L6),g L4 true (.bin .geq L7 V0),gP L4 L8 Vf,g L9 true (.fld 3 E1),g L9 true (.fld 3 mA),g L9 true (ld nK),g L9 true (.call 133 [vR] false),gP L9 rh Vf] [(2,BV)]) .ret) (aA (aE [mj E5 eX] nY) (dp E7 (aA (aE [i (.una .not E4),g L0 true (.fld 8 E1),g L0 true (ld L1),g L0 true (.call 11 [L2] false),gP L0 L3 Vf,g L4 true (.fld 7 E1),I4,UA,MO] [(2,L8)]) .ret) .skip)))))) (aA (aE [Eo,Sy,K5,rE] vV) .ret)))
def ary:br:=⟨8,1,.pure,[.env 2],aes⟩
def F4:az:=aA zA (aA yP (aA (ee 1 (aA (aE TC qP) (aA (aA (aE [DR,cf,A8] [(10,L2)]) (dp oG (aE [DR,cf,wg L1 E4,DR,yL] []) .skip)) (aA (aA (aE [Lg,cf,A8] KP) (dp qU (aE [Lg,cf,wg L1 E4,Lg,yL] []) .skip)) (aE [lh 8 E5,oc 8 [L0],rr 8 E0 L1] [(0,L2)]))))) wN))
def afZ:az:=aA (aE [py,UP Vn] Mn) (aA (aE Ed ji) (aA (aA (aE U3 Qf) (ee 0 (.loop [5,9,10,11] F4))) (aA (aE [] [(3,E0)]) .ret)))
def atL:br:=⟨12,2,.keep,[.env 3],afZ⟩
def agn:az:=aA (aE [o6 4 E0] BA) (aA (aE [lh 4 E1,dE 27 [L0],MX,g L2 true (.fld 0 E1),yZ,g L2 true (.bin .neq L4 lw),zF] zU) .ret)
def atu:br:=⟨3,1,.pure,[.env 2],agn⟩
def afC:az:=aA nV (aA (aE [rA E0 (v (.int .i32 32)),rR,g L0 false (.bin .gtr L1 (v (.int .i32 126))),AI] sD) .ret)
def auB:br:=⟨2,1,.pure,[.env 1],afC⟩
def rN:az:=aA (aE [i (.nexts E6),D2] [(7,L0),(8,L1)]) (aA Lr (ee 1 (aA (aE [EU 1 E7,EU 2 E7] [(4,L0),(5,L1)]) (aA (aE [i (.callv E1 [E5]),i (.eqb false L0 E2)] [(9,L1)]) (dp E9 Hu .skip)))))
def Zu:az:=aA Qe (aA (aA (aE [i (.rngs E0)] lK) (ee 0 (.loop [3,4,5,7,8,9] rN))) (aA (aE [] [(3,jU)]) .ret))
def as4:br:=⟨10,3,.pure,[.env 3],Zu⟩
def ahq:az:=aA nV (aA (aE [PQ E0 (v (.int .i32 65)),yY,g L0 true (.bin .leq L1 (v (.int .i32 90))),rE] sD) .ret)
def auJ:br:=⟨2,1,.pure,[.env 1],ahq⟩
def Fa:az:=aA mw (aA (aE [dE 95 [E0]] iM) (aA (aE [uJ,i (.mputk [] L0 (v (.str [61])) B8),i (.mputk [] L0 (v (.str [60,62])) (v (.int .i64 17))),i (.mputk [] L0 (v (.str [60])) (v (.int .i64 18))),i (.mputk [] L0 (v (.str [60,61])) (v (.int .i64 19))),i (.mputk [] L0 (v (.str [62])) (v (.int .i64 20))),i (.mputk [] L0 (v (.str [62,61])) (v (.int .i64 21)))] kz) (aA (aA (aE [dE 4 [E0,jt,Vn]] nY) (dp E7 (aA (aE [ct,mh,dU,ML,LC,wZ,i (.lookk [] (.int .i64 0) true E3 L5),Bn,Bh] [(4,L7),(5,L8)]) (aA (aE [] [(8,E5)]) (dp E8 (aA Bs (aA (aE [dE 95 [E0],oc 1 [E2,L0],dE 165 [E4,L1]] DA) .ret)) .skip))) .skip)) (aA (aA (aE [dE 18 [E0,V1,v (.str [73,83])],zm] [(9,L1)]) (dp E9 DI .skip)) (aA (aE [] [(6,xK)]) (aA (aA (aE [dE 18 [E0,V1,v (.str [78,79,84])]] vT) (dp oG (aE [] [(6,Ez)]) .skip)) (aA (aE [oc 1 [Ts],sF] []) (aA (aE [oc 1 [E2],dE 165 [E6,L0]] uK) .ret))))))))
def arM:br:=⟨11,1,.trunc,[.env 1],Fa⟩
def vP:az:=aA (aE [rA E4 E3] oz) (aA Mv (aA (ee 1 (aA (aE [] [(2,E4)]) (aA (aE [i (.idxt E0 E2),rA L0 (v (.int .u8 32)),Xp,Zo,g L1 false (.idxt L2 L3),g L1 false (.bin .gtr L4 (v (.int .u8 126))),gP L1 Vt L5] [(6,L6)]) (dp E6 Sg .skip)))) RV))
def aix:az:=aA nV (aA (aA (aE [yx] [(3,L0),(4,V0)]) (ee 0 (.loop [1,2,5,6] vP))) (aA (aE [] [(1,Vt)]) .ret))
def asW:br:=⟨7,1,.pure,[.env 1],aix⟩
def KB:az:=aA (aE [o6 4 E0] [(1,L0),(2,V0)]) (aA (aA (aE [lh 4 E1,dE 28 [L0],Gh,i (.eqa true [0,0,0,2] L1 L2)] sC) (dp E3 (aA (aE [] [(2,v (.int .i64 120))]) .ret) .skip)) Ea)
def arX:br:=⟨4,1,.pure,[.env 2],KB⟩
def ahm:az:=aA mw (aA (aE [uJ,i (.mputk [] L0 (v (.str [43])) Ao),i (.mputk [] L0 (v (.str [45])) (v (.int .i64 13))),i (.mkfn 96 [E0] []),S0] [(1,L4)]) .ret)
def atC:br:=⟨2,1,.trunc,[.env 1],ahm⟩
def AW:az:=aA (aE [o6 4 E0,o6 4 (v (.agg [n0,n0,.int .u64 0,.str []]))] I7) (aA (aA MK (ee 0 (aA (ee 5 (aA (ee 4 (aA (ee 3 (aA (ee 2 (aA (ee 1 (aA (aA (aA Np (dp E4 (.exit 1) .skip)) (aA (aA MT (dp E5 vY .skip)) (aA (aA (aE [mj E3 V0] lK) (dp E6 (.exit 3) .skip)) (aA (aA (aE [mj E3 fT] nY) (dp E7 (.exit 4) .skip)) (aA (aE [mj E3 lw] wT) (dp E8 (.exit 5) .skip)))))) pS)) (aA (aE [yN,cf,MG,Mm,yZ,g L2 true (.bin .neq L4 V1),zF] [(9,L6)]) (dp E9 pS .skip)))) (aE [yN,Cf] []))) (aA (aE [uf,Cf] []) pS))) (aA (aA (aE [vt,cf,iLt L1,iLq L2 (v (.int .i64 40))] [(10,L3)]) (dp oG (aE [uf,Cf,vt,fK 1 L2 ky] []) .skip)) pS))) (aA (aE [uf,Cf,yN,fK 1 L2 V0,K3,fK 1 L4 (v (.int .u64 0))] []) pS)))) (aA (aE [lh 4 E1,Ap] []) .ret))
def arJ:br:=⟨11,1,.pure,[.cell true 4 2],AW⟩
def afq:az:=aA mw (aA (aE [uJ,i (.mputk [] L0 LV (v (.int .i64 14))),i (.mputk [] L0 (v (.str [47])) (v (.int .i64 15))),i (.mkfn 97 [E0] []),S0] [(1,L4)]) .ret)
def auD:br:=⟨2,1,.trunc,[.env 1],afq⟩
def Xc:az:=aA mw (aA (aA (aE [dE 18 [E0,jt,v (.str [45])]] iM) (dp E2 (aA (aE [dE 97 [E0],CH,dE 165 [lw,L1]] DA) .ret) .skip)) (aA (aE [dE 98 [E0]] my) .ret))
def ata:br:=⟨3,1,.trunc,[.env 1],Xc⟩
def Dh:az:=aA mw (aA (ee 0 (aA (aE [dE 4 [E0,fT,Vn]] ji) (dp E4 (aA (aE [DN,ZY,i (.conv .i64 L1),dE 164 [eX,L2,ky]] sD) .ret) (aA (aE [dE 4 [E0,lw,Vn]] oz) (dp E5 (aA (aE [DN,BE,dE 164 [fT,V0,L1]] DA) .ret) (aA (aE [dE 18 [E0,V1,v (.str [84,82,85,69])]] lK) (dp E6 (aA (aE [dE 164 [V1,V1,ky]] my) .ret) (aA (aE [dE 18 [E0,V1,v (.str [70,65,76,83,69])]] nY) (dp E7 (aA (aE [dE 164 [V1,V0,ky]] my) .ret) (aA (aE [dE 18 [E0,V1,Ts]] wT) (dp E8 (aA (aE [dE 164 [V0,V0,ky]] my) .ret) (aA (aE [oc 1 [LJ,v (.str [83,85,77]),v (.str [77,73,78]),v (.str [77,65,88])],RQ] [(9,L1)]) (dp E9 (aA (aE [DN,BE,dE 215 [E0,L1]] DA) .ret) (aA (aE [dE 18 [E0,jt,v (.str [40])]] vT) (dp oG (aA (aE [dE 109 [E0]] iM) (aA Lh DI)) .skip))))))))))))))) (aA (aE [dE 113 [E0],wW,yC] xC) (aA (aE [pu,cf,DM,dT,o8 [n0,n0,n0,n0,n0,.int .u64 0,.str [],.str [],.str []] [(0,1,eX),(7,1,L1),(8,1,L3)],dE 99 [L4]] [(1,L5)]) .ret)))
def arL:br:=⟨11,1,.trunc,[.env 1],Dh⟩
def ahh:az:=aA LQ (aA (aE [o8 [n0,n0,.int .u64 0,.str []] [(0,1,E0),(1,1,E1),(3,1,E2)],o8 [n0,n0,n0,n0,n0,.int .u64 0,.str [],.str [],.str []] [(0,1,V1),(3,4,L0)],dE 99 [L1]] xk) .ret)
def au5:br:=⟨4,3,.pure,[.env 3],ahh⟩
def Tf:az:=aA v6 (aA (aE [uJ,i (.mputk [] L0 LJ Bj),i (.mputk [] L0 (v (.str [83,85,77])) (v (.int .i64 9))),i (.mputk [] L0 (v (.str [77,73,78])) Ep),i (.mputk [] L0 (v (.str [77,65,88])) LU)] kz) (aA (aE [oc 1 [v (.str [40])],Tz] []) (aA (aA (aE [mj E1 LJ,yY,g L0 true (.call 18 [L1,jt,LV] false),rE] [(5,L3)]) (dp E5 (aA Lh (aA (aE [o8 [n0,n0,n0,n0,n0,.int .u64 0,.str [],.str [],.str []] [(0,1,fT)],dE 99 [L0]] oY) .ret)) .skip)) (aA (aE [dE 109 [E0]] ji) (aA Lh (aA (aE [i (.lookk [] (.int .i64 0) false E3 E1),oc 1 [E4],dE 165 [L0,L1]] rx) .ret))))))
def asp:br:=⟨6,2,.trunc,[.env 2],Tf⟩
def aeR:az:=aA (aE [o6 9 E0,UP Vn] I7) (aA (aE [yN,fK 1 L0 jU,K3,fK 1 L2 jU] []) (aA (aE [lh 9 E1,oc 9 [L0]] oY) .ret))
def atz:br:=⟨3,1,.pure,[.env 2],aeR⟩
def mV:az:=aE SY Uw
def mO:az:=aE MF wa
def mS:az:=aE [Ck,fK 1 L0 (v (.fn 100 [] []))] pW
def mN:az:=aE Ut HD
def mT:az:=aE [Ck] xS
def mP:az:=aE [i (.mkfn 82 [] [E4,E9,E3,E8,qU,oG]),fK 1 qU L0] []
def kh:az:=aE TP [(12,L8),(13,L7)]
def fU:az:=aA (aE [sw tA V0] xV) TI
def gq:az:=AO T1 [(14,L4),(13,L5)] [(0,3)]
def mR:az:=aE [xn sT,fK 1 E5 L0] [(6,yu),(7,tA)]
def mg:az:=.ret
def gu:az:=aA mR mg
def yf:az:=aA gq gu
def yn:az:=aA fU yf
def kf:az:=aA kh yn
def ym:az:=aA mP kf
def yo:az:=aA mT ym
def yi:az:=aA mN yo
def yr:az:=aA mS yi
def qW:az:=aA mO yr
def I1:az:=aE Md oU
def Hb:az:=aE Ge [(8,L3)]
def Cx:az:=AO Tt [] [(0,13),(1,13),(2,13),(3,13),(4,13)]
def Jb:az:=aE Tc []
def Hy:az:=aE Um []
def lz:az:=aE De [(2,L0),(3,V0)]
def lI:az:=aE Tj [(4,L6),(5,L7)]
def lC:az:=aE [Au,dE 145 [L0]] sA
def lq:az:=ee 0 (aA (aE [i (.una .not E5)] pW) (dp E9 (aA (aE [] [(3,v (.int .i64 220))]) .ret) (aA (aE [ct,eJ 19 L0,dU,i (.lookk [] (.bool false) false L2 E6)] [(10,L3)]) (dp oG (aA (aE [] [(3,v (.int .i64 221))]) .ret) .skip))))
def lG:az:=aE UI []
def lS:az:=aE Up []
def lO:az:=aA (aE [ct,mh,wL,dT,je 3 L3 E4,Ji,sx,vU L6] [(11,L6),(12,L7),(13,V0)]) (ee 1 (.loop [9999,7,8,14] xr))
def pG:az:=aE [] [(3,V0)]
def pE:az:=.ret
def pQ:az:=aA pG pE
def mn:az:=aE [] [(1,V0)]
def lZ:az:=aE T3 []
def mx:az:=aE UL []
def fN:az:=aA (aE [ct,jj,D1,dT,g L3 true (.mov E0),g L3 true (.nilck L4),g L3 true (.fld 10 L5),g L3 true (.fld 4 L6),g L3 true (ld L7),gP L3 L8 Vf] [(8,L9)]) Uk
def fO:az:=aA (aE Rh [(9,L3)]) (dp E9 (aA (aE Ge [(10,L3),(11,V0)]) (ee 0 (.loop [9999,1,2,3,4,12,13] xq))) .skip)
def gY:az:=aA (aE PY [(14,L3),(15,L4),(16,V0)]) (ee 2 (.loop [9999,1,5,6,7,17,18] wP))
def p5:az:=aE [] [(1,V0)]
def qO:az:=.ret
def jr:az:=aA p5 qO
def xN:az:=aA gY jr
def xy:az:=aA fO xN
def ju:az:=aA fN xy
def md:az:=aA mx ju
def nJ:az:=aE De Et
def nX:az:=aE [] [(5,eX)]
def ei:az:=aA (aE [gO,cf,sw L1 V1] zq) Ve
def kF:az:=aE T9 [(8,L5)]
def gC:az:=aA (aE [rA E8 V0] yF) Te
def gK:az:=aA (aE [ct,pp,wO,dT,sP,Gf L4 Ao] [(13,L5)]) T8
def nS:az:=aE TN [(3,L5),(4,V0)]
def nU:az:=.ret
def gG:az:=aA nS nU
def zd:az:=aA gK gG
def yR:az:=aA gC zd
def rT:az:=aA kF yR
def Aa:az:=aE ZP [(11,L2),(10,NJ)]
def Ad:az:=aE abj [(12,L6)]
def vp:az:=aA ZU (aA (aE [sw tA V0] [(24,L0)]) (dp E24 (aA (AO [He,iMu Ep oG,Pg sT,eJ 24 L2,fV,wg L1 L4,DV] [(5,L5),(6,tA)] [(2,7),(3,7),(4,7)]) .ret) .skip))
def nB:az:=aA (aE [dE 169 [sT]] yy) (aA (aE [mj oG V0] [(25,L0)]) (dp E25 (aE [dE 170 [sT],eJ 1 E9,mi,eJ 2 E9,fK 1 L3 yu] []) (aA (aE [eJ 2 E9,cf,dE 190 [L1,yu],G5] [(26,L3)]) (dp E26 (aA (aE [He,iMu Ep oG,wg L1 xK,DV] [(5,L2),(6,v (.int .i64 229))]) .ret) .skip))))
def vC:az:=aE XX []
def lP:az:=aE BJ [(8,L0),(9,V0)]
def iX:az:=aE T2 [(10,L4)]
def gD:az:=aA (aE [wX,cf,Jo] [(23,L2)]) SZ
def gH:az:=aA (aE [wX,cf,Gt] [(24,L2)]) Tn
def eu:az:=aE Ti [(13,L3)]
def iS:az:=aE CT yy
def jc:az:=aA (aE [eJ 1 oG,cf,eJ 2 oG,dT,o8 [n0,n0] [(0,1,L1),(1,1,L3)]] [(28,L4),(29,V0)]) (ee 0 (.loop [9999,9,15,16,17,30,31,32] qJ))
def dC:az:=ee 2 (aA (aE [Gf tA V0,g L0 true (.mov E1),K5,rE] [(33,L3)]) (dp E33 (aA (aE CU [(9,v (.int .i64 224))]) .ret) (aA (aE [Gf tA V0] [(34,L0)]) (dp E34 (aA (aE [o8 [n0,.ai] [(0,1,tA)],Cv,yC] [(18,L1)]) (aA (aA (aE [vU yu,Gf L0 V0] [(35,L1)]) (dp E35 (aE [Gg,oC,eJ 1 Q3,lV] []) .skip)) (aA (aE [qT E4,lh 2 Q3,dE 205 [L0,L1],lM,ly] [(19,L3),(20,L4)]) (aA (aA (aE [sw E20 V0] [(36,L0)]) (dp E36 (aA (aE CU [(9,E20)]) .ret) .skip)) (aA (aE [qT E3,o8 [n0,n0,n0,n0,n0,n0,.int .u64 0,.str []] [(0,1,eX),(3,1,PP)],C5,lM,ly,fK 1 E8 L3] [(9,L4)]) .ret))))) .skip))))
def fG:az:=AO U9 [(21,L7),(22,L6)] [(0,8),(1,8),(2,8),(3,8),(4,8)]
def fH:az:=aA (aE [vU yu,mj L0 eX] [(37,L1)]) Vd
def fw:az:=aA (aE [mj NJ V0] [(38,L0)]) T6
def fg:az:=aE [xn PR,GE] [(9,NJ)]
def fh:az:=.ret
def fj:az:=aA fg fh
def fq:az:=aA fw fj
def fE:az:=aA fH fq
def fF:az:=aA fG fE
def bv:az:=aA dC fF
def wI:az:=aA jc bv
def wA:az:=aA iS wI
def gF:az:=aA eu wA
def ws:az:=aA gH gF
def lA:az:=aA gD ws
def pC:az:=aA iX lA
def jZ:az:=aE [Nz] my
def jW:az:=aE [oc 1 [v (.str [83,69,76,69,67,84])],sF] []
def jM:az:=aE Zy rx
def gR:az:=aA (aE [dE 18 [E0,jt,LV],gx,mi] []) (aA (aE [gx,cf,xi] xk) (dp E3 (aE [i (.mkfn 130 [E0] []),dE 129 [E0,xK,L0],oS,lV] []) .skip))
def jQ:az:=aE [oc 1 [v (.str [70,82,79,77])],sF] []
def jV:az:=aE XT []
def ka:az:=aE aa9 []
def gX:az:=aA (aE [dE 18 [E0,V1,v (.str [87,72,69,82,69])]] ji) (dp E4 (aE [DK,BU,mi] []) .skip)
def hY:az:=aA (aE [dE 18 [E0,V1,v (.str [71,82,79,85,80])]] oz) (dp E5 (aA (aE [oc 1 [v (.str [66,89])],sF] []) (aE [i (.mkfn 113 [E0] []),dE 197 [E0,fT,L0],Bp,lV] [])) .skip)
def g7:az:=aA (aE [dE 18 [E0,V1,v (.str [72,65,86,73,78,71])]] lK) (dp E6 (aE [DK,D8,mi] []) .skip)
def jA:az:=aE [lh 9 E2,fK 9 E1 L0] []
def jz:az:=.ret
def An:az:=aA (aE [dE 4 [E0,fT,Vn]] kz) Yb
def Av:az:=aA (aA (aE [dE 18 [E0,V1,v (.str [68,69,83,67])],oS,mi] []) (aA (aE [oS,cf,xi] pL) (dp E4 (aE [dE 18 [E0,V1,v (.str [65,83,67])]] []) .skip))) SC
def zw:az:=aE Hz my
def zh:az:=aE aaf vV
def vw:az:=aA (aE [dE 18 [E0,V1,v (.str [79,82,68,69,82])]] oz) (dp E5 (aA (aE [oc 1 [v (.str [66,89])],sF] []) (aE [i (.mkfn 194 [E0] []),dE 195 [E0,fT,L0],gx,lV] [])) .skip)
def vD:az:=aA (aE [dE 18 [E0,V1,v (.str [76,73,77,73,84])]] lK) (dp E6 (aE [dE 193 [E0],oS,mi] []) .skip)
def FE:az:=aA (aE [lh 3 E2,fK 3 E1 L0] []) .ret
def ja:az:=aE abT GZ
def iZ:az:=aA Ly (aA (aE xZ xV) (dp ER (aA (aE IN [(5,E6)]) .ret) .skip))
def iY:az:=aA (aE [pu,cf,gv,rA L2 V1,g L3 false (.fld 0 E3),DB,Sa,g L3 false (.bin .gtr L6 fT),gP L3 Vt L7] [(16,L8)]) YF
def ng:az:=aE abQ D5
def nu:az:=aE [i (.mkfn 182 [] [E7])] wT
def nz:az:=aA (aE LZ Ha) (ee 0 (.loop [5,9,10,11,12,20,21] nG))
def iV:az:=aE aaV []
def iT:az:=aE Zj [(13,L5),(14,L6)]
def iQ:az:=aA (aE [qT E7,uT,eJ 11 L1,dT,g L3 false (.mov yu),g L3 false (.bin .neq L4 V0),IT,g L6 false (.mov tA),g L6 false (.len L7),g L6 false (.fld 1 E3),g L6 false (ld L9),g L6 false (.len mA),g L6 false (.bin .neq L8 nK),gP L6 Vt vR,g rh false (.mov tA),g rh false (.fld 2 E3),g rh false (ld FY),g rh false (.call 184 [BV,AD] false),g rh false (.una .not As),gP rh Vt TH] [(22,PT)]) aa0
def iP:az:=aE aa8 [(5,V0)]
def iE:az:=.ret
def p8:az:=aA iP iE
def B4:az:=aA iQ p8
def Dg:az:=aA iT B4
def pX:az:=aA iV Dg
def nv:az:=aA nz pX
def nF:az:=aA nu nv
def nk:az:=aA ng nF
def iO:az:=aA iY nk
def iN:az:=aA iZ iO
def tbl:List kW:=[
.none,
.fn auG,
.fn arR,
.fn atQ,
.fn arZ,
.fn auk,
.fn asa,
.fn asj,
.prim 4,
.fn atG,
.fn au8,
.fn arP,
.nilfn aum,
.fn auP,
.fn auW,
.fn atP,
.fn auT,
.fn ass,
.fn asV,
.fn auJ,
.fn atN,
.fn auH,
.fn auO,
.fn atX,
.fn au7,
.prim 6,
.fn atu,
.fn arX,
.fn arJ,
.fn atl,
.fn auM,
.fn arQ,
.fn arI,
.fn arH,
.fn auy,
.round qG,
.fn au4,
.fn atr,
.fn auq,
.fn aul,
.fn au3,
.fn ar8,
.fn auI,
.prim 2,
.none,
.none,
.none,
.none,
.fn asi,
.fn asP,
.fn asH,
.fn aui,
.fn auu,
.fn ar9,
.fn as2,
.fn arF,
.fn as9,
.fn aus,
.fn as4,
.round pZ,
.fn au1,
.fn atv,
.fn att,
.fn atW,
.nilfn auA,
.prim 8,
.fn arE,
.fn ary,
.fn arx,
.fn ase,
.nilfn auQ,
.nilfn at5,
.nilfn aut,
.fn atj,
.fn aug,
.fn atg,
.fn auc,
.fn asd,
.fn atA,
.fn atm,
.fn ar7,
.fn avf,
.fn arG,
.fn ar3,
.fn auZ,
.fn atc,
.fn ats,
.fn au9,
.fn asz,
.fn arC,
.fn arB,
.fn au2,
.fn auh,
.fn arT,
.fn ar5,
.fn atC,
.fn auD,
.fn ata,
.fn arL,
.fn atz,
.fn aud,
.fn asN,
.fn atL,
.fn auR,
.fn asf,
.fn auL,
.fn ash,
.fn asm,
.fn atp,
.fn auv,
.fn atx,
.fn asY,
.fn arM,
.fn atf,
.fn atH,
.fn atI,
.fn atn,
.fn auj,
.fn asB,
.fn au0,
.fn avh,
.fn avb,
.fn ath,
.fn asc,
.fn asI,
.fn auf,
.fn asA,
.fn ar0,
.fn ar2,
.fn auo,
.fn asU,
.fn as8,
.fn auw,
.fn asW,
.fn arY,
.fn arA,
.fn ava,
.fn asR,
.fn arz,
.fn asZ,
.fn aty,
.fn atZ,
.fn aue,
.fn arO,
.fn aub,
.fn ati,
.fn as7,
.fn asK,
.fn auK,
.fn as5,
.fn arK,
.fn asv,
.fn auN,
.fn asx,
.fn atK,
.fn atM,
.fn atb,
.fn asF,
.fn asC,
.fn ar6,
.fn atT,
.fn asL,
.fn avg,
.fn atk,
.fn au5,
.fn aur,
.fn asu,
.fn atB,
.fn atq,
.fn ate,
.fn as3,
.fn ar4,
.fn asO,
.fn asb,
.fn asJ,
.fn asD,
.fn atD,
.fn auX,
.fn auF,
.fn asQ,
.fn arS,
.fn asS,
.fn atd,
.fn as1,
.fn asw,
.fn avi,
.fn ave,
.none,
.none,
.fn arV,
.fn asg,
.fn auY,
.fn asy,
.fn ato,
.fn arU,
.fn atE,
.fn arD,
.fn aua,
.fn asX,
.fn auU,
.fn arW,
.fn aux,
.fn as6,
.fn atS,
.fn asE,
.fn arN,
.none,
.none,
.none,
.none,
.none,
.none,
.none,
.none,
.none,
.fn asp,
.none,
.none,
.none,
.fn atU,
.none,
.none,
.fn auS,
.none,
.fn ast,
.fn asn,
.fn asr,
.none,
.none,
.none,
.none,
.none,
.none,
.none,
.none,
.none,
.none,
.none,
.none,
.none,
.none,
.none,
.none,
.none,
.none,
.none,
.none,
.none,
.none,
.none,
.none,
.none,
.none,
.none,
.none,
.none,
.none,
.none,
.none,
.none,
.none,
.none,
.none,
.none,
.none,
.none,
.fn as0,
.fn ar1,
.fn auz,
.none,
.none,
.fn asG,
.fn aup,
.none,
.none,
.fn asT,
.fn asM,
.none,
.none,
.fn aun,
.fn atV,
.fn asq,
.fn auB,
.none,
.none,
.none,
.none,
.none,
.none,
.none,
.fn auC,
.none,
.none,
.none,
.none,
.none,
.none,
.none,
.none,
.none,
.none,
.none,
.none,
.none,
.none,
.none,
.none,
.none,
.none,
.none,
.none,
.none,
.none,
.none,
.none,
.none,
.none,
.none,
.none,
.none,
.none,
.none,
.none,
.none,
.none,
.none,
.none,
.none,
.none,
.none,
.none,
.none,
.none,
.none,
.none,
.none,
.none,
.none,
.none,
.none,
.none,
.none,
.none,
.none,
.none,
.none,
.none,
.none,
.none,
.none,
.none,
.none,
.none,
.none,
.none,
.none,
.none,
.none,
.none,
.none,
.none,
.none,
.none,
.none,
.none,
.none,
.none,
.none,
.none,
.none,
.none,
.none,
.none,
.none,
.none,
.none,
.none,
.none,
.none,
.none,
.none,
.none,
.none,
.none,
.none,
.none,
.none,
.none,
.none,
.none,
.none,
.none,
.none,
.none,
.none,
.none,
.none,
.none,
.fn avc,
.fn auE,
.fn avd,
.fn atJ,
.fn avj,
.fn aso,
.fn auV,
.fn atF,
.fn au6,
.fn atY,
.fn atw]
end Go.AM.P
namespace Go.AM
def code:Code:=⟨fun n=>P.tbl.getD n .none,prims⟩
end Go.AM
namespace Go.AM.I
abbrev qcw:Nat:=1
abbrev qce:Nat:=2
abbrev qcn:Nat:=3
abbrev qfd:Nat:=4
abbrev qgn:Nat:=5
abbrev qhg:Nat:=6
abbrev qbx:Nat:=7
abbrev strings_ToUpper:Nat:=8
abbrev qci:Nat:=9
abbrev qbf:Nat:=10
abbrev qch:Nat:=11
abbrev qgd:Nat:=12
abbrev qbm:Nat:=13
abbrev qcv:Nat:=14
abbrev qcq:Nat:=15
abbrev qbo:Nat:=16
abbrev qby:Nat:=17
abbrev qfv:Nat:=18
abbrev qcm:Nat:=19
abbrev qcd:Nat:=20
abbrev qbr:Nat:=21
abbrev qbh:Nat:=22
abbrev qhi:Nat:=23
abbrev qcg:Nat:=24
abbrev internal_bytealg_IndexByteString:Nat:=25
abbrev qhm:Nat:=26
abbrev qhl:Nat:=27
abbrev qhn:Nat:=28
abbrev qhb:Nat:=29
abbrev qbj:Nat:=30
abbrev qdg:Nat:=31
abbrev qee:Nat:=32
abbrev qdj:Nat:=33
abbrev qdx:Nat:=34
abbrev qbg:Nat:=36
abbrev qgw:Nat:=37
abbrev qbn:Nat:=38
abbrev qds:Nat:=39
abbrev qea:Nat:=40
abbrev qbq:Nat:=41
abbrev qbp:Nat:=42
abbrev slices_Sort_int_int:Nat:=43
abbrev qge:Nat:=48
abbrev qcc:Nat:=49
abbrev qbi:Nat:=50
abbrev qfb:Nat:=51
abbrev qbd:Nat:=52
abbrev qbc:Nat:=53
abbrev qbk:Nat:=54
abbrev qco:Nat:=55
abbrev qcu:Nat:=56
abbrev qhj:Nat:=57
abbrev qhk:Nat:=58
abbrev lex_Tokens_r0:Nat:=59
abbrev qcp:Nat:=60
abbrev qhh:Nat:=61
abbrev qcf:Nat:=62
abbrev qfj:Nat:=63
abbrev qga:Nat:=64
abbrev lex_number:Nat:=65
abbrev qh:Nat:=66
abbrev qd:Nat:=67
abbrev qf:Nat:=68
abbrev qdu:Nat:=69
abbrev qgc:Nat:=70
abbrev qfz:Nat:=71
abbrev qgb:Nat:=72
abbrev qfh:Nat:=73
abbrev qgm:Nat:=74
abbrev qhd:Nat:=75
abbrev qbw:Nat:=76
abbrev qdw:Nat:=77
abbrev qdh:Nat:=78
abbrev qdr:Nat:=80
abbrev qt:Nat:=81
abbrev qad:Nat:=82
abbrev qcb:Nat:=83
abbrev qbz:Nat:=84
abbrev qcx:Nat:=85
abbrev qbb:Nat:=86
abbrev qgk:Nat:=87
abbrev qbl:Nat:=88
abbrev qb:Nat:=89
abbrev qe:Nat:=90
abbrev qdl:Nat:=91
abbrev qed:Nat:=92
abbrev qaa:Nat:=93
abbrev qae:Nat:=94
abbrev qfu:Nat:=95
abbrev qfp:Nat:=96
abbrev qfs:Nat:=97
abbrev qfo:Nat:=98
abbrev qeu:Nat:=99
abbrev qab:Nat:=100
abbrev qbs:Nat:=101
abbrev qca:Nat:=102
abbrev qac:Nat:=103
abbrev qdv:Nat:=104
abbrev qep:Nat:=105
abbrev qdq:Nat:=106
abbrev qfx:Nat:=107
abbrev qfn:Nat:=108
abbrev qfm:Nat:=109
abbrev qez:Nat:=110
abbrev qfk:Nat:=111
abbrev qfw:Nat:=112
abbrev qfi:Nat:=113
abbrev qk:Nat:=114
abbrev qgl:Nat:=115
abbrev qhc:Nat:=116
abbrev ql:Nat:=117
abbrev qel:Nat:=118
abbrev qda:Nat:=119
abbrev qes:Nat:=122
abbrev qfy:Nat:=123
abbrev qcj:Nat:=124
abbrev qck:Nat:=125
abbrev qcl:Nat:=126
abbrev qfq:Nat:=127
abbrev qfr:Nat:=128
abbrev qev:Nat:=129
abbrev qfe:Nat:=130
abbrev qft:Nat:=131
abbrev qff:Nat:=132
abbrev qm:Nat:=133
abbrev qn:Nat:=134
abbrev qa:Nat:=135
abbrev qgj:Nat:=136
abbrev qha:Nat:=137
abbrev qc:Nat:=138
abbrev qi:Nat:=139
abbrev qj:Nat:=140
abbrev qz:Nat:=141
abbrev qaf:Nat:=142
abbrev qam:Nat:=143
abbrev qbe:Nat:=144
abbrev qu:Nat:=145
abbrev qak:Nat:=146
abbrev qao:Nat:=147
abbrev qbt:Nat:=148
abbrev qag:Nat:=149
abbrev qaj:Nat:=150
abbrev qq:Nat:=151
abbrev qgg:Nat:=152
abbrev qgx:Nat:=153
abbrev qr:Nat:=154
abbrev qgh:Nat:=155
abbrev qgy:Nat:=156
abbrev qs:Nat:=157
abbrev qeq:Nat:=158
abbrev qdo:Nat:=159
abbrev qgi:Nat:=160
abbrev qgz:Nat:=161
abbrev qaz:Nat:=162
abbrev qhe:Nat:=163
abbrev qey:Nat:=164
abbrev qet:Nat:=165
abbrev qan:Nat:=166
abbrev qbv:Nat:=167
abbrev qah:Nat:=168
abbrev qai:Nat:=169
abbrev qal:Nat:=170
abbrev qef:Nat:=171
abbrev qer:Nat:=172
abbrev qen:Nat:=173
abbrev qeo:Nat:=174
abbrev qo:Nat:=175
abbrev qp:Nat:=176
abbrev qw:Nat:=177
abbrev qcz:Nat:=178
abbrev qej:Nat:=179
abbrev qek:Nat:=180
abbrev qem:Nat:=181
abbrev qeg:Nat:=182
abbrev qcy:Nat:=183
abbrev qgt:Nat:=184
abbrev qv:Nat:=189
abbrev qap:Nat:=190
abbrev qde:Nat:=191
abbrev qfc:Nat:=192
abbrev qfl:Nat:=193
abbrev qfg:Nat:=194
abbrev qew:Nat:=195
abbrev qg:Nat:=196
abbrev qex:Nat:=197
abbrev qhf:Nat:=198
abbrev qdn:Nat:=199
abbrev qdm:Nat:=200
abbrev qdk:Nat:=201
abbrev qdt:Nat:=202
abbrev qdp:Nat:=203
abbrev qct:Nat:=204
abbrev qx:Nat:=205
abbrev qfa:Nat:=215
abbrev qei:Nat:=219
abbrev qay:Nat:=222
abbrev qat:Nat:=224
abbrev qav:Nat:=225
abbrev qau:Nat:=226
abbrev qgf:Nat:=266
abbrev qdf:Nat:=267
abbrev qdy:Nat:=268
abbrev qgu:Nat:=271
abbrev qdz:Nat:=272
abbrev qy:Nat:=275
abbrev qgv:Nat:=276
abbrev qcr:Nat:=279
abbrev qbu:Nat:=280
abbrev qgr:Nat:=281
abbrev qcs:Nat:=282
abbrev qdb:Nat:=290
abbrev row_right:Nat:=294
abbrev slices_Clone_api_Row_api_Value:Nat:=299
abbrev qgs:Nat:=399
abbrev qdc:Nat:=401
abbrev qas:Nat:=403
abbrev qgq:Nat:=404
abbrev qeb:Nat:=405
abbrev qgo:Nat:=406
abbrev qgp:Nat:=407
abbrev qec:Nat:=408
end Go.AM.I
