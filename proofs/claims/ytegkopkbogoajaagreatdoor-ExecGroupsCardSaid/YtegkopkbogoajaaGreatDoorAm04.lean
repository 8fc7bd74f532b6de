/- Part of the proof. -/
import Derived.Test.YtegkopkbogoajaaGreatDoorAm03
set_option linter.unusedVariables false
set_option linter.unusedSimpArgs false
namespace Go.AM.P
abbrev jN(x y:bp):aU:=i (.bin .add x y)
abbrev ki(n:Nat)(x y:bp):aU:=i (.app n x y)
abbrev bH:=ai.blk
abbrev oF(n:Nat)(x:bp):aU:=i (.box n x)
abbrev yn(x:List aa)(y:List (Nat×Nat×bp)):aU:=i (.build x y)
abbrev bt(f:Nat)(x:List bp):aU:=i (.call f x false)
abbrev aX:=ai.cond
abbrev cT(x y:bp):aU:=i (.bin .eql x y)
abbrev zQ(n:Nat)(x:bp):aU:=i (.ext n x)
abbrev dN(n:Nat)(x:bp):aU:=i (.fld n x)
abbrev Rc(x y:bp):aU:=i (.bin .geq x y)
abbrev Oo(x y:bp):aU:=i (.bin .gtr x y)
abbrev BJ(m n:Nat)(x y:bp):aU:=i (.idxa m n x y)
abbrev dH(n:Nat)(x y:bp):aU:=i (.idxs n x y)
abbrev uy(x:bp):aU:=i (.len x)
abbrev eR(x:bp):aU:=i (.lent x)
abbrev dG(x y:bp):aU:=i (.bin .leq x y)
abbrev jQ(n:Nat)(x:bp):aU:=i (.load true n x)
abbrev gU(x y:bp):aU:=i (.bin .lss x y)
abbrev kN(n:Nat)(x:List bp):aU:=i (.mkl n x)
abbrev Vy(n:Nat):aU:=i (.mknil n)
abbrev cI(x:bp):aU:=i (.mov x)
abbrev gj(x y:bp):aU:=i (.bin .mul x y)
abbrev kT(x y:bp):aU:=i (.bin .neq x y)
abbrev cA(x:bp):aU:=i (.nilck x)
abbrev dy(x y z:bp):aU:=i (.pick x y z)
abbrev aj:=ai.reg
abbrev fr:=ai.regd
abbrev af:=ai.seq
abbrev dl(n:Nat)(x y:bp):aU:=i (.store n x y)
abbrev IT(x y:bp):aU:=i (.bin .sub x y)
abbrev pW(x:bp):aU:=i (ld x)
abbrev b9(x:bp):aU:=i (lt x)
abbrev cS:bp:=v (.int .i64 2)
abbrev Og:List (Nat×bp):=[(13,L0)]
abbrev nr:ai:=.exit 0
abbrev Rv:ai:=aX jJ .skip nr
abbrev kQ:List (Nat×bp):=[(4,L0)]
abbrev aev:bp:=v (.int .i64 30)
abbrev iO:List (Nat×bp):=[(5,L0)]
abbrev zB:aU:=jQ 12 E2
abbrev iY:aU:=zQ 0 L1
abbrev iU:aU:=zQ 1 L1
abbrev qQ:bp:=v (.int .i64 11)
abbrev AG:List (Nat×bp):=[(14,L0)]
abbrev kD:aU:=i (.una .not L1)
abbrev Kb:List (Nat×bp):=[(15,L2)]
abbrev PA:aU:=g L0 false (.mov E6)
abbrev Jw:aU:=dy L0 Vt L3
abbrev VR:ai:=aj [] [(3,Vf)]
abbrev xT:ai:=af VR .ret
abbrev HL:ai:=.exit 1
abbrev Ad:List (Nat×bp):=[(17,L0)]
abbrev aij:aU:=g L0 false (.mov E8)
abbrev Va:aU:=dy L0 Vt L4
abbrev yf:List (Nat×bp):=[(12,L0)]
abbrev Bz:ai:=aj [jN mM V1] yf
abbrev Kk:List (Nat×bp):=[(2,L0),(3,Vf)]
abbrev PP:aU:=i (.una .not L0)
abbrev G8:List (Nat×bp):=[(10,L1)]
abbrev vr:bp:=v (.int .i64 10)
abbrev aae:ai:=af (aj [] [(3,Vt)]) .ret
abbrev DQ:aU:=oF 1 (v (.agg [.yz]))
abbrev Wf:aU:=dl 1 L2 L1
abbrev eV:bp:=v (.int .i64 3)
abbrev sF:aU:=oF 12 (v (.agg [n0,n0,n0,n0,.yz,nf,.yz,.yz,.yz,.yz,.yz,n0]))
abbrev Jo:List (Nat×bp):=[(2,L6)]
abbrev jA:bp:=v (.int .i64 5)
abbrev vG:bp:=v (.int .i64 7)
abbrev gi:bp:=v (.int .i64 (-1))
abbrev aid:aU:=yn [n0,n0,n0,n0,.yz,nf,.yz,.yz,.yz,.yz,.yz,n0] [(0,1,V1),(1,1,gi),(2,1,gi),(4,1,L0)]
abbrev nu:List (Nat×bp):=[(5,L4)]
abbrev uz:aU:=jQ 4 E5
abbrev J4:aU:=dy L0 L2 Vf
abbrev DX:aU:=dy L3 L6 Vf
abbrev cV:bp:=v (.int .i64 4)
abbrev abQ:aU:=dy jE XU Vf
abbrev aca:aU:=dy Dt nb Vf
abbrev uE:List (Nat×bp):=[(21,L0)]
abbrev QP:ai:=.exit 4
abbrev wi:aU:=b9 L0
abbrev Vo:aU:=dN 9 E5
abbrev aF:aU:=pW L0
abbrev Kc:aU:=dl 1 L4 L3
abbrev yw:List (Nat×bp):=[(20,L0)]
abbrev Vu:ai:=aj [gU su yt] Ad
abbrev kA:ai:=.exit 2
abbrev xU:aU:=jQ 2 L0
abbrev HP:aU:=oF 2 (v (.agg [n0,.yz]))
abbrev yq:aU:=dl 2 L2 L1
abbrev aiS:List aU:=[dH 2 sa su,xU,HP,yq]
abbrev F6:aU:=dN 8 E5
abbrev WS:aU:=dN 1 E7
abbrev UD:aU:=dl 1 L6 L4
abbrev pq:List (Nat×bp):=[(16,L0)]
abbrev zQx:ai:=aj [jN su V1] pq
abbrev zf:ai:=aj [gU mM lM] Og
abbrev GM:aU:=jQ 12 L0
abbrev BT:aU:=dl 12 L2 L1
abbrev If:bp:=v (.int .i64 17)
abbrev fO:aU:=pW L3
abbrev ua:bp:=v (.int .i64 6)
abbrev T6:bp:=v (.int .i64 14)
abbrev de:aU:=uy L1
abbrev SB:List (Nat×bp):=[(14,L1),(15,L2),(16,V0)]
abbrev RL:aU:=dl 1 L3 L2
abbrev vX:aU:=jQ 12 E5
abbrev pn:aU:=cI Vn
abbrev fD:List aU:=[pn]
abbrev dZ:List (Nat×bp):=[(2,L0)]
abbrev iS:ai:=aj fD dZ
abbrev gv:List (Nat×bp):=[(3,L0)]
abbrev tI:ai:=af (aj [] [(2,E3)]) .ret
abbrev T4:ai:=aX jJ .skip kA
abbrev Se:aU:=dH 4 E5 E6
abbrev vT:aU:=dN 3 L0
abbrev cr:aU:=pW L1
abbrev pl:aU:=pW L4
abbrev mb:List (Nat×bp):=[(10,L0)]
abbrev Ml:ai:=aj [gU E9 E8] mb
abbrev NU:ai:=aX gY .skip nr
abbrev pS:List (Nat×bp):=[(4,L1)]
abbrev rR:aU:=uy E5
abbrev nK:List (Nat×bp):=[(3,L1)]
abbrev kX:List (Nat×bp):=[(9,L0)]
abbrev CF:ai:=aj [jN E9 V1] kX
abbrev rM:List aU:=[Vy 1]
abbrev Mg:ai:=aj rM gv
abbrev Cn:aU:=uy L0
abbrev CC:List aU:=[oF 12 E0,pn]
abbrev vz:List (Nat×bp):=[(2,L0),(3,L1),(4,V0)]
abbrev CD:ai:=aj CC vz
abbrev ln:List (Nat×bp):=[(5,L2)]
abbrev dp:aU:=dN 0 E3
abbrev abw:aU:=g L2 false (.mov E2)
abbrev ac8:aU:=g L2 false (.len L3)
abbrev K8:aU:=g L2 false (.bin .eql L4 V0)
abbrev fW:aU:=dy L2 Vt L5
abbrev Rx:aU:=g L6 false (.mov E2)
abbrev acl:aU:=g L6 false (.mov E5)
abbrev Si:ai:=af (aj [] [(4,Vf)]) .ret
abbrev gr:aU:=dN 1 E3
abbrev CU:aU:=dl 1 L0 V0
abbrev yQ:aU:=dN 2 E3
abbrev o6:bp:=v (.int .i64 9)
abbrev abN:aU:=yn [n0,n0,n0,n0,.yz,nf,.yz,.yz,.yz,.yz,.yz,n0] [(0,1,o6),(1,1,gi),(2,1,gi),(4,1,E5)]
abbrev lg:aU:=zQ 0 L3
abbrev lr:aU:=zQ 1 L3
abbrev Ix:List (Nat×bp):=[(19,L0)]
abbrev mf:List (Nat×bp):=[(9,L2)]
abbrev bV:aU:=oF 4 (v (.agg [n0,n0,.int .u64 0,.str []]))
abbrev Tg:aU:=dl 4 L6 L4
abbrev nM:bp:=v (.int .i64 140)
abbrev G2:aU:=jQ 4 gY
abbrev lX:aU:=kN 4 [L0]
abbrev mm:List (Nat×bp):=[(8,L2)]
abbrev nz:List (Nat×bp):=[(18,L0)]
abbrev pf:List (Nat×bp):=[(15,L0)]
abbrev wo:ai:=aj [gU sa jJ] pf
abbrev zo:ai:=aX yt .skip nr
abbrev Lu:aU:=oF 2 (v (.agg [.yz,.yz]))
abbrev iN:List (Nat×bp):=[(7,L2)]
abbrev KX:aU:=dN 0 E7
abbrev UJ:aU:=ki 4 L0 L2
abbrev CP:aU:=dN 8 E2
abbrev Dd:List aU:=[CP,aF,de]
abbrev jI:List (Nat×bp):=[(5,L1)]
abbrev wc:ai:=aj [jN sa V1] AG
abbrev Ti:ai:=aj rM iO
abbrev mc:List (Nat×bp):=[(6,V0)]
abbrev Cc:ai:=aj [] mc
abbrev vv:aU:=dN 7 E2
abbrev tE:List aU:=[kT E6 V0]
abbrev CE:List (Nat×bp):=[(27,L0)]
abbrev HE:List (Nat×bp):=[(24,L0)]
abbrev zD:List aU:=[Vy 4]
abbrev He:aU:=dN 1 E8
abbrev cE:aU:=zQ 0 L2
abbrev cH:aU:=zQ 1 L2
abbrev nG:aU:=dl 4 L5 L3
abbrev HK:List (Nat×bp):=[(23,L0)]
abbrev Hx:ai:=aj [gU sE By] yw
abbrev zP:aU:=dN 0 E8
abbrev M4:aU:=ki 1 E6 L0
abbrev jc:List (Nat×bp):=[(6,L1)]
abbrev HX:ai:=aj [jN sE V1] Ix
abbrev Hb:aU:=cT L0 V0
abbrev Lz:aU:=g L1 true (ld L2)
abbrev IE:aU:=dy L1 L5 Vf
abbrev iZ:List (Nat×bp):=[(6,L0)]
abbrev Cu:List aU:=[kT E7 V0]
abbrev dr:aU:=uy E0
abbrev NA:ai:=aX E5 .skip nr
abbrev CN:aU:=dH 1 E0 E3
abbrev cK:aU:=pW L2
abbrev lF:ai:=aj [] [(2,Vf)]
abbrev rZ:ai:=af lF .ret
abbrev LZ:ai:=aj [jN E3 V1] gv
abbrev jP:aU:=uy E1
abbrev Uy:List aU:=[dr,jP,kT L0 L1]
abbrev mi:List (Nat×bp):=[(4,L2)]
abbrev tW:List (Nat×bp):=[(3,V0)]
abbrev zM:ai:=aj [] tW
abbrev Ub:ai:=af (aj [] [(2,Vt)]) .ret
abbrev vR:aU:=zQ 0 L4
abbrev uS:aU:=zQ 1 L4
abbrev LG:bp:=v (.int .i64 200)
abbrev Tt:aU:=ki 1 L2 L3
abbrev zy:aU:=Rc L1 V0
abbrev zr:List (Nat×bp):=[(22,L0)]
abbrev rU:aU:=oF 4 E0
abbrev b8:aU:=jQ 4 E3
abbrev wb:aU:=dN 0 L0
abbrev ad1:List aU:=[cA E8,wb,dN 0 L1,cK,uy L3]
abbrev pC:List (Nat×bp):=[(11,L0)]
abbrev S2:ai:=aj [gU yt sa] pq
abbrev tZ:aU:=jQ 8 L0
abbrev rA:aU:=oF 8 (v (.agg [n0,n0,n0,n0,n0,n0,.int .u64 0,.str []]))
abbrev wy:aU:=dl 8 L2 L1
abbrev acw:List aU:=[dH 8 jJ yt,tZ,rA,wy]
abbrev Gb:List (Nat×bp):=[(17,L2)]
abbrev Ly:aU:=dN 2 E8
abbrev acV:List aU:=[Ly,aF,zy]
abbrev hZ:aU:=dN 0 E4
abbrev R0:aU:=dl 1 L5 L4
abbrev Ts:ai:=aj [jN yt V1] pf
abbrev KW:ai:=aj [gU lM gY] yf
abbrev K6:ai:=aX mM .skip nr
abbrev G1:aU:=dN 0 E6
abbrev Nf:aU:=IT L2 V1
abbrev g8:aU:=dN 1 E2
abbrev sZ:aU:=dN 2 E2
abbrev GA:ai:=aj [jN lM V1] pC
abbrev rv:List aU:=[jP]
abbrev fY:List (Nat×bp):=[(7,L0)]
abbrev HR:ai:=aj [gU E6 E5] fY
abbrev Ct:ai:=aX E7 .skip nr
abbrev Tj:ai:=aj [dH 1 E4 E6,aF] nK
abbrev va:List (Nat×bp):=[(2,L2)]
abbrev zA:ai:=aj [jN E6 V1] iZ
abbrev nT:List (Nat×bp):=[(1,L0)]
abbrev jK:ai:=aj fD nT
abbrev rN:List aU:=[dr]
abbrev Nn:ai:=aj rN [(4,E0),(5,L0),(6,V0)]
abbrev zc:ai:=af (aj [] [(1,E2)]) .ret
abbrev Co:aU:=i (.mins L1 [E1])
abbrev Sg:ai:=af (aj [Vy 1,dr,Co,i (.slice 1 E0 none (some L2)),ki 1 L0 L3] [(2,L4)]) .ret
abbrev lU:List (Nat×bp):=[(8,L0)]
abbrev On:ai:=aj [gU E7 E6] lU
abbrev HT:ai:=aX E8 .skip nr
abbrev Uc:aU:=dl 1 L7 L6
abbrev HB:ai:=aj [jN E7 V1] fY
abbrev tp:aU:=oF 1 E0
abbrev GD:List (Nat×bp):=[(1,L0),(2,L1)]
abbrev fG:aU:=dN 0 E1
abbrev rP:List (Nat×bp):=[(7,L1)]
abbrev nJ:aU:=pW L5
abbrev Nv:bp:=v (.int .i64 8000)
abbrev zp:List (Nat×bp):=[(5,L3)]
abbrev K9:aU:=g L0 true (.mov E2)
abbrev NQ:ai:=aj [gU E8 E7] kX
abbrev HW:ai:=aX E9 .skip nr
abbrev oV:List (Nat×bp):=[(4,V0)]
abbrev G4:ai:=aj [] oV
abbrev nI:List (Nat×bp):=[(2,L1)]
abbrev BS:ai:=aj [jN E8 V1] lU
abbrev Rw:ai:=aj rM dZ
abbrev Oi:aU:=dH 1 E0 V0
abbrev fk:aU:=jQ 4 L0
abbrev wD:aU:=dl 4 L2 L1
abbrev yZ:aU:=bt 122 [L0]
abbrev Zq:aU:=g L2 false (.fld 0 E5)
abbrev li:aU:=g L2 false (ld L3)
abbrev acd:aU:=g L6 true (.fld 0 E5)
abbrev Do:aU:=g L6 true (ld L7)
abbrev Gw:List (Nat×bp):=[(11,L2)]
abbrev Rj:List aU:=[dr,Oo L0 Nv]
abbrev aba:List aU:=[dH 12 mM sa,GM,sF,BT]
abbrev lS:List (Nat×bp):=[(6,L4)]
abbrev Lx:aU:=dN 1 E5
abbrev adn:List aU:=[Lx,aF,zy]
abbrev Nr:aU:=kN 1 [L3]
abbrev Zj:List aU:=[dN 2 E5,aF,zy]
abbrev gy:aU:=dN 0 E5
abbrev M5:List (Nat×bp):=[(7,L2),(6,L3)]
abbrev B9:aU:=dN 0 E9
abbrev ur:bp:=v (.int .i64 8)
abbrev N2:aU:=cT L1 ur
abbrev acn:aU:=g L2 false (.bin .eql L4 vr)
abbrev Ch:List (Nat×bp):=[(10,L6)]
abbrev TR:aU:=g L2 true (.mov E0)
abbrev CZ:List (Nat×bp):=[(1,L0),(2,V0)]
abbrev Ln:ai:=aj fD CZ
abbrev Lm:aU:=dy L1 Vt L4
abbrev FZ:aU:=IT L0 V1
abbrev wH:aU:=kN 1 [L1]
abbrev BZ:List (Nat×bp):=[(7,L3)]
abbrev Nz:ai:=aj [] [(8,V0)]
abbrev Cl:List (Nat×bp):=[(5,L5)]
abbrev BW:ai:=aj [jN E4 V1] kQ
abbrev Il:ai:=aj [gU jJ mM] AG
abbrev FP:ai:=aX sa .skip nr
abbrev Mi:List aU:=[dH 1 lM jJ,aF]
abbrev Cb:aU:=jQ 4 E8
abbrev Uz:aU:=bt 131 [L0,L1]
abbrev lu:aU:=dl 4 E5 L3
abbrev BM:ai:=aj [jN jJ V1] Og
abbrev MM:ai:=aj [oF 2 E0,bV] vz
abbrev dV:aU:=dN 0 E2
abbrev vt:List (Nat×bp):=[(10,L2)]
abbrev Lo:aU:=dl 4 E3 L2
abbrev vf:List (Nat×bp):=[(4,L3)]
abbrev jL:aU:=yn [n0,n0,.int .u64 0,.str []] []
abbrev LW:aU:=dl 4 L1 L0
abbrev wx:aU:=dl 4 E3 L0
abbrev SW:aU:=g L0 true (.mov E0)
abbrev SC:aU:=g L0 true (ld L3)
abbrev jS:List (Nat×bp):=[(6,L2)]
abbrev iX:aU:=cT L1 V0
abbrev fh:aU:=jQ 4 E4
abbrev ry:aU:=jQ 4 E6
abbrev rB:aU:=dl 4 E4 L3
abbrev nH:aU:=dl 4 E2 L0
abbrev IP:List aU:=[jL,nH]
abbrev Mf:ai:=af (aj IP [(3,nM)]) .ret
abbrev uf:aU:=jQ 4 E7
abbrev uh:aU:=dl 4 E4 L0
abbrev ac9:aU:=g L2 false (.load true 4 E6)
abbrev acp:aU:=g L2 false (.load true 4 E5)
abbrev acq:aU:=g L2 false (.call 136 [L3,L4] false)
abbrev nU:aU:=dl 4 E5 L0
abbrev zC:List aU:=[bV]
abbrev Rp:ai:=aj zC [(2,L0),(3,V0)]
abbrev ll:aU:=g L0 false (.mov E0)
abbrev mn:aU:=dy L0 Vt L2
abbrev SF:aU:=dl 4 L4 L2
abbrev Cm:aU:=jQ 4 E9
abbrev Lc:aU:=dH 4 E0 E3
abbrev yJ:aU:=jQ 4 L2
abbrev Tr:ai:=aj [kT E4 V0] iZ
abbrev gI:ai:=aj [] [(2,V0)]
abbrev rV:ai:=af gI .ret
abbrev rG:List (Nat×bp):=[(2,L3)]
abbrev RR:ai:=aj [gU Ja Jb] zr
abbrev SU:ai:=aX OQ .skip kA
abbrev Tp:ai:=aj [jN Ja V1] uE
abbrev Sz:ai:=aj [] [(6,E7)]
abbrev Gi:List (Nat×bp):=[(2,L0),(3,L1),(4,Vf)]
abbrev cN:aU:=cA E0
abbrev pd:aU:=dN 3 E2
abbrev o7:ai:=af (aj fD [(3,L0),(4,Vf)]) .ret
abbrev RY:ai:=aj [] [(0,v .nilm)]
abbrev Ni:ai:=aj zC nT
abbrev zL:aU:=dl 4 E1 L0
abbrev Cf:ai:=aj [gU E5 E4] iZ
abbrev rL:ai:=aX E6 .skip nr
abbrev G6:ai:=aj [] [(3,E5)]
abbrev F7:ai:=aX E7 tI .skip
abbrev vD:ai:=aj [jN E5 V1] iO
abbrev FR:ai:=aj rN [(4,L0),(5,V0)]
abbrev zI:ai:=af (aj [] [(2,gi)]) .ret
abbrev kj:aU:=pW E1
abbrev RO:aU:=g L2 true (ld E1)
abbrev CM:aU:=oF 1 E1
abbrev Ss:ai:=aX Jb .skip kA
abbrev acN:List aU:=[dH 2 uO sE,xU,HP,yq]
abbrev TL:aU:=dl 4 L7 L5
abbrev T9:aU:=kN 1 [gY]
abbrev UK:List aU:=[ry,uh]
abbrev SL:List aU:=[bt 202 [],bV,LW]
abbrev lY:List (Nat×bp):=[(5,V0)]
abbrev RW:aU:=g L2 true (.fld 0 E2)
abbrev gJ:aU:=g L2 true (ld L3)
abbrev ko:aU:=dy L2 L5 Vf
abbrev B3:aU:=cT L1 V1
abbrev Lk:List aU:=[dV,aF,B3]
abbrev adV:aU:=g E5 true (.fld 1 E2)
abbrev CV:List aU:=[jL,wx]
abbrev Ny:ai:=af (aj CV [(4,cS)]) .ret
abbrev LK:ai:=aj [dH 1 gY mM,aF] rP
abbrev abT:aU:=g L2 false (.mov E7)
abbrev Gs:List aU:=[jL,uh]
abbrev Nt:ai:=af (aj Gs [(5,cS)]) .ret
abbrev aar:List (Nat×bp):=[(2,L0),(3,L1),(4,L2),(5,V0)]
abbrev ma:aU:=b9 E2
abbrev BK:ai:=af (aj Gs [(5,E6)]) .ret
abbrev abf:List aU:=[ma,bt 207 [L0],de]
abbrev KV:List aU:=[rU,oF 4 E1,bV]
abbrev jh:ai:=aj KV aar
abbrev dB:aU:=jQ 4 E2
abbrev tX:bp:=v (.int .i64 120)
abbrev Ms:aU:=g L0 false (.mov E7)
abbrev Sa:ai:=af (aj Gs [(5,tX)]) .ret
abbrev aah:aU:=g L0 false (.bin .neq L1 V0)
abbrev MV:List aU:=[dp,aF,iX]
abbrev NR:ai:=af (aj [dB,uh] lY) .ret
abbrev Mc:List aU:=[dV,aF,iX]
abbrev BR:aU:=dl 4 E4 L4
abbrev NO:aU:=dN 7 E3
abbrev vW:aU:=kT L1 V0
abbrev GE:aU:=cT L1 eV
abbrev adf:List aU:=[hZ,aF,GE]
abbrev LX:aU:=zQ 0 L0
abbrev Ok:aU:=zQ 1 L0
abbrev Ns:aU:=g L2 false (.fld 0 E4)
abbrev Lp:aU:=dl 4 E5 L4
abbrev LB:aU:=cT L1 cV
abbrev wr:ai:=aj [rU,oF 4 E1] vz
abbrev aaU:aU:=g L1 false (.mov E1)
abbrev CW:ai:=aj [gU gY E9] pC
abbrev vF:ai:=aX lM .skip nr
abbrev Gy:List aU:=[dH 4 E8 gY,fk,bV,wD]
abbrev vj:ai:=aj [jN gY V1] mb
abbrev Gj:ai:=aj rN [(8,E0),(9,L0),(10,V0)]
abbrev Dj:List (Nat×bp):=[(3,L3)]
abbrev Gg:aU:=kN 4 [L0,L1]
abbrev yI:List (Nat×bp):=[(6,L3)]
abbrev IL:aU:=dH 4 E0 E4
abbrev aau:aU:=i (.callv E1 [L1,L2])
abbrev Da:List (Nat×bp):=[(7,L4)]
abbrev B0:aU:=dl 4 E3 L1
abbrev Lr:ai:=aj [] [(4,V1)]
abbrev Db:List (Nat×bp):=[(1,L0),(2,Vf)]
abbrev yK:ai:=aj [rU] Db
abbrev HF:ai:=aj [fG,aF] nK
abbrev iG:aU:=jQ 4 E1
abbrev abm:aU:=i (.eqa false [0,0,0,2] L0 L1)
abbrev GU:aU:=dN 2 E1
abbrev ja:bp:=v (.int .u64 0)
abbrev yy:aU:=g L2 true (.fld 3 E1)
abbrev Tu:aU:=g L2 true (.bin .eql L4 (v (.str [])))
abbrev adt:aU:=g iQ false (ld jR)
abbrev tD:aU:=dN 1 E1
abbrev HQ:aU:=gU E1 V0
abbrev yY:aU:=g L0 false (.mov E1)
abbrev TZ:aU:=g L0 false (.len L2)
abbrev abH:aU:=g L0 false (.bin .geq L1 L3)
abbrev adT:aU:=g L2 true (.bin .eql L4 gi)
abbrev K5:ai:=af (aj [] [(2,V1)]) .ret
abbrev vA:aU:=IT E1 V1
abbrev sX:aU:=g L3 true (ld L4)
abbrev aa3:aU:=g L3 true (.bin .eql L5 gi)
abbrev zO:aU:=g L0 false (ld L1)
abbrev acI:aU:=g L0 false (.bin .sub L3 V1)
abbrev Zm:aU:=g L0 false (.bin .neq L2 L4)
abbrev F1:aU:=dy L0 Vt L5
abbrev Cv:aU:=g L6 false (ld L7)
abbrev TH:aU:=g L6 false (.mov E1)
abbrev ac1:aU:=g L6 false (.bin .sub L9 V1)
abbrev acB:aU:=g L6 false (.bin .sub iQ jR)
abbrev Z3:aU:=g L6 false (.bin .neq L8 oL)
abbrev Tb:ai:=aj [oF 12 E0] Db
abbrev Lh:aU:=dy E4 L1 Vf
abbrev Sn:aU:=g L2 true (.mov E5)
abbrev Mm:aU:=dy L2 L4 Vf
abbrev yA:List (Nat×bp):=[(4,L5)]
abbrev Sl:aU:=g jR true (ld oL)
abbrev adI:aU:=g jR true (.len jE)
abbrev ny:bp:=v (.int .i64 16)
abbrev vI:aU:=dN 4 E1
abbrev Tw:aU:=dl 1 L6 L5
abbrev RJ:ai:=aX su o7 .skip
abbrev GY:aU:=zQ 0 L5
abbrev FW:aU:=zQ 1 L5
abbrev Lt:aU:=g L3 false (ld L4)
abbrev ac2:aU:=g L3 false (.len L5)
abbrev wj:bp:=v (.int .i64 12)
abbrev ab2:aU:=g L8 false (.mov E1)
abbrev K0:List aU:=[vv,aF,de]
abbrev aak:aU:=g L0 false (.mov E3)
abbrev T1:aU:=g L0 false (.mov E4)
abbrev S8:aU:=g L0 false (ld L4)
abbrev Up:aU:=dH 1 E3 E4
abbrev C3:aU:=g L0 false (.fld 0 E2)
abbrev aaY:aU:=g L0 false (.mov L3)
abbrev SG:aU:=g L4 true (ld L5)
abbrev Mt:aU:=g L9 true (ld iQ)
abbrev aaF:List aU:=[dV,aF,GE]
abbrev F2:List (Nat×bp):=[(12,L2)]
abbrev Ry:ai:=af (aj CV [(4,E6)]) .ret
abbrev Um:aU:=dH 4 E6 L1
abbrev LM:bp:=v (.int .i64 201)
abbrev C2:aU:=cT L1 cS
abbrev Sf:aU:=g L2 true (.mov E1)
abbrev S0:aU:=g L2 true (.len L5)
abbrev adz:aU:=g L2 true (.bin .geq L4 L6)
abbrev adb:List aU:=[ma,bt 222 [L0],kD]
abbrev Dn:List aU:=[dV,aF,de]
abbrev zE:aU:=g L2 false (.load true 4 E3)
abbrev adG:aU:=g L2 false (.call 122 [L3] false)
abbrev wd:aU:=g L2 false (.una .not L4)
abbrev LU:List aU:=[dB,yZ,kD,zE,adG,wd,fW]
abbrev LN:aU:=bt 227 [L0]
abbrev Xh:aU:=g L2 false (.call 228 [L3] false)
abbrev BB:aU:=bt 224 [L1]
abbrev Mv:aU:=bt 223 [L1,L3]
abbrev Ff:aU:=kT L1 L3
abbrev WY:List aU:=[dV,aF,dp,cK,Ff]
abbrev wR:aU:=gU L1 L3
abbrev EX:aU:=bt 137 [L4]
abbrev Vz:List aU:=[g8,aF,gr,cK,Ff]
abbrev om:aU:=dN 3 E3
abbrev xL:ai:=af G4 .ret
abbrev Ai:ai:=aj [rU,bV] [(1,L0),(2,L1),(3,V0)]
abbrev N9:List aU:=[fG,aF,iX]
abbrev gZ:ai:=aj [] [(1,V0)]
abbrev BG:ai:=aj [] [(2,E0)]
abbrev zW:ai:=af (aj [] [(1,gi)]) .ret
abbrev U0:ai:=aX E2 zW .skip
abbrev FC:ai:=af (aj [] [(1,V1)]) .ret
abbrev NH:aU:=g L0 false (.mov E5)
abbrev U7:aU:=g L0 false (.nilck L2)
abbrev V7:aU:=g L0 false (.len L5)
abbrev MR:aU:=dy L0 Vt L7
abbrev Wx:List aU:=[yn [n0,n0] [(0,1,gi),(1,1,gi)],oF 2 (v (.agg [n0,n0])),dl 2 L1 L0]
abbrev kf:aU:=dN 1 E4
abbrev Xk:aU:=yn [n0,n0] [(0,1,L2),(1,1,L4)]
abbrev V9:aU:=i (.eqa true [0,0] L0 L5)
abbrev AN:aU:=Rc L0 V0
abbrev AH:aU:=bt 255 [L0]
abbrev Mj:aU:=g L2 true (.bin .eql L4 V0)
abbrev WE:aU:=g L6 false (.fld 0 E2)
abbrev VS:aU:=g L2 true (.pick L6 Vt iQ)
abbrev Nx:aU:=dy L2 jR Vf
abbrev fd:ai:=aj [] [(1,Vf)]
abbrev LD:aU:=g L1 true (.una .not L4)
abbrev qE:List aU:=[tp]
abbrev MN:List aU:=[tp,pn]
abbrev VI:List aU:=[fG,aF,de]
abbrev NP:bp:=v (.fn 293 [] [])
abbrev Lv:bp:=v (.int .i64 15)
abbrev EF:bp:=v (.int .i64 22)
abbrev Bg:bp:=v (.int .i64 23)
abbrev VL:aU:=i (.callv E1 [L0,L4])
abbrev jy:aU:=pW E2
abbrev LP:ai:=af (aj [uf,nU] [(6,E8)]) .ret
abbrev KT:ai:=af (aj IP [(3,E4)]) .ret
abbrev Br:aU:=i (.eqa false [0,0,0,2] L1 L2)
abbrev qL:ai:=af gZ .ret
abbrev WX:ai:=aX E4 FC .skip
abbrev NS:aU:=g L5 false (.fld 0 E1)
abbrev Mb:aU:=g L5 false (ld L6)
abbrev W9:aU:=g jE false (.fld 0 E1)
abbrev Vq:aU:=g jE false (ld pV)
abbrev FG:aU:=g L7 true (ld L8)
abbrev Fe:ai:=af fd .ret
abbrev WR:aU:=g L2 false (.fld 0 E2)
abbrev WD:List aU:=[dV,aF,dH 12 L1 E1,jQ 12 L2,sF,dl 12 L4 L3]
abbrev Nd:aU:=g L3 true (.len L5)
abbrev Mp:aU:=g L8 true (.fld 0 E1)
abbrev LS:aU:=g L1 true (.fld 0 E1)
abbrev Fj:aU:=dy L1 L4 Vf
abbrev W1:List (Nat×bp):=[(3,L0),(4,L1),(5,L2),(6,V0)]
abbrev KU:ai:=aj [oF 4 E1,oF 4 E2,bV] W1
abbrev W6:aU:=bt 304 [v (.int .u8 45),L0,L1]
abbrev uc:aU:=bt 305 [L0]
abbrev Mk:aU:=g L1 true (.bin .eql L3 V0)
abbrev Wv:aU:=g L1 true (.pick L5 Vt L8)
abbrev uo:aU:=oF 9 E0
abbrev Fa:aU:=oF 9 (v (.agg [.int .u64 0,.int .u64 0,.int .u64 0,.int .u64 0,.int .u64 0,.int .u64 0,.int .u64 0,.int .u64 0,nf]))
abbrev AX:List aU:=[Fa]
abbrev oE:aU:=gU E0 V0
abbrev Ay:aU:=i (.conv .u64 E0)
abbrev tH:aU:=dN 8 E3
abbrev LL:aU:=BJ 8 1 L0 E7
abbrev xJ:bp:=v (.int .u64 4294967296)
abbrev mD:bp:=v (.int .u64 32)
abbrev UQ:aU:=i (.bin .shr E8 mD)
abbrev Xp:aU:=i (.bin .rem E9 xJ)
abbrev M7:aU:=i (.bin .shr E9 mD)
abbrev A4:bp:=v (.int .u64 1)
abbrev MT:ai:=aj [uo,oF 9 E1,Fa] [(2,L0),(3,L1),(4,L2)]
abbrev LC:aU:=dy L4 L7 Vf
abbrev MU:aU:=dl 9 E2 L0
abbrev Lj:aU:=i (.conv .i64 E5)
abbrev U8:aU:=g L6 false (.mov L8)
abbrev U6:aU:=g E2 true (.nilck L0)
abbrev UX:aU:=g E2 true (.fld 3 L1)
abbrev WA:aU:=g E2 true (.fld 3 L2)
abbrev Wp:aU:=g E2 true (.bin .geq L4 V0)
abbrev Vp:aU:=g L6 true (.nilck L7)
abbrev UR:aU:=g L6 true (.fld 3 L8)
abbrev Wu:aU:=g L6 true (.fld 3 L9)
abbrev Nj:aU:=g L6 true (ld iQ)
abbrev KY:aU:=dy L6 oL Vf
abbrev UY:aU:=g jE true (.mov E0)
abbrev Xm:aU:=g jE true (.nilck pV)
abbrev Xe:aU:=g jE true (.fld 3 uN)
abbrev Vh:aU:=g jE true (.fld 4 xN)
abbrev VN:aU:=g jE true (.len Ra)
abbrev Ve:aU:=g jE true (.bin .gtr N7 V0)
abbrev WV:aU:=g Dt true (.mov E0)
abbrev VJ:aU:=g Dt true (.nilck eN)
abbrev Xa:aU:=g Dt true (.fld 3 eW)
abbrev VU:aU:=g Dt true (.fld 4 kb)
abbrev WK:aU:=g Dt true (.len mW)
abbrev A3:aU:=dN 17 L0
abbrev Fs:aU:=g L8 true (ld L9)
abbrev Nb:aU:=g E4 true (.mov E9)
abbrev NL:aU:=g L3 true (.mov E0)
abbrev Ev:ai:=af (aj [] [(1,cS)]) .ret
abbrev UL:ai:=aX E5 FC .skip
abbrev Xv:aU:=g E5 true (.fld 0 E1)
abbrev N0:ai:=aj [cT E3 V1] kQ
abbrev Mz:aU:=kN 1 [lM]
abbrev VD:aU:=i (.slice 1 E0 (some E2) none)
abbrev ER:ai:=aj qE [(1,L0),(2,v .nilf)]
abbrev MC:aU:=dl 4 E2 L3
abbrev Fi:aU:=IT L2 E0
abbrev KR:ai:=af (aj [] [(3,V1)]) .ret
abbrev oG:ai:=af zM .ret
abbrev WW:List aU:=[ma,kf,cr,bt 301 [L0,L2]]
abbrev V8:aU:=g E7 true (.fld 10 E3)
abbrev EY:aU:=g E7 true (ld L0)
abbrev VG:aU:=g E7 true (.bin .leq L2 eV)
abbrev Vm:aU:=g L6 false (.mov E6)
abbrev Vb:aU:=g L2 false (.load true 4 E4)
abbrev tT:List aU:=[jL,nU]
abbrev Mr:List aU:=[dp,aF,iX,Ns,li,K8,fW]
abbrev EO:aU:=bt 224 [L4]
abbrev La:aU:=dl 9 E7 L6
abbrev My:ai:=af (aj tT [(6,nM)]) .ret
abbrev Oj:aU:=g L0 false (.bin .eql L2 V0)
abbrev N4:aU:=g L2 false (.fld 0 E3)
abbrev VE:aU:=yn [n0,n0,.int .u64 0,.str []] [(0,1,V1)]
abbrev Fd:aU:=bt 368 [L0,L1]
abbrev UV:aU:=i (.bin .shl L2 mD)
abbrev Vg:aU:=i (.bin .shl iQ mD)
abbrev EH:aU:=dN 8 E1
abbrev NV:aU:=g L0 false (.bin .gtr L1 eV)
abbrev Wc:ai:=aX E8 (af (aj [] [(1,E3)]) .ret) .skip
abbrev ES:aU:=g L3 true (.fld 3 E1)
abbrev Fm:ai:=aj KV W1
abbrev W8:aU:=i (.callv L0 [L1,L2])
abbrev WC:ai:=aX lM (af (aj [bt 202 [],nU] mc) .ret) .skip
abbrev xq:ai:=aj [] [(2,V0),(3,Vf)]
abbrev N6:bp:=v (.int .u64 4294967295)
abbrev EW:ai:=af (af (aj [] [(5,E3)]) (aX E5 (af (af (aj [] [(6,E4)]) (aX E6 rV .skip)) zI) .skip)) (af (af (aj [] [(7,E4)]) (aX E7 K5 .skip)) (af (af (aj [gU E0 E1] lU) (aX E8 zI .skip)) (af (af (aj [Oo E0 E1] kX) (aX E9 K5 .skip)) rV)))
abbrev MK:aU:=dH 1 E7 L1
abbrev NF:aU:=g L0 false (.mov L2)
abbrev WF:aU:=g L0 false (.pick L3 L5 Vf)
abbrev Xd:ai:=aX E6 (af (aj [] [(4,cS)]) .ret) .skip
abbrev WT:List aU:=[cT E0 cV,ll,g L0 false (.bin .geq L1 wj),NF,NL,g L3 true (.bin .leq L4 Lv),WF,dy L0 Vt L6]
abbrev Fb:ai:=af (aj [kT E0 E0] nT) .ret
abbrev Vr:aU:=g L0 false (.bin .eql L1 V0)
abbrev VF:aU:=g L2 false (.call 221 [L3] false)
abbrev Ey:ai:=af (aj [] [(4,gi)]) .ret
abbrev Et:ai:=af Lr .ret
def oW:ai:=af (aj [gU mM cS] Og) (af Rv (af (bH 1 (af (aj [i (.idxv false 2 1 lM mM)] kQ) (af (aj [bt 11 [E1,aev]] iO) (af (aj [zB,bt 17 [L0,E5],iY,iU] [(6,L2),(7,L3)]) (af (af (aj [cT E4 qQ] AG) (aX sa (aj [zB,bt 16 [L0,E5],iY,iU] [(6,L2),(7,L3)]) .skip)) (af (af (aj [zB,bt 15 [L0,E4,E5],kD] Kb) (aX yt (af (af (aj [kT E7 cS,PA,g L0 false (.len L1),g L0 false (.bin .neq L2 V0),Jw] [(16,L4)]) (aX su xT .skip)) HL) .skip)) (af (aj [zB,bt 14 [L0,E5],iY,iU] [(8,L2),(9,L3)]) (af (af (aj [cT E4 qQ] Ad) (aX uO (aj [zB,bt 13 [L0,E5],iY,iU] [(8,L2),(9,L3)]) .skip)) (af (aj [kT E7 E9,PA,aij,g L0 false (.call 12 [L1,L2] false),g L0 false (.una .not L3),Va,g L5 false (.mov E5),g L5 false (.mov E1),g L5 false (.call 11 [L7,aev] false),g L5 false (.call 12 [L6,L8] false),g L5 false (.una .not L9),dy L5 Vt iQ] [(18,jR)]) (aX By xT .skip)))))))))) Bz))
def aqq:ai:=af (aj [oF 12 E0] Kk) (af (af (aj [bt 6 [],PP] G8) (aX gY xT .skip)) (af (aj [zB,kN 12 [L0],bt 18 [L1,V1],dH 12 L2 V0,jQ 12 L3,dl 12 E2 L4] []) (af (af (aj [yn [n0,n0] [(0,1,vr),(1,1,qQ)]] [(11,L0),(12,V0)]) (bH 0 (.loop [3,4,5,6,7,8,9,13,14,15,16,17,18] oW))) aae)))
def aAs:aD:=⟨19,2,.pure,[.env 3],aqq⟩
def anB:ai:=af (aj [] [(0,Vf)]) (af (aj [yn [n0,n0,n0,n0,n0,n0,.int .u64 0,.str []] [(0,1,cS),(3,1,V1)],bt 5 [L0,Vn],DQ,Wf] [(1,L2)]) (af (aj [kN 1 [V0],yn [n0,.yz] [(0,1,V1)],b9 E1,yn [n0,.yz] [(0,1,eV),(1,1,L2)],kN 2 [L1,L3],yn [n0,n0,n0,n0,.yz,nf,.yz,.yz,.yz,.yz,.yz,n0] [(0,1,vr),(7,1,L0),(8,1,L4)],sF,dl 12 L6 L5] Jo) (af (aj [zB,kN 1 [V1,jA],bt 3 [L1],kN 1 [V1,vG],bt 3 [L3],kN 1 [L2,L4],bt 17 [L0,L5],zQ 0 L6,zQ 1 L6] [(3,L7),(4,L8)]) (af (aj [kN 1 [cS],aid,kN 12 [L1],yn [.yz,n0,n0,.yz] [(0,1,L2)],oF 4 (v (.agg [.yz,n0,n0,.yz])),dl 4 L4 L3] nu) (af (aj [uz,kN 1 [cS],bt 3 [L1],kN 1 [V1],bt 3 [L3],kN 1 [L2,L4],kN 1 [L5],bt 2 [L0,L6,Vn],zQ 0 L7,zQ 1 L7] [(6,L8),(7,L9)]) (af (aj [cT E4 V0,g L0 true (.mov E7),g L0 true (.bin .eql L1 V0),J4,g L3 true (.mov E3),g L3 true (.len L4),g L3 true (.bin .eql L5 V1),DX,g L7 true (.mov E3),g L7 true (.idxs 1 L8 V0),g L7 true (ld L9),g L7 true (.len iQ),g L7 true (.bin .eql jR eV),dy L7 oL Vf,g jE true (.mov E3),g jE true (.idxs 1 pV V0),g jE true (ld uN),g jE true (.idxs 4 xN cS),g jE true (.load true 4 zR),g jE true (.build [n0,n0,.int .u64 0,.str []] [(0,1,cV),(2,1,v (.int .u64 12))]),g jE true (.eqa false [0,0,0,2] Ra N7),abQ,g Dt true (.mov E6),g Dt true (.mkl 1 [V1]),g Dt true (.call 3 [eW] false),g Dt true (.mkl 1 [cS]),g Dt true (.call 3 [kB] false),g Dt true (.mkl 1 [kb,mW]),g Dt true (.call 12 [eN,lK] false),aca] [(0,mJ)]) .ret))))))
def aBu:aD:=⟨8,0,.pure,[.env 0],anB⟩
def zT:ai:=af (aj [gU Jb sE] uE) (af (aX Ja .skip QP) (af (bH 5 (af (aj [dH 1 By Jb,wi,DQ,Wf] [(9,L2),(8,Jb)]) (aj [Vo,aF,b9 E9,bt 45 [L2],dH 1 L1 E8,Kc] []))) (aj [jN Jb V1] yw)))
def BA:ai:=af Vu (af (aX uO .skip kA) (af (bH 3 (af (aj aiS [(7,L2),(6,su)]) (aj [F6,aF,WS,b9 L2,bt 45 [L3],dH 2 L1 E6,dN 1 L5,UD] []))) zQx))
def tK:ai:=af zf (af Rv (af (bH 1 (af (aj [dH 12 gY mM,GM,sF,BT] [(5,L2),(4,mM)]) (af (fr [dN 4 E5,aF,bt 46 [L1,If],dN 7 E5,fO,bt 46 [L4,ua],F6,pW L6,bt 47 [L7,T6],Vo,pW L9,bt 48 [iQ,If],dN 10 E5,pW oL,bt 10 [jE,jA],dN 4 E5,dl 1 uN L2,dN 7 E5,dl 1 zR L5,F6,dl 1 N7 L8,Vo,dl 1 Dt jR,dN 10 E5,dl 1 eW pV] [] [(9,0),(10,0),(12,0),(12,9),(13,0),(13,9),(15,0),(15,9)]) (af (af (aj [F6,aF,de] SB) (bH 2 (.loop [6,7,17] BA))) (af (af (aj [Vo,aF,de] [(18,L1),(19,L2),(20,V0)]) (bH 4 (.loop [8,9,21] zT))) (af (aj [dN 6 E5,wi,bt 45 [L1],dN 6 E5,RL] []) (aj [vX,dH 12 E3 E4,dl 12 L1 L0] []))))))) Bz))
def ahP:ai:=af iS (af (aj [bt 49 [E0,E1]] gv) (af (af (aj [uy E3] [(10,E3),(11,L0),(12,V0)]) (bH 0 (.loop [4,5,6,7,8,9,13,14,15,16,17,18,19,20,21] tK))) tI))
def aAe:aD:=⟨22,2,.pure,[.env 2],ahP⟩
def wX:ai:=af zf (af T4 (af (bH 3 (af (aj [] [(6,mM)]) (aj [Se,vT,cr,Se,dN 3 L3,pl,eR L5,i (.mins L6 [v (.int .i64 41)]),i (.slicet L2 none (some L7)),Se,dN 3 L9,dl 1 iQ L8] []))) Bz))
def Ag:ai:=af Ml (af NU (af (bH 1 (af (aj [dH 1 E7 E9,aF] pS) (af (aj [i (.call 38 [E4,If] true)] iO) (af (af (aj [rR] [(11,L0),(12,V0)]) (bH 2 (.loop [6,13] wX))) (aj [kN 1 [E5],ki 1 E3 L0] nK))))) CF))
def ahJ:ai:=af iS (af Mg (af (af (aj [bt 39 [E0,E1],Cn] [(7,L0),(8,L1),(9,V0)]) (bH 0 (.loop [4,5,6,10,11,12,13] Ag))) tI))
def aAf:aD:=⟨14,2,.pure,[.env 2],ahJ⟩
def abl:ai:=af CD (af (af (aj [zB,bt 51 [L0,vr,E1],kD] ln) (aX E5 (af (aj fD [(3,L0),(4,cS)]) .ret) .skip)) (af (aj [zB,bt 50 [L0,E1],iY,iU] [(3,L2),(4,L3)]) .ret))
def azA:aD:=⟨6,2,.pure,[.env 3,.env 4],abl⟩
def adP:ai:=af CD (af (af (aj [zB,bt 51 [L0,qQ,E1],kD] ln) (aX E5 (af (aj fD [(3,L0),(4,cS)]) .ret) .skip)) (af (aj [zB,bt 52 [L0,E1],iY,iU] [(3,L2),(4,L3)]) .ret))
def azS:aD:=⟨6,2,.pure,[.env 3,.env 4],adP⟩
def KF:ai:=af (aj [oF 12 E0] [(3,L0),(4,Vf)]) (af (aj [bt 55 [E2]] iO) (af (af (aj [dp,aF,kT L1 E1,abw,ac8,K8,fW,Rx,acl,g L6 false (.call 54 [L7,L8] false),g L6 false (.una .not L9),dy L6 Vt iQ] [(7,jR)]) (aX E7 Si .skip)) (af (aj [gr,CU,yQ,dl 1 L2 gi] []) (af (aj [abN,jQ 12 E3,kN 12 [L0,L1],bt 53 [L2],lg,lr] [(6,L5)]) (af (aj [gU E6 V0] kQ) .ret)))))
def ayC:aD:=⟨8,3,.pure,[.env 4],KF⟩
def wI:ai:=af (aj [gU By uO] Ix) (af (aX sE .skip kA) (af (bH 3 (af (aj [dH 2 su By,xU,HP,yq] mf) (af (aj [jQ 2 E9,WS,cr,bt 57 [L0,L2],lg,lr,bV,Tg] [(10,L6),(11,L5)]) (af (af (aj [kT lM V0] yw) (aX Jb (aj [] [(6,nM)]) .skip)) (aj [G2,lX,ki 4 E8 L1] mm))))) (aj [jN By V1] nz)))
def Ba:ai:=af wo (af zo (af (bH 1 (af (aj [dH 2 mM sa,xU,Lu,yq] iN) (af (aj [Vy 4,KX,cr,UJ] [(8,L3)]) (af (af (aj Dd [(16,L1),(17,L2),(18,V0)]) (bH 2 (.loop [9,10,11,19,20] wI))) (aj [kN 1 [E8],ki 1 E5 L0] jI))))) wc))
def aaW:ai:=af CD (af Ti (af Cc (af (af (aj [vv,aF,bt 58 [E1,L1],uy L2] [(12,L2),(13,L3),(14,V0)]) (bH 0 (.loop [7,8,9,10,11,15,16,17,18,19,20] Ba))) (af (af (aj tE uE) (aX Ja (af (aj fD [(3,L0),(4,E6)]) .ret) .skip)) (af (aj [bt 56 [E5]] [(3,L0),(4,V0)]) .ret)))))
def azD:aD:=⟨22,2,.pure,[.env 3,.env 4],aaW⟩
def AQ:ai:=af (aj [gU dn cW] [(28,L0)]) (af (aX jB .skip QP) (af (bH 5 (af (aj [dH 1 dh dn,aF] [(13,L1)]) (aj [vv,aF,de,jN L2 gY,dH 4 jJ L3,jQ 4 L4,kN 4 [L5],ki 4 mM L6] [(12,L7)]))) (aj [jN dn V1] CE)))
def xe:ai:=af (aj [gU XM OQ] HE) (af (aX dQ .skip kA) (af (bH 3 (af (aj [dH 2 Ja XM,xU,HP,yq] [(11,L2),(10,XM)]) (af (aj zD yf) (af (af (aj [He,aF,de] [(25,L1),(26,L2),(27,V0)]) (bH 4 (.loop [13,28] AQ))) (af (aj [dN 0 lM,aF,bt 59 [L1,mM],cE,cH,bV,nG] [(14,L5),(15,L4)]) (af (af (aj [kT yt V0] [(29,L0)]) (aX jT (aj [] [(7,yt)]) .skip)) (aj [jQ 4 sa,lX,ki 4 E9 L1] mf))))))) (aj [jN XM V1] HK)))
def Bo:ai:=af Hx (af (aX Jb .skip nr) (af (bH 1 (af (aj [dH 2 uO sE,xU,Lu,yq] mm) (af (aj [Vy 4,zP,cr,UJ] [(9,L3)]) (af (af (aj Dd [(21,L1),(22,L2),(23,V0)]) (bH 2 (.loop [10,11,12,13,14,15,24,25,26,27,28,29] xe))) (aj [kN 1 [E9],M4] jc))))) HX))
def adq:ai:=af CD (af (aj [vv,aF,bt 58 [E1,L1]] ln) (af (af (aj [rR,Hb,g L1 true (.fld 7 E2),Lz,g L1 true (.len L3),g L1 true (.bin .eql L4 V0),IE] [(16,L6)]) (aX su (aj [yn [.yz,.yz] [],kN 2 [L0]] jI) .skip)) (af (aj rM iZ) (af (aj [] [(7,V0)]) (af (af (aj [rR] [(17,E5),(18,L0),(19,V0)]) (bH 0 (.loop [8,9,10,11,12,13,14,15,20,21,22,23,24,25,26,27,28,29] Bo))) (af (af (aj Cu [(30,L0)]) (aX kH (af (aj fD [(3,L0),(4,E7)]) .ret) .skip)) (af (aj [bt 56 [E6]] [(3,L0),(4,V0)]) .ret)))))))
def azW:aD:=⟨31,2,.pure,[.env 3,.env 4],adq⟩
def Bn:ai:=af (af (aj [dr,gU E3 L0] jI) NA) (af (bH 1 (af (aj [CN,aF,dH 1 E1 E3,cK,bt 60 [L1,L3],kT L4 V0] [(6,L5)]) (aX E6 rZ .skip))) LZ)
def VM:ai:=af lF (af (af (aj Uy mi) (aX E4 rZ .skip)) (af (af zM (bH 0 (.loop [2,5,6] Bn))) Ub))
def ay9:aD:=⟨7,2,.pure,[.env 2],VM⟩
def af8:ai:=af (aj [gU dh dQ] [(26,L0)]) (af (aX cW .skip kA) (af (bH 3 (af (aj [dH 12 XM dh,GM,sF,BT] [(13,L2)]) (af (aj [dN 0 jJ,aF,i (.look .nilf false lM L1),jQ 12 jJ,i (.callv L2 [E8,L3]),vR,uS] [(14,L5),(15,L6)]) (af (bH 4 (af (aj [kT yt V0] CE) (aX dn (aj [] [(12,nM)]) (af (aj [uy sa,Oo L0 LG] [(28,L1)]) (aX jB (aj [] [(12,v (.int .i64 300))]) .skip))))) (af (af (aj [kT mM V0] [(29,L0)]) (aX jT kA .skip)) (aj [cA E8,dN 7 L0,cr,kN 1 [sa],Tt,cA E8,dN 7 L5,UD] [])))))) (aj [jN dh V1] [(25,L0)])))
def afg:ai:=af Hx (af (aX Jb .skip nr) (af (bH 1 (af (aj [dH 12 uO sE,GM,sF,BT] mf) (af (af (aj [dN 1 E9,aF,zy] [(21,L2)]) (aX Ja HL .skip)) (af (aj [jQ 12 E9,bt 36 [E8,L0],iY,iU] [(10,L3)]) (af (aj [i (.una .not gY)] zr) (aX OQ (af (aj fD [(4,L0),(5,cS)]) .ret) .skip)))))) HX))
def anO:ai:=af (aj [rU,pn] [(3,L0),(4,L1),(5,V0)]) (.scope (af (aj [dp,aF,bt 37 [L1],cE,cH,zQ 2 L2] [(6,L3),(7,L5)]) (af (af (aj Cu pq) (aX su (af (aj fD [(4,L0),(5,E7)]) .ret) .skip)) (af (aj [b8,yn [.yz,n0,n0,.yz,.yz,.yz,.yz,.yz] [(0,4,L0),(4,1,E1),(5,1,E2),(6,1,E6)],oF 8 L1] mm) (af (af (.lift 8 7 1 (aj ad1 [(17,L3),(18,L4),(19,V0)])) (bH 0 (.loop [4,5,9,10,20,21,22] afg))) (af (aj [bt 35 []] pC) (af (aj [] [(12,V0)]) (af (af (aj ad1 [(23,L3),(24,L4),(25,V0)]) (bH 2 (.loop [13,14,15,26,27,28,29] af8))) (af (af (aj [kT mM V0] [(30,L0)]) (aX kH (af (aj fD [(4,L0),(5,mM)]) .ret) .skip)) (af (aj [cA E8,dN 7 L0,cr,cA E8,dN 7 L3,pl,uy L5,IT L6 V1,dH 1 L2 L7,pW L8] [(4,L9),(5,V0)]) .ret))))))))))
def am4:aD:=⟨31,3,.pure,[.env 4,.env 5],anO⟩
def ae3:ai:=af S2 (af (aX su .skip kA) (af (bH 3 (af (aj acw mm) (af (af (aj [He,aF,zy] Gb) (aX uO (aj [He,aF,jN L1 E7,He,RL] []) .skip)) (af (af (aj acV [(18,L2)]) (aX By (aj [Ly,aF,jN L1 E7,Ly,RL] []) .skip)) (aj [hZ,aF,jQ 8 E8,kN 8 [L2],ki 8 L1 L3,hZ,R0] []))))) Ts))
def M3:ai:=af KW (af K6 (af (bH 1 (af (aj [dH 1 E9 lM,wi,DQ,Wf] [(6,L2),(5,lM)]) (af (aj [hZ,aF,de] iN) (af (af (aj [G1,aF,de] [(13,L1),(14,L2),(15,V0)]) (bH 2 (.loop [8,16,17,18] ae3))) (af (aj [cT E5 V0] Ix) (aX sE (aj [hZ,aF,de,Nf,g8,Kc] []) (aj [hZ,aF,de,Nf,sZ,Kc] []))))))) GA))
def aha:ai:=af (aj [oF 8 E0,DQ] [(2,L0),(3,L1)]) (af (aj [DQ] kQ) (af (aj [g8,dl 1 L0 gi,sZ,dl 1 L2 gi] []) (af (af (.lift 4 0 8 (aj rv [(9,E1),(10,L0),(11,V0)])) (bH 0 (.loop [5,6,7,8,12,13,14,15,16,17,18,19] M3))) (af (aj [hZ,aF,jQ 8 E2,kN 8 [L2],ki 8 L1 L3,hZ,R0] []) (af (aj [b9 E4,dl 1 E3 L0] []) .ret)))))
def aBo:aD:=⟨20,2,.pure,[.cell true 1 3],aha⟩
def aeX:ai:=af HR (af Ct (af (bH 1 (af Tj (aj [bt 34 [E3],lX,ki 4 E2 L1] va))) zA))
def amH:ai:=af jK (af (aj zD dZ) (af (af Nn (bH 0 (.loop [3,7] aeX))) zc))
def an5:aD:=⟨8,1,.pure,[.env 1],amH⟩
def aeu:ai:=af iS (af (aj [Vy 12,dr,Co,i (.slice 12 E0 none (some L2)),ki 12 L0 L3] [(2,L4)]) .ret)
def ay0:aD:=⟨3,2,.keep,[.env 2],aeu⟩
def Wy:ai:=af iS Sg
def azf:aD:=⟨3,2,.pure,[.env 2],Wy⟩
def aeP:ai:=af iS (af (aj [Vy 2,dr,Co,i (.slice 2 E0 none (some L2)),ki 2 L0 L3] [(2,L4)]) .ret)
def azh:aD:=⟨3,2,.keep,[.env 2],aeP⟩
def agb:ai:=af iS Sg
def azo:aD:=⟨3,2,.keep,[.env 2],agb⟩
def aeE:ai:=af iS (af (aj [Vy 2,dr,Co,i (.slice 2 E0 none (some L2)),ki 2 L0 L3] [(2,L4)]) .ret)
def azl:aD:=⟨3,2,.pure,[.env 2],aeE⟩
def wM:ai:=af On (af HT (af (bH 1 (af (aj [] [(4,E7)]) (af (aj [dp,aF,dH 8 L1 E4,dN 4 L2,dN 3 L3] nu) (aj [cA E5,aF,cA E5,cK,eR L3,i (.mins L4 [v (.int .i64 41)]),i (.slicet L1 none (some L5)),cA E5,Uc] [])))) HB))
def ahF:ai:=af (aj [tp,DQ] GD) (af (aj [fG,aF,i (.call 117 [L1,v (.int .i64 60)] true),yn [.yz] [(0,1,L2)],DQ,Kc] [(3,L4)]) (af (af (aj [dp,aF,de] [(6,L2),(7,V0)]) (bH 0 (.loop [4,5,8] wM))) (af (aj [b9 E3,dl 1 E2 L0] []) .ret)))
def aBg:aD:=⟨9,1,.pure,[.cell true 1 2],ahF⟩
def aeh:ai:=af iS Sg
def ayR:aD:=⟨3,2,.keep,[.env 2],aeh⟩
def UM:ai:=af iS (af (aj [Vy 4,dr,Co,i (.slice 4 E0 none (some L2)),ki 4 L0 L3] [(2,L4)]) .ret)
def azp:aD:=⟨3,2,.fresh 4,[.env 2],UM⟩
def Bp:ai:=af KW (af K6 (af (bH 1 (af (aj [oF 1 V0,dl 1 L0 lM] iZ) (af (aj [i (.mkfn 118 [] [E6]),bt 112 [E2,L0]] rP) (af (aj [Rc E7 V0] Og) (aX jJ (aj [pW E6,dH 1 E2 E7,cr,pW E6,dH 4 L2 L3,dN 0 L4,nJ,dH 1 E5 L0,Uc] []) .skip))))) GA))
def Kz:ai:=af (aj [oF 12 E0] [(3,L0),(4,Vf)]) (af (af (aj [dp,aF,kT L1 E1,abw,ac8,K8,fW,Rx,g L6 false (.len L7),g L6 false (.bin .gtr L8 Nv),dy L6 Vt L9] [(9,iQ)]) (aX E9 Si .skip)) (af (aj [dH 1 E2 V0,aF,de,i (.make 1 (.int .i64 0) L2 L2)] zp) (af (af (aj [rR] [(10,L0),(11,V0)]) (bH 0 (.loop [6,7,12,13] Bp))) (af (aj [gr,CU,yQ,dl 1 L2 gi] []) (af (aj [abN,jQ 12 E3,kN 12 [L0,L1],bt 37 [L2],lg,lr,zQ 2 L3] [(8,L6)]) (af (aj [cT E8 V0,K9,g L0 true (.mov E5),g L0 true (.call 75 [L1,L2] false),dy L0 L3 Vf] [(4,L4)]) .ret))))))
def ayt:aD:=⟨14,3,.pure,[.env 4],Kz⟩
def ajK:ai:=af CD (af (aj [zB,bt 119 [E1,L0,Vf,v (.fn 120 [] [])],iY,iU] [(3,L2),(4,L3)]) .ret)
def aAH:aD:=⟨5,2,.pure,[.env 3,.env 4],ajK⟩
def ah1:ai:=af CD (af (aj [zB,i (.mkfn 121 [] [E2]),bt 119 [E1,L0,Vt,L1],cE,cH] [(3,L3),(4,L4)]) .ret)
def az4:aD:=⟨5,2,.pure,[.env 3,.env 4],ah1⟩
def td:ai:=af zf (af T4 (af (bH 3 (af (aj [dH 1 gY mM,aF] jI) (af (aj [cT E4 V0,g L0 true (.mov E3),g L0 true (.mov E5),g L0 true (.len L2),g L0 true (.bin .lss L1 L3),dy L0 L4 Vf] [(14,L5)]) (aX sa (aj [dH 4 E5 E3,wb,cr] mi) .skip)))) Bz))
def Fu:ai:=af NQ (af HW (af (bH 1 (af (aj [] [(3,E8)]) (af G4 (af (af (aj rN [(10,E0),(11,L0),(12,V0)]) (bH 2 (.loop [5,13,14] td))) (aj [kN 1 [E4],ki 1 E2 L0] nI))))) BS))
def abA:ai:=af jK (af (af (aj [dr,Hb] jc) (aX E6 (af jK .ret) .skip)) (af Rw (af (af (aj [Oi,aF,de] [(7,L2),(8,V0)]) (bH 0 (.loop [3,4,5,9,10,11,12,13,14] Fu))) zc)))
def azB:aD:=⟨15,1,.pure,[.env 1],abA⟩
def oD:ai:=af wo (af (aX yt .skip kA) (af (bH 3 (af (aj [dH 4 mM sa,fk,bV,wD] [(5,L2),(4,sa)]) (af (aj [uz,yZ,kD,Zq,li,g L2 false (.bin .neq L4 V0),g L2 false (.mov L5),acd,Do,g L6 true (.mov E1),g L6 true (.mov E4),g L6 true (.idxs 1 L9 iQ),g L6 true (ld jR),g L6 true (.bin .neq L8 oL),g L2 false (.pick L6 jE Vf),dy L2 Vt pV] [(16,uN)]) (aX su rZ .skip)))) wc))
def wK:ai:=af Ml (af NU (af (bH 1 (af (aj [dH 1 E7 E9,aF] nK) (af (af (aj [uy E3,jP,kT L0 L1] Gw) (aX lM rZ .skip)) (af (aj [uy E3] [(12,E3),(13,L0),(14,V0)]) (bH 2 (.loop [2,4,5,15,16] oD)))))) CF))
def Vl:ai:=af lF (af (af (aj Rj jc) (aX E6 rZ .skip)) (af (af (aj rN [(7,E0),(8,L0),(9,V0)]) (bH 0 (.loop [2,3,4,5,10,11,12,13,14,15,16] wK))) Ub))
def ayY:aD:=⟨17,2,.pure,[.env 2],Vl⟩
def ej:ai:=af wo (af zo (af (bH 1 (af (aj aba [(5,L2),(4,sa)]) (af (aj [bt 123 [E0,E4],Oo L0 V0,g L1 true (.load true 12 E5),g L1 true (.call 128 [L2] false),dy L1 L3 Vf] lS) (af (aj fD fY) (af (af (aj [] [(16,E6)]) (aX su (af (aj rM lU) (af (af (aj adn Gb) (aX uO (aj [Lx,aF,dH 1 E3 L1,cK,Nr,ki 1 E8 L4] [(8,L5)]) .skip)) (af (af (aj Zj [(18,L2)]) (aX By (aj [dN 2 E5,aF,dH 1 E3 L1,cK,Nr,ki 1 E8 L4] [(8,L5)]) .skip)) (af (aj [gy,aF] [(19,L1)]) (bH 2 (af (aj [cT sE o6] yw) (aX Jb (aj [vX,bt 124 [L0],iY,iU] M5) (af (aj [cT sE vr] uE) (aX Ja (af (aj [vX,sF,dl 12 L1 L0] [(9,L1)]) (af (aj [B9,dl 1 L0 cV] []) (af (aj [jQ 12 E9,bt 126 [L0,E8],iY,iU] M5) (af (aj [] [(22,E6)]) (aX OQ (aj [vX,bt 125 [L0,E7]] rP) .skip))))) (af (aj [cT sE qQ] HK) (aX XM (af (aj [vX,dH 1 E8 V0,cr,bt 127 [L0,L2],lg,lr] [(7,L4),(6,L5)]) (aj [g E6 true (.mov E0),g E6 true (.fld 1 E5),g E6 true (ld L1),g E6 true (.idxs 12 L0 L2),g E6 true (.fld 0 L3),g E6 true (ld L4),g E6 true (.bin .eql L5 o6),dy E6 L6 Vf] [(6,L7)])) (af (aj [cT sE V1] HE) (aX dQ (aj [vX,bt 126 [L0,Vn],iY,iU] M5) (aj [vX,bt 126 [L0,E8],iY,iU] M5)))))))))))))) .skip)) (af (aj [gy,aF,N2,Zq,li,acn,fW] Ch) (af (af (aj [i (.una .not E6),g L0 false (.mov gY),g L0 false (.mov L1),g L2 true (.mov E4),TR,g L2 true (.len L4),g L2 true (.bin .sub L5 V1),g L2 true (.bin .neq L3 L6),g L0 false (.pick L2 L7 Vf),dy L0 Vt L8] [(25,L9)]) (aX dh (af (aj fD [(1,L0),(2,E4)]) .ret) .skip)) (aj [kN 1 [E7],ki 1 E3 L0] nK)))))))) wc))
def JQ:ai:=af Ln (af (af (aj [dr,gU L0 V1,g L1 false (.mov E0),g L1 false (.len L2),g L1 false (.bin .gtr L3 (v (.int .i64 60))),Lm] [(11,L5)]) (aX lM (af Ln .ret) .skip)) (af Mg (af (af (aj rN [(12,E0),(13,L0),(14,V0)]) (bH 0 (.loop [1,2,4,5,6,7,8,9,10,15,16,17,18,19,20,21,22,23,24,25] ej))) (af (af (aj [dr,FZ,bt 123 [E0,L1],dr,kT L2 L3] [(26,L4)]) (aX cW (af (aj [dr,FZ,pn] [(1,L2),(2,L1)]) .ret) .skip)) (af (aj [] [(1,E3),(2,gi)]) .ret)))))
def ayr:aD:=⟨27,1,.pure,[.env 1,.env 2],JQ⟩
def xd:ai:=af (af (aj [dr,gU E8 L0] [(11,L1)]) (aX lM .skip QP)) (af (bH 5 (af (aj [dH 1 E0 E8,aF,bt 129 [L1,E1],dH 1 E3 E6,fO,bt 60 [L2,L4],cT L5 V0] [(12,L6)]) (aX mM (aj [dH 1 E0 E8,aF,wH,ki 1 E7 L2] BZ) .skip))) BS)
def AO:ai:=af (af (aj [uy E3,gU E6 L0] G8) (aX gY .skip kA)) (af (bH 3 (af (aj rM fY) (af (af Nz (bH 4 (.loop [11,12] xd))) (aj [dH 1 E3 E6,aF,bt 56 [E7],yn [.yz,.yz] [(0,1,L1),(1,1,L2)],kN 2 [L3],ki 2 E5 L4] Cl)))) zA)
def AW:ai:=af (af (aj [dr,gU E4 L0] [(9,L1)]) HW) (af (bH 1 (aj [dH 1 E0 E4,aF,bt 129 [L1,E1],kN 1 [L2],ki 1 E3 L3] [(3,L4)])) BW)
def ajs:ai:=af iS (af Mg (af (af G4 (bH 0 (.loop [9] AW))) (af (aj [bt 130 [E3]] gv) (af (aj [Vy 2] iO) (af (af Cc (bH 2 (.loop [7,8,10,11,12] AO))) (af (aj [] [(2,E5)]) .ret))))))
def az2:aD:=⟨13,2,.pure,[.env 2],ajs⟩
def AD:ai:=af Il (af FP (af (bH 1 (af (aj Mi rP) (af (aj [g8,wi,bt 132 [L1,E7],cE,cH,bV,nG] [(8,L5),(9,L4)]) (af (af (aj [kT E9 V0] pf) (aX yt (aj [] [(6,nM)]) .skip)) (aj [uz,Cb,Uz,cE,cH,lu] []))))) BM))
def ac0:ai:=af MM (af (af (aj [dV,aF,kT L1 eV] vt) (aX gY (af (aj [jQ 2 E2,bt 133 [L0,E1],iY,iU,Lo] vf) .ret) .skip)) (af (aj [jL,bV,LW] [(5,L1),(6,V0)]) (af (af (aj rv [(11,E1),(12,L0),(13,V0)]) (bH 0 (.loop [7,8,9,14,15] AD))) (af (aj [uz,wx] [(4,E6)]) .ret))))
def azs:aD:=⟨16,2,.pure,[.cell true 4 3,.env 4],ac0⟩
def tY:ai:=af (af (aj [uy E2,gU E6 L0] [(8,L1)]) (aX E8 .skip kA)) (af (bH 3 (af (af (aj [i (.una .not E5),SW,g L0 true (.mov E3),g L0 true (.idxs 1 L1 L2),SC,K9,g L0 true (.mov E6),g L0 true (.idxs 1 L5 L6),g L0 true (ld L7),g L0 true (.call 60 [L4,L8] false),g L0 true (.bin .lss L9 V0),dy L0 iQ Vf] [(9,jR)]) (aX E9 (af (aj [CN,aF,wH,ki 1 E4 L2] vf) (aj [] [(5,Vt)])) .skip)) (aj [dH 1 E2 E6,aF,wH,ki 1 E4 L2] vf))) zA)
def AJ:ai:=af (af (aj [dr,gU E3 L0] rP) Ct) (af (bH 1 (af (aj rM kQ) (af (aj [] [(5,Vf)]) (af (af Cc (bH 2 (.loop [8,9] tY))) (af (af (aj [i (.una .not E5)] mb) (aX gY (aj [CN,aF,wH,ki 1 E4 L2] vf) .skip)) (aj [] [(2,E4)])))))) LZ)
def ada:ai:=af jK (af iS (af (af zM (bH 0 (.loop [4,5,6,7,8,9,10] AJ))) zc))
def azT:aD:=⟨11,1,.pure,[.env 1],ada⟩
def dD:ai:=af Il (af FP (af (bH 1 (af (aj [dH 4 lM jJ,fk,bV,wD] jS) (af (af (aj [G1,aF,iX] Kb) (aX yt HL .skip)) (af (aj [] [(16,E0)]) (bH 2 (af (af (aj [cT su V1] nz) (aX By .skip (aj [cT su cS] nz))) (aX By (aj [fh,ry,Uz,cE,cH,rB] []) (af (aj [cT su eV] Ix) (aX sE (af (aj [fh,ry,bt 135 [L0,L1],cE,cH,bV,nG] [(7,L5),(8,L4)]) (af (af (aj [kT E8 V0] yw) (aX Jb Mf .skip)) (aj [uf,uh] []))) (af (aj [cT su cV] uE) (aX Ja (af (aj [gy,aF,iX,ac9,acp,acq,g L2 false (.bin .lss L5 V0),dy L2 Vt L6] [(22,L7)]) (aX OQ (aj [ry,nU] []) .skip)) (af (aj [gy,aF,iX,ac9,acp,acq,g L2 false (.bin .gtr L5 V0),dy L2 Vt L6] [(17,L7)]) (aX uO (aj [ry,nU] []) .skip))))))))))))) BM))
def so:ai:=af Rp (af (aj [bV,bV] [(4,L0),(5,L1)]) (af (af (aj rv [(11,E1),(12,L0),(13,V0)]) (bH 0 (.loop [3,6,7,8,14,15,16,17,18,19,20,21,22] dD))) (af (af (aj [cT E0 cV,ll,g L0 false (.bin .eql L1 jA),mn] [(23,L3)]) (aX XM (af (aj [uz,nH] tW) .ret) .skip)) (af (aj [fh,bt 134 [L0],iY,iU,bV,SF] [(9,L4),(10,L3)]) (af (af (aj [cT gY V0,g L0 true (.fld 0 E9),g L0 true (ld L1),g L0 true (.bin .eql L2 V0),dy L0 L3 Vf,g L4 true (.mov E0),g L4 true (.bin .neq L5 eV),dy L4 L6 Vf] [(24,L7)]) (aX dQ (aj [bt 34 [V0],dl 4 E9 L0] []) .skip)) (af (aj [Cm,nH] [(3,gY)]) .ret))))))
def ax3:aD:=⟨25,2,.pure,[.cell true 4 2,.env 3],so⟩
def oI:ai:=af (af (aj [dr,gU E3 L0,g L1 true (.mov E3),g L1 true (.mov E1),g L1 true (.len L3),g L1 true (.bin .lss L2 L4),IE] [(5,L6)]) NA) (af (bH 1 (af (aj [Lc,fk,dH 4 E1 E3,yJ,bt 136 [L1,L3]] [(4,L4)]) (af Tr (aX E6 (af (aj [] [(2,E4)]) .ret) .skip)))) LZ)
def WB:ai:=af gI (af (af zM (bH 0 (.loop [2,4,5,6] oI))) (af (af (aj [dr,jP,cT L0 L1] iN) (aX E7 rV .skip)) (af (aj [dr,jP,gU L0 L1,bt 137 [L2]] rG) .ret)))
def azb:aD:=⟨8,2,.pure,[.env 2],WB⟩
def EV:ai:=af RR (af SU (af (bH 3 (af (aj [dH 1 sE Ja,aF] G8) (aj [i (.call 95 [gY] true),kN 1 [L0],ki 1 E9 L1] mf))) Tp))
def tJ:ai:=af wo (af zo (af (bH 1 (af (aj aba [(8,L2),(7,sa)]) (af (aj [zP,aF,i (.look .nilf false E5 L1),bt 96 [E4,E7,L2],i (.una .not L3)] [(16,L4)]) (aX su (af Sz nr) .skip)))) wc))
def Kj:ai:=af (aj fD [(1,L0),(2,V0),(3,V0)]) (.scope (af (af (aj [dr,gU L0 V1,g L1 false (.mov E0),g L1 false (.len L2),g L1 false (.bin .gtr L3 (v (.int .i64 60))),Lm] [(11,L5)]) (aX lM (af (aj fD [(1,L0),(2,V0),(3,v (.int .i64 291))]) .ret) .skip)) (af (aj [yn [.yz,.yz,.yz,n0,n0,n0,n0,.yz,nf,.yz,.yz,.yz,.yz,.yz,n0,.yz,.yz,.yz] [(0,1,E0)],oF 18 L0] pS) (af (.lift 4 1 1 (.lift 4 2 1 (aj [bt 97 []] iO))) (af (aj [] [(6,gi)]) (af (af (aj rN [(12,E0),(13,L0),(14,V0)]) (bH 0 (.loop [7,8,15,16] tJ))) (af (af (aj [gU E6 V0,g L0 true (.mov E4),g L0 true (.nilck L1),g L0 true (.fld 2 L2),SC,g L0 true (.len L4),g L0 true (.bin .neq L5 V1),dy L0 L6 Vf] [(17,L7)]) (aX uO (aj [dr,FZ] jc) .skip)) (af (af (aj [Rc E6 V0] nz) (aX By (af (aj fD [(1,L0),(2,E6),(3,v (.int .i64 291))]) .ret) .skip)) (af (aj rM kX) (af (af (aj [cA E4,dN 1 L0,cr,uy L2] [(19,L2),(20,L3),(21,V0)]) (bH 2 (.loop [10,22] EV))) (af (aj [] [(1,E9),(2,V0),(3,V0)]) .ret)))))))))))
def ayy:aD:=⟨23,1,.pure,[.env 1,.env 2,.env 3],Kj⟩
def am9:ai:=af (aj [oF 12 E1,pn] Gi) (af (aj [cN,dN 4 L0,cr] ln) (af (af (aj [dV,aF,cT L1 o6] jS) (aX E6 (aj [cN,dN 5 L0,cr] ln) .skip)) (af (af (aj [pd,aF,rR,Rc L1 L2,g L3 false (.mov E5),g L3 false (.fld 3 E2),g L3 false (ld L5),g L3 false (.idxs 1 L4 L6),g L3 false (ld L7),g L3 false (.fld 4 E2),g L3 false (ld L9),g L3 false (.call 75 [L8,iQ] false),g L3 false (.una .not jR),dy L3 Vt oL] [(7,jE)]) (aX E7 o7 .skip)) (af (aj [pd,aF,dH 1 E5 L1,cK] [(3,L3),(4,Vt)]) .ret))))
def amV:aD:=⟨8,2,.keep,[.env 3,.env 4],am9⟩
def ap1:ai:=af RY (af (aj [i .mkmap,i (.mput L0 V1 (v (.fn 98 [] []))),i (.mput L0 o6 (v (.fn 98 [] []))),i (.mput L0 cS (v (.fn 99 [] []))),i (.mput L0 eV (v (.fn 100 [] []))),i (.mput L0 jA (v (.fn 101 [] []))),i (.mput L0 cV (v (.fn 102 [] []))),i (.mput L0 vr (v (.fn 103 [] []))),i (.mput L0 qQ (v (.fn 104 [] []))),i (.mput L0 ua (v (.fn 105 [] []))),i (.mput L0 vG (v (.fn 106 [] []))),i (.mput L0 ur (v (.fn 107 [] [])))] [(0,L0)]) .ret)
def amA:aD:=⟨1,0,.pure,[.env 0],ap1⟩
def ai2:ai:=af Ni (af (aj [yn [n0,n0,.int .u64 0,.str []] [(0,1,cS),(1,1,E0)],zL] []) .ret)
def azZ:aD:=⟨2,1,.pure,[.cell true 4 1],ai2⟩
def aft:ai:=af iS (af (aj [Vy 8,dr,Co,i (.slice 8 E0 none (some L2)),ki 8 L0 L3] [(2,L4)]) .ret)
def azm:aD:=⟨3,2,.fresh 8,[.env 2],aft⟩
def gl:ai:=af Cf (af rL (af (bH 1 (af G6 (af (aj [CN,aF,i (.callv E1 [L1])] iN) F7))) vD))
def Pj:ai:=af gI (af (af FR (bH 0 (.loop [2,3,6,7] gl))) zI)
def ayP:aD:=⟨8,2,.pure,[.env 2],Pj⟩
def adF:ai:=af lF (af (aj [kj,dr,gU L0 L1,TR,RO,g L2 true (.idxs 4 L3 L4),g L2 true (.fld 0 L5),g L2 true (ld L6),g L2 true (.bin .neq L7 V0),dy L2 L8 Vf] [(2,L9)]) .ret)
def azK:aD:=⟨3,2,.pure,[.env 2],adF⟩
def aaV:ai:=af (aj [CM] Kk) (af (af (aj Rj pS) (aX E4 xT .skip)) (af (aj [i (.mkfn 161 [] [E2]),bt 42 [E0,L0],kD] [(3,L2)]) .ret))
def azv:aD:=⟨5,2,.pure,[.env 3],aaV⟩
def tP:ai:=af Hx (af Ss (af (bH 3 (af (aj acN [(12,L2),(11,sE)]) (af (aj [pW E5,jQ 2 mM,dN 1 E9,cK,i (.callv L0 [lM,L1,L3]),vR,uS,bV,TL] [(13,L7),(14,L6)]) (af (af (aj [kT sa V0] uE) (aX Ja (af (aj [dl 1 E6 Vn,dl 1 E7 nM] []) .ret) .skip)) (aj [jQ 4 jJ,lX,ki 4 gY L1] vt))))) HX))
def lT:ai:=bH 1 (af (aj [B9,aF,i (.call 114 [L1] true)] vt) (af (af (aj [dN 8 E4,aF,de] [(17,L1),(18,L2),(19,V0)]) (bH 2 (.loop [20] tP))) (aj [pW E8,T9,ki 1 L0 L1,dl 1 E8 L2] [])))
def lj:ai:=aj [Lu,dl 2 L0 su] kX
def abJ:ai:=af (aj [oF 12 E1,oF 1 E3,oF 1 Vn,oF 1 V0] [(4,L0),(5,L1),(6,L2),(7,L3)]) (af (aj [oF 1 Vn] lU) (af (af (.lift 8 0 1 (aj [dN 7 E4,aF,bt 200 [E0,L1,E2]] Kb)) (bH 0 (.rng 22 yt 199))) (af (aj [pW E8,bt 191 [L0],iY,iU,dl 1 E6 L2,dl 1 E7 L3] []) .ret)))
def azE:aD:=⟨22,4,.pure,[.cell false 1 6,.cell false 1 7],abJ⟩
def ju:vH:=⟨22,[16],lj,lT⟩
def xI:ai:=af Il (af FP (af (bH 1 (af (aj Mi rP) (af (aj [gr,wi,bt 172 [L1,E7],cE,cH,bV,nG] [(8,L5),(9,L4)]) (af (af (aj [cT E9 V0] pf) (aX yt (aj [ry,Cb,bt 201 [L0,L1],cE,cH,dl 4 E6 L3] [(9,L4)]) .skip)) (af (aj [kT E9 V0] pq) (aX su (af (aj UK [(5,E9)]) .ret) .skip)))))) BM))
def Vv:ai:=af (aj [oF 2 E1,bV] [(3,L0),(4,L1),(5,V0)]) (af (af (aj [dp,aF,kT L1 eV] vt) (aX gY (af (aj [jQ 2 E3,bt 19 [L0,E2],iY,iU,dl 4 E4 L2] zp) .ret) .skip)) (af (aj SL jc) (af (af (aj [uy E2] [(11,E2),(12,L0),(13,V0)]) (bH 0 (.loop [5,7,8,9,14,15,16] xI))) (af (aj UK lY) .ret))))
def azg:aD:=⟨17,3,.pure,[.cell true 4 4,.env 5],Vv⟩
def Ac:ai:=af MM (af (aj [dV,aF,Rc L1 V1,RW,gJ,g L2 true (.bin .leq L4 jA),ko,g L6 true (.mov E1),g L6 true (.call 41 [L7] false),dy L6 L8 Vf] [(5,L9)]) (af (af (aj Lk jS) (aX E6 (aj [adV,g E5 true (.fld 0 L0),g E5 true (ld L1),g E5 true (.len L2),g E5 true (.bin .eql L3 V0),dy E5 L4 Vf] Cl) (aj [adV,g E5 true (lt L0),g E5 true (.call 71 [L1] false),g E5 true (.bin .eql L2 V0),dy E5 L3 Vf] nu))) (af (af (aj [i (.una .not E5)] fY) (aX E7 Ny .skip)) (af (aj [jQ 2 E2,bt 70 [L0,E1],iY,iU,Lo] vf) .ret))))
def ayc:aD:=⟨8,2,.pure,[.cell true 4 3,.env 4],Ac⟩
def ahz:ai:=af (aj zC [(0,L0)]) (af (aj [jL,dl 4 E0 L0] []) .ret)
def aAK:aD:=⟨1,0,.pure,[.cell true 4 0],ahz⟩
def wV:ai:=af zf (af Rv (af (bH 1 (af LK (af (aj [pW E3,Cn,Rc E7 L1,g L2 false (ld E3),abT,g L2 false (.idxs 4 L3 L4),g L2 false (.load true 4 L5),g L2 false (.call 206 [L6] false),g L2 false (.una .not L7),dy L2 Vt L8] [(14,L9)]) (aX sa Nt .skip)))) Bz))
def VV:ai:=af (aj [tp,CM,bV] aar) (af (af (aj [ma,bt 71 [L0]] jc) (af (aj tE kX) (aX E9 BK .skip))) (af (af (aj abf [(10,L1),(11,L2),(12,V0)]) (bH 0 (.loop [5,7,13,14] wV))) (af (aj [bt 205 [],oF 1 (v .nilm),dl 1 L1 L0] [(8,L1)]) (af (aj [ma,i (.mkfn 203 [] [E3,E8]),bt 204 [L0,L1],cE,cH,rB] nu) .ret))))
def ayT:aD:=⟨15,2,.pure,[.cell true 4 4,.env 5],VV⟩
def Yp:ai:=af jh (af (af (aj [dB,lX,bt 210 [cV,L1],b8,kN 4 [L3],bt 210 [cS,L4]] [(6,L2),(7,L5)]) (bH 0 (af (aj [cT E6 tX,Ms,g L0 false (.bin .eql L1 tX),mn] [(8,L3)]) (aX E8 Sa (af (aj [kT E6 V0,Ms,aah,mn] [(9,L3)]) (aX E9 Nt (af (aj MV vt) (aX gY NR (af (aj Mc Gw) (aX lM (af (aj [b8,bt 208 [L0],dl 4 E4 L1] lY) .ret) .skip)))))))))) (af (aj [dB,b8,bt 208 [L1],bt 209 [L0,L2],lg,lr,BR] Cl) .ret))
def ayu:aD:=⟨12,2,.pure,[.cell true 4 4,.env 5],Yp⟩
def Bv:ai:=af Il (af FP (af (bH 1 (af (aj Mi [(8,L1)]) (af (aj [NO,aF,de,jN L2 E0,dH 4 E8 L3,jQ 4 L4,bV,dl 4 L6 L5] [(9,L6)]) (af (aj [B9,aF,vW] Kb) (aX yt (aj [Cm,lX,ki 4 E7 L1] iN) .skip))))) BM))
def GG:ai:=af (aj [oF 2 E1,bV] [(4,L0),(5,L1),(6,V0)]) (af (aj zD fY) (af (af (aj [uy E2] [(11,E2),(12,L0),(13,V0)]) (bH 0 (.loop [8,9,14,15] Bv))) (af (aj [cI (v (.fn 213 [] []))] mb) (af (bH 2 (af (aj adf [(16,L2)]) (aX su (af (aj [bt 211 [E7,v (.fn 212 [] [])],LX,Ok,dl 4 E5 L1] jS) .ret) (af (aj [hZ,aF,B3,Ns,li,g L2 false (.bin .eql L4 cS),fW] [(17,L6)]) (aX uO (af (aj [bt 149 [V0],lX,ki 4 E7 L1,bt 211 [L2,v (.fn 201 [] [])],lg,lr,Lp] [(6,L5)]) .ret) (af (aj [uy E7,Hb] [(18,L1)]) (aX By (af (aj [bt 202 [],nU] mc) .ret) (af (aj [hZ,aF,LB] [(19,L2)]) (aX sE (af (aj [bt 151 [E7,gY],nU] mc) .ret) .skip))))))))) (af (aj [bt 147 [E7,gY],nU] mc) .ret)))))
def ayn:aD:=⟨20,4,.pure,[.cell true 4 5,.env 6],GG⟩
def aiv:ai:=af wr (af (aj [dB,lX,b8,kN 4 [L2],bt 214 [L1,L3]] [(4,L4)]) .ret)
def aAE:aD:=⟨5,2,.pure,[.env 4],aiv⟩
def ajc:ai:=af gI (af (af (aj [bt 163 [E0],PP,aaU,g L1 false (.call 163 [L2] false),g L1 false (.una .not L3),Lm] [(3,L5)]) (aX E3 rV .skip)) (af (aj [bt 140 [E0,E1]] dZ) .ret))
def aBn:aD:=⟨4,2,.pure,[.env 2],ajc⟩
def rm:ai:=af CW (af vF (af (bH 1 (af (aj Gy ln) (af (aj [fh,uz,i (.callv E1 [L0,L1]),cE,cH,bV,nG] [(6,L5),(7,L4)]) (af (af (aj Cu yf) (aX mM (af (aj [ry,nH] [(3,E7)]) .ret) .skip)) (aj UK []))))) vj))
def Xs:ai:=af Rp (af (aj SL pS) (af (af Gj (bH 0 (.loop [3,5,6,7,11,12] rm))) (af (aj [fh,bt 215 [L0],iY,iU,dl 4 E2 L2] Dj) .ret)))
def ay7:aD:=⟨13,2,.pure,[.cell true 4 2,.env 3],Xs⟩
def aav:ai:=af jh (af (af (aj [dB,b8,Gg,bt 210 [cV,L2]] yI) (bH 0 (af (aj tE fY) (aX E7 BK (af (aj Mc mm) (aX E8 (af (aj [b8,uh] lY) .ret) (af (aj MV mf) (aX E9 NR .skip)))))))) (af (aj [dB,b8,bt 209 [L0,L1],cE,cH,rB] nu) .ret))
def axR:aD:=⟨10,2,.pure,[.cell true 4 4,.env 5],aav⟩
def ain:ai:=af Ni (af (aj [yn [n0,n0,.int .u64 0,.str []] [(0,1,cS),(1,1,E0)],zL] []) .ret)
def aAC:aD:=⟨2,1,.pure,[.cell true 4 1],ain⟩
def A1:ai:=af (af (aj [dr,gU E4 L0] jc) rL) (af (bH 1 (af (aj [IL,fk,b8,aau,gU L3 V0] Da) (aX E7 (aj [IL,fk,B0] []) .skip))) BW)
def ah3:ai:=af (aj zC dZ) (af (af (aj [dr,gU L0 V1] jI) (aX E5 (aj [i .bad,i .bad] []) .skip)) (af (aj [dH 4 E0 V0,fk,bV,wD] [(3,L2)]) (af (af Lr (bH 0 (.loop [6,7] A1))) (af (aj [b8,nH] []) .ret))))
def aAd:aD:=⟨8,2,.pure,[.cell true 4 2],ah3⟩
def Bd:ai:=af (af (aj [dr,gU E4 L0] jc) rL) (af (bH 1 (af (aj [IL,fk,b8,aau,Oo L3 V0] Da) (aX E7 (aj [IL,fk,B0] []) .skip))) BW)
def ai0:ai:=af (aj zC dZ) (af (af (aj [dr,gU L0 V1] jI) (aX E5 (aj [i .bad,i .bad] []) .skip)) (af (aj [dH 4 E0 V0,fk,bV,wD] [(3,L2)]) (af (af Lr (bH 0 (.loop [6,7] Bd))) (af (aj [b8,nH] []) .ret))))
def aAQ:aD:=⟨8,2,.pure,[.cell true 4 2],ai0⟩
def nq:ai:=af yK (af (af HF (bH 0 (af (aj [cT E3 V0] kQ) (aX E4 (af (aj [iG,jL,abm] va) .ret) (af (aj [cT E3 V1] iO) (aX E5 (af (aj [GU,aF,cT L1 ja,yy,gJ,Tu,ko,g L6 true (.fld 1 E1),Do,g L6 true (.bin .eql L8 V0),g L6 true (.mov L9),g iQ false (.fld 1 E1),adt,g iQ false (.bin .eql oL V1),g L6 true (.pick iQ Vt jE),dy L6 pV Vf] [(2,uN)]) .ret) (af (aj [cT E3 cS] iZ) (aX E6 (af (aj [GU,aF,cT L1 ja,yy,gJ,Tu,ko] Jo) .ret) (af (aj [cT E3 eV] fY) (aX E7 (af (aj [tD,aF,iX,g L2 true (.fld 2 E1),gJ,g L2 true (.bin .eql L4 ja),ko,g L6 true (.fld 3 E1),Do,g L6 true (.lent L8),g L6 true (.bin .leq L9 (v (.int .i64 40))),dy L6 iQ Vf] [(2,jR)]) .ret) .skip)))))))))) (af (aj [fG,aF,LB,yy,gJ,Tu,ko] Jo) .ret))
def axW:aD:=⟨8,1,.pure,[.env 2],nq⟩
def mS:ai:=af gI (af (af (aj [HQ,yY,ll,TZ,abH,Va] [(7,L5)]) (aX E7 rV .skip)) (af (aj [dH 12 E0 E1,GM,sF,BT] [(3,L2)]) (af (af (aj [dp,aF,bt 216 [L1]] mm) (bH 0 (af (aj [cT E8 V0] kX) (aX E9 (af (aj [gr,aF,cT L1 gi,g L2 true (.fld 2 E3),gJ,adT,ko] Ch) (aX gY K5 .skip)) (af (aj [cT E8 V1] pC) (aX lM (af (aj [vA,bt 123 [E0,L0]] pS) (af (aj [gr,aF,vA,cT L1 L2,g L3 true (.fld 2 E3),sX,aa3,DX,g L7 true (.mov E4),g L7 true (.bin .gtr L8 V0),dy L7 L9 Vf] [(12,iQ)]) (aX mM (af (aj [jN E4 V1] dZ) .ret) .skip))) (af (aj [cT E8 cS] Og) (aX jJ (af (aj [vA,bt 123 [E0,L0]] jI) (af (af (aj [cT E5 V0,g L0 false (.fld 2 E3),zO,yY,acI,Zm,F1,g L6 false (.fld 1 E3),Cv,TH,ac1,acl,acB,Z3,dy L6 Vt jE] [(14,pV)]) (aX sa rV .skip)) (af (aj [gr,aF,bt 123 [E0,L1]] jS) (af (aj [Oo E6 V0] pf) (aX yt (af (aj [jN E6 E5,jN L0 V1] nI) .ret) .skip))))) .skip)))))))) rV)))
def axX:aD:=⟨16,2,.pure,[.env 2],mS⟩
def Pi:ai:=af Tb (af (af HF (bH 0 (af (aj [cT E3 o6] kQ) (aX E4 (aj [fG,dl 1 L0 V1] []) (af (af (aj [cT E3 vr] iO) (aX E5 .skip (aj [cT E3 qQ] iO))) (aX E5 (aj [fG,dl 1 L0 cV] []) .skip)))))) (af (aj [jQ 12 E1,bt 217 [L0]] nI) .ret))
def ayL:aD:=⟨6,1,.pure,[.env 2],Pi⟩
def tg:ai:=af NQ (af HW (af (bH 1 (af (aj [dH 1 E6 E8,aF] jI) (aj [g E4 true (.mov E5),g E4 true (.bin .geq L0 V0),Lh,Sn,g L2 true (.bin .leq L3 cV),Mm] yA))) BS))
def KI:ai:=af (aj CC [(1,L0),(2,L1),(3,Vf)]) (af (aj [dN 3 E1,aF,zy,yy,gJ,g L2 true (.bin .lss L4 aev),ko,g L6 true (.fld 4 E1),Do,g L6 true (.len L8),g L6 true (.bin .geq L9 V1),dy L6 iQ Vf,g jR true (.fld 4 E1),Sl,adI,g jR true (.bin .leq pV ny),dy jR uN Vf] [(4,xN)]) (af (af (aj [vI,aF,de] [(6,L1),(7,L2),(8,V0)]) (bH 0 (.loop [5,9] tg))) (af (aj [vI,aF] [(2,L1),(3,E4)]) .ret)))
def ayA:aD:=⟨10,1,.trunc,[.env 2,.env 3],KI⟩
def xr:ai:=af Hx (af Ss (af (bH 3 (af (aj [dH 1 uO sE,aF] G8) (af (aj [yn [n0,n0,n0,n0,n0,n0,.int .u64 0,.str []] [(0,1,V1)],rA,dl 8 L1 L0] [(11,L1)]) (af (af (aj [Oo gY V0] uE) (aX Ja (aj [IT gY V1,yn [n0,n0,n0,n0,n0,n0,.int .u64 0,.str []] [(0,1,cS),(3,1,L0)],dl 8 lM L1] []) .skip)) (aj [dN 9 E9,aF,jQ 8 lM,bt 5 [L2,Vn],Nr,ki 1 L1 L4,dN 9 E9,Tw] []))))) HX))
def mw:ai:=af wo (af zo (af (bH 1 (af (aj [dH 1 mM sa,aF] [(6,sa),(7,L1)]) (af (af (aj [bt 219 [E7]] pq) RJ) (af (aj [kN 1 [V1,cS,eV],aid,sF,BT] mm) (af (aj [gy,aF,de,yn [n0,n0,n0,n0,.yz,nf,.yz,.yz,.yz,.yz,.yz,n0] [(0,1,jA),(1,1,L2),(2,1,gi)],sF,dl 12 L4 L3] [(9,L4)]) (af (af (.lift 9 9 1 (aj [uy E7] [(17,E7),(18,L0),(19,V0)])) (bH 2 (.loop [10,11,20,21] xr))) (af (aj [gy,aF,jQ 12 E8,jQ 12 E9,kN 12 [L2,L3],ki 12 L1 L4,gy,Tw] []) (af (aj [cT E6 V0] zr) (aX OQ (aj [gy,aF,de,Nf,g8,Kc] []) (aj [gy,aF,de,Nf,sZ,Kc] [])))))))))) wc))
def U4:ai:=af (aj CC Gi) (af (aj [DQ] iO) (af (af (.lift 5 0 12 (aj rv [(12,E1),(13,L0),(14,V0)])) (bH 0 (.loop [3,4,6,7,8,9,10,11,15,16,17,18,19,20,21,22] mw))) (af (aj [gy,aF,zB,kN 12 [L2],ki 12 L1 L3,gy,R0] []) (af (aj [b9 E5,gy,cr,uy L2,IT L3 V1,bt 218 [L0,L4],GY,FW] [(3,L6),(4,L7)]) .ret))))
def ay8:aD:=⟨23,2,.trunc,[.env 3,.env 4],U4⟩
def BF:ai:=af Ml (af NU (af (bH 1 (af (aj [dH 2 E7 E9,xU,HP,yq] [(6,L2),(5,E9)]) (af (aj [G1,aF,GE] Gw) (aX lM (aj [vv,aF,de,jN L2 E5,dH 1 E4 L3,dl 1 L4 cV] []) .skip)))) CF))
def aig:ai:=af (aj CC [(2,L0),(3,L1)]) (af (aj [Vy 1,ki 1 L0 E1] pS) (af (af (aj Dd [(7,L1),(8,L2),(9,V0)]) (bH 0 (.loop [5,6,10,11] BF))) (af (aj [] [(3,E4)]) .ret)))
def aBl:aD:=⟨12,2,.pure,[.env 3],aig⟩
def jx:ai:=af Hx (af Ss (af (bH 3 (af (aj acN [(9,L2),(8,sE)]) (af (aj [vv,aF,de,jN L2 E8,dH 1 E1 L3,pl] [(10,L5)]) (af (af (aj [dN 1 E9,wb,cr,uy L2,Oo L3 V0] [(21,L4)]) (aX Ja o7 .skip)) (af (af (aj [B9,aF] [(22,L1)]) (bH 4 (af (af (aj [cT OQ V1] HK) (aX XM .skip (aj [cT OQ cS] HK))) (aX XM (af (aj [kT gY cS] HE) (aX dQ o7 .skip)) (af (aj [cT OQ eV] [(25,L0)]) (aX dh (af (af (aj [kT gY cV] [(26,L0)]) (aX cW o7 .skip)) (aj [] [(10,cS)])) (af (af (aj [cT OQ cV] CE) (aX dn .skip (aj [cT OQ jA] CE))) (aX dn (af (aj [cT gY cV] [(28,L0)]) (aX jB o7 .skip)) o7)))))))) (aj [T9,ki 1 E5 L0] jI)))))) HX))
def qW:ai:=af wo (af zo (af (bH 1 (af (aj [dH 1 mM sa,aF] [(6,sa),(7,L1)]) (af (af (aj [kT E7 E6,yY,PA,g L0 false (.idxs 1 L1 L2),g L0 false (ld L3),g L0 false (.bin .eql L4 cV),F1] [(16,L6)]) RJ) (aj [dH 1 E1 E6,aF,wH,ki 1 E5 L2] zp)))) wc))
def DY:ai:=af (aj CC Gi) (af (af (aj [vv,aF,de,Oo L2 eV,g L3 false (.fld 8 E2),Lt,ac2,g L3 false (.bin .gtr L6 wj),dy L3 Vt L7,g L8 false (.fld 7 E2),g L8 false (ld L9),g L8 false (.len iQ),g L8 false (.fld 8 E2),g L8 false (ld oL),g L8 false (.len jE),g L8 false (.bin .add jR pV),ab2,g L8 false (.len xN),g L8 false (.bin .neq uN zR),dy L8 Vt Ra,g N7 false (.mov E1),g N7 false (.len XU),g N7 false (.bin .eql Dt V0),dy N7 Vt eN] [(11,eW)]) (aX lM o7 .skip)) (af Ti (af (af (aj K0 [(12,L1),(13,L2),(14,V0)]) (bH 0 (.loop [3,4,6,7,15,16] qW))) (af (af (aj Dd [(17,L1),(18,L2),(19,V0)]) (bH 2 (.loop [3,4,8,9,10,20,21,22,23,24,25,26,27,28] jx))) (af (aj [] [(3,E5),(4,Vt)]) .ret)))))
def aye:aD:=⟨29,2,.pure,[.env 3,.env 4],DY⟩
def EM:ai:=af (af (aj [jP,gU E4 L0] jI) NA) (af (bH 1 (aj [dH 1 E1 E4,aF,dH 4 E0 L1,yJ,kN 4 [L3],ki 4 E3 L4] [(3,L5)])) BW)
def ahG:ai:=af iS (af (aj zD gv) (af (af G4 (bH 0 (.loop [5] EM))) tI))
def aAn:aD:=⟨6,2,.pure,[.env 2],ahG⟩
def xt:ai:=af (af (aj [uy E3,gU E4 L0] jI) NA) (af (bH 1 (af (aj [cT E4 V0,aak,T1,g L0 false (.bin .sub L2 V1),g L0 false (.idxs 1 L1 L3),S8,aak,T1,g L0 false (.idxs 1 L6 L7),g L0 false (ld L8),g L0 false (.call 60 [L5,L9] false),g L0 false (.bin .neq iQ V0),dy L0 Vt jR] [(6,oL)]) (aX E6 (aj [Up,aF,wH,ki 1 E2 L2] rG) .skip))) BW)
def ajH:ai:=af jK (af Rw (af (aj [bt 56 [E0]] gv) (af (af G4 (bH 0 (.loop [5,6] xt))) zc)))
def aAJ:aD:=⟨7,1,.pure,[.env 1],ajH⟩
def cz:ai:=af (af (aj [jP,gU E9 L0] [(13,L1)]) Rv) (af (bH 1 (af (fr [g8,wi,dH 1 E1 E9,cK,bt 132 [L1,L3],vR,uS,bV,TL] [(10,L7),(11,L6)] [(0,8),(1,8),(2,8),(3,8),(4,8)]) (af (af (aj [cT lM nM] AG) (aX sa (af (aj [] [(6,lM)]) HL) .skip)) (af (af (aj [kT lM V0,C3,zO,g L0 false (.bin .eql L2 eV),aaY,g L4 true (.fld 0 gY),SG,g L4 true (.bin .neq L6 V0),g L0 false (.pick L4 L7 Vf),g L0 false (.mov L8),g L9 true (.fld 0 gY),Mt,g L9 true (.bin .neq jR cS),g L0 false (.pick L9 oL Vf),dy L0 Vt jE] [(15,pV)]) (aX yt Ny .skip)) (af (af (aj [dN 0 gY,aF,iX] [(16,L2)]) (aX su HL .skip)) (af vD (af (af (aj aaF Gb) (aX uO (aj [uf,G2,Uz,cE,cH,dl 4 E7 L3] []) .skip)) (af (aj [cT E5 V1,C3,zO,g L0 false (.bin .eql L2 cV),aaY,g L4 true (.load true 4 gY),g L4 true (.load true 4 E8),g L4 true (.call 136 [L5,L6] false),g L4 true (.bin .lss L7 V0),g L0 false (.pick L4 L8 Vf),dy L0 Vt L9,g iQ false (.fld 0 E2),adt,g iQ false (.bin .eql oL jA),g iQ false (.mov jE),g pV true (.load true 4 gY),g pV true (.load true 4 E8),g pV true (.call 136 [uN,xN] false),g pV true (.bin .gtr zR V0),g iQ false (.pick pV Ra Vf),dy iQ Vt N7] [(18,XU)]) (aX By (aj [G2,dl 4 E8 L0] []) .skip))))))))) CF)
def Ir:ai:=af MM (af (af (aj Lk F2) (aX mM (af (aj [jP,bt 34 [L0],B0] oV) .ret) .skip)) (af (aj [] [(5,V0),(6,V0)]) (af (aj [jL,jL,bV,bV,dl 4 L2 L0,dl 4 L3 L1] [(7,L2),(8,L3)]) (af (af (aj [] [(9,V0)]) (bH 0 (.loop [4,10,11,13,14,15,16,17,18] cz))) (af (af (aj tE Ix) (aX sE Ry .skip)) (af (af (aj [dV,aF] [(20,L1)]) (bH 2 (af (aj [cT Jb cS] uE) (aX Ja (af (aj [bt 34 [E5],wx] oV) .ret) (af (aj [cT Jb eV] zr) (aX OQ (af (aj [uf,bt 134 [L0],iY,iU,Lo] vf) .ret) .skip)))))) (af (aj [Cb,wx] oV) .ret)))))))
def ayk:aD:=⟨23,2,.pure,[.cell true 4 3,.env 4],Ir⟩
def jm:ai:=af (aj [gU Jb sE] uE) (af (aX Ja .skip kA) (af (bH 3 (af (aj [dH 8 By Jb,tZ,rA,wy] iN) (af (aj [KX,aF] [(22,L1)]) (bH 4 (af (aj [cT OQ V1] [(26,L0)]) (aX cW (aj [dN 4 E7,fk,kN 4 [L1],ki 4 E6 L2] yI) (af (aj [cT OQ cS] CE) (aX dn (aj [dN 3 E7,aF,dH 4 E1 L1,yJ,kN 4 [L3],ki 4 E6 L4] [(6,L5)]) (af (aj [WS,aF,Um,yJ,jL,bV,bV,nG,Tg] [(8,L5),(9,L6)]) (af (af (aj [dN 2 E7,aF,zy] [(23,L2)]) (aX XM (aj [dN 2 E7,aF,Um,yJ,dl 4 E9 L3] []) .skip)) (af (aj [KX,aF,Cb,Cm,bt 220 [L1,L2,L3],vR,uS,bV,TL] [(10,L7),(11,L6)]) (af (af (aj [cT lM nM] HE) (aX dQ (af (aj CV [(4,lM)]) .ret) .skip)) (af (af (aj [kT lM V0] [(25,L0)]) (aX dh (af (aj CV [(4,LM)]) .ret) .skip)) (aj [G2,lX,ki 4 E6 L1] jS)))))))))))))) (aj [jN Jb V1] yw)))
def ou:ai:=af S2 (af (aX su .skip nr) (af (bH 1 (af (aj acw ln) (af (aj [gy,aF,C2,g L2 true (.fld 3 E5),gJ,Sf,S0,adz,g L2 true (.mov L7),ab2,g L8 false (.fld 3 E5),g L8 false (ld iQ),g L8 false (.idxs 4 L9 jR),g L8 false (.load true 4 oL),g L8 false (.call 221 [jE] false),g L8 false (.una .not pV),g L2 true (.pick L8 Vt uN),dy L2 xN Vf] [(17,zR)]) (aX uO Ny .skip)))) Ts))
def OL:ai:=af (aj [tp,bV] vz) (af (af (aj adb F2) (aX mM (af (aj CV [(4,LG)]) .ret) .skip)) (af (af (aj Dn [(13,L1),(14,L2),(15,V0)]) (bH 0 (.loop [4,5,16,17] ou))) (af (aj zD iZ) (af (af (aj Dn [(18,L1),(19,L2),(20,V0)]) (bH 2 (.loop [4,7,8,9,10,11,21,22,23,24,25,26,27] jm))) (af (aj [uy E6,FZ,Um,yJ,dl 4 E3 L3] oV) .ret)))))
def ayO:aD:=⟨28,2,.pure,[.cell true 4 3,.env 4],OL⟩
def Kg:ai:=af jh (af (bH 0 (af (aj LU [(6,L6)]) (aX E6 Sa (af (aj [dB,LN,kD,zE,Xh,wd,fW] [(7,L6)]) (aX E7 Nt (af (aj MV mm) (aX E8 NR (af (aj Mc mf) (aX E9 (af (aj [gr,aF,BB,bt 226 [L2],lg,lr,BR] Cl) .ret) .skip))))))))) (af (aj [g8,aF,sZ,cK,Mv,gr,nJ,bt 224 [L6],bt 225 [L4,L7],bt 226 [L8],zQ 0 L9,zQ 1 L9,dl 4 E4 iQ] [(5,jR)]) .ret))
def ayp:aD:=⟨10,2,.pure,[.cell true 4 4,.env 5],Kg⟩
def DE:ai:=af jh (af (bH 0 (af (aj LU [(6,L6)]) (aX E6 Sa (af (aj [dB,LN,kD,zE,g L2 false (.call 227 [L3] false),wd,fW] [(7,L6)]) (aX E7 Nt (af (aj Mc mm) (aX E8 (af (aj [b8,uh] lY) .ret) (af (aj MV mf) (aX E9 NR .skip))))))))) (af (aj [g8,aF,sZ,cK,Mv,gr,nJ,yQ,pW L7,bt 223 [L6,L8],bt 225 [L4,L9],bt 226 [iQ],zQ 0 jR,zQ 1 jR,dl 4 E4 oL] [(5,jE)]) .ret))
def ayf:aD:=⟨10,2,.pure,[.cell true 4 4,.env 5],DE⟩
def JS:ai:=af wr (af (af (aj WY nu) (aX E5 (af (aj [dV,aF,dp,cK,wR,EX] yA) .ret) .skip)) (af (af (aj Vz lS) (aX E6 (af (aj [g8,aF,gr,cK,wR,EX] yA) .ret) .skip)) (af (af (aj [sZ,aF,yQ,cK,Ff] Da) (aX E7 (af (aj [sZ,aF,yQ,cK,wR,EX] yA) .ret) .skip)) (af (af (aj [pd,aF,om,cK,Ff] [(8,L4)]) (aX E8 (af (aj [pd,aF,om,cK,wR,EX] yA) .ret) .skip)) xL))))
def ayB:aD:=⟨9,2,.pure,[.env 4],JS⟩
def KJ:ai:=af Ai (af (bH 0 (af (aj [iG,yZ,kD] jS) (aX E6 (af (aj IP [(3,tX)]) .ret) (af (aj [iG,LN,kD] iN) (aX E7 (af (aj IP [(3,cS)]) .ret) (af (aj N9 mm) (aX E8 (af (aj [iG,nH] tW) .ret) .skip))))))) (af (aj [tD,aF,GU,cK,Mv,bt 229 [L4],GY,FW] [(4,L6),(5,L7)]) (af (af (aj [i (.una .not E5)] kX) (aX E9 Mf .skip)) (af (aj [bt 34 [E4],nH] tW) .ret))))
def ayv:aD:=⟨10,1,.pure,[.cell true 4 2,.env 3],KJ⟩
def ag5:ai:=af gZ (af (af BG U0) FC)
def aAI:aD:=⟨3,1,.pure,[.env 1],ag5⟩
def aiC:ai:=af RY (af (aj [i .mkmap,i (.mput L0 V1 (v (.fn 177 [] []))),i (.mput L0 o6 (v (.fn 178 [] []))),i (.mput L0 cS (v (.fn 179 [] []))),i (.mput L0 eV (v (.fn 180 [] []))),i (.mput L0 cV (v (.fn 181 [] []))),i (.mput L0 vr (v (.fn 182 [] []))),i (.mput L0 qQ (v (.fn 183 [] []))),i (.mput L0 jA (v (.fn 184 [] []))),i (.mput L0 ua (v (.fn 185 [] []))),i (.mput L0 vG (v (.fn 186 [] []))),i (.mput L0 ur (v (.fn 187 [] [])))] [(0,L0)]) .ret)
def aAq:aD:=⟨1,0,.pure,[.env 0],aiC⟩
def iI:ai:=af S2 (af (aX su .skip nr) (af (bH 1 (af (aj [dH 1 jJ yt,aF] [(7,yt),(8,L1)]) (af (aj [cN,dN 1 L0,cr,dH 1 L2 E8,fO] [(9,L4)]) (af (af (aj [hZ,aF,kT L1 qQ,g L2 true (.mov E9),g L2 true (.call 188 [L3,cV] false),Mm] [(17,L5)]) (aX uO xT .skip)) (af (aj [cT E7 V0] nz) (aX By (aj [cN,dN 15 L0,dl 1 L1 E9] []) (aj [cN,dN 16 L0,dl 1 L1 E9] []))))))) Ts))
def jU:ai:=af VR (af (aj [cN,wb,cr,dH 12 L2 E1,jQ 12 L3,sF,dl 12 L5 L4] yA) (af (aj [hZ,aF,bt 190 [L1]] ln) (af (af (aj [gU E5 V0,NH,ll,U7,g L0 false (.fld 2 L3),S8,V7,g L0 false (.bin .gtr L1 L6),MR,g L8 false (.load true 12 E4),g L8 false (.call 189 [L9] false),g L8 false (.una .not iQ),dy L8 Vt jR] [(11,oL)]) (aX lM xT .skip)) (af (aj Wx jc) (af (aj [i (.aslice 2 E6),cN,dN 2 L1,cK,cN,dN 2 L4,nJ,uy L6,IT L7 E5,i (.slice 1 L3 (some L8) none),i (.copy 1 L0 L9)] []) (af (af (aj [jQ 2 E6,kf,cr,dN 2 E4,fO,Xk,V9] [(12,L6)]) (aX mM xT .skip)) (af (aj [jQ 12 E4,cN,dN 3 L1,dl 12 L2 L0,cN,dN 15 L4,dl 1 L5 Vn,cN,dN 16 L7,dl 1 L8 Vn] []) (af (af (aj [cN,dN 2 L0,cr,cN,dN 2 L3,pl,uy L5,IT L6 E5,i (.slice 1 L2 (some L7) none),uy L8] [(13,L8),(14,L9),(15,V0)]) (bH 0 (.loop [3,7,8,9,16,17,18] iI))) (af (aj [hZ,aF,N2,Ns,li,acn,fW] Ch) (af (af (aj [g gY true (.mov E1),g gY true (.mov E0),g gY true (.nilck L1),g gY true (.fld 0 L2),g gY true (ld L3),g gY true (.len L4),g gY true (.bin .sub L5 V1),g gY true (.bin .neq L0 L6),dy gY L7 Vf,g L8 false (.mov E2),g L8 false (.mov E0),g L8 false (.callv L9 [iQ]),g L8 false (.una .not jR),dy L8 Vt oL,g jE false (.mov E0),g jE false (.nilck pV),g jE false (.fld 17 uN),g jE false (ld xN),g jE false (.len zR),g jE false (.bin .gtr Ra ny),dy jE Vt N7] [(19,XU)]) (aX sE xT .skip)) (af (fr [cN,dN 1 L0,cr,cN,dN 17 L3,pl,kN 1 [L5],ki 1 L2 L6,cN,dN 2 L8,pW L9,cN,dN 2 jR,pW oL,uy jE,IT pV E5,i (.slice 1 iQ none (some uN)),kN 1 [E1],ki 1 xN zR,cN,dN 1 N7,dl 1 XU L7,cN,dN 2 eN,dl 1 eW Ra] [] [(8,0),(9,0),(10,0),(11,0),(12,0),(13,0),(14,0),(16,0)]) aae)))))))))))
def axV:aD:=⟨20,3,.keep,[.env 3],jU⟩
def aiE:ai:=af jK (af (af (aj [i (.nils false E0)] dZ) (aX E2 (af jK .ret) .skip)) (af (aj [cI (v .yz),ki 1 L0 E0] [(1,L1)]) .ret))
def aAO:aD:=⟨3,1,.fresh 1,[.env 1],aiE⟩
def anb:ai:=af (aj [oF 12 E1,pn] vz) (af (aj [zB,bt 36 [E0,L0],iY,iU] ln) (af (aj [bt 191 [E5],LX,Ok] [(3,L1),(4,L2)]) .ret))
def apA:aD:=⟨6,2,.pure,[.env 3,.env 4],anb⟩
def ad0:ai:=af lF (af (aj [bt 112 [E0,E1],AN] nI) .ret)
def azJ:aD:=⟨3,2,.pure,[.env 2],ad0⟩
def aim:ai:=af lF (af (aj [kj,bt 253 [E0,L0,v (.fn 254 [] [])],kD] va) .ret)
def aAN:aD:=⟨3,2,.pure,[.env 2],aim⟩
def Bu:ai:=af CW (af vF (af (bH 1 (af (aj Gy [(5,L2),(4,gY)]) (af (aj [dH 1 E1 E4,aF] jc) (af (aj [uz,i (.callv E2 [L0,E6]),kD] F2) (aX mM xT .skip))))) vj))
def VA:ai:=af VR (af (af (aj Uy iN) (aX E7 xT .skip)) (af (af Gj (bH 0 (.loop [3,4,5,6,11,12] Bu))) aae))
def azj:aD:=⟨13,3,.pure,[.env 3],VA⟩
def ag4:ai:=af (aj [rU] Kk) (af (aj [dB,AH,iX,RW,gJ,Mj,g L2 true (.mov L5),WE,Cv,TH,g L6 false (.bin .eql L8 L9),VS,Nx] [(3,oL)]) .ret)
def aAR:aD:=⟨4,2,.pure,[.env 3],ag4⟩
def Kp:ai:=af (aj [rU] CZ) (af (af (aj [iG,bt 256 [L0],jL,i (.eqa true [0,0,0,2] L1 L2)] Dj) (aX E3 (af (aj [] [(2,tX)]) .ret) .skip)) rV)
def ayE:aD:=⟨4,1,.pure,[.env 2],Kp⟩
def aip:ai:=af (aj [tp,CM,oF 1 E2] [(3,L0),(4,L1),(5,L2),(6,v .nilf)]) (af (aj [i (.mkfn 280 [] [E3,E4,E5])] iZ) .ret)
def aAc:aD:=⟨7,3,.keep,[.env 6],aip⟩
def ZY:ai:=af jK (af (af (aj [i (.nils false E0)] dZ) (aX E2 (af jK .ret) .skip)) (af (aj [cI (v .yz),ki 4 L0 E0] [(1,L1)]) .ret))
def azV:aD:=⟨3,1,.fresh 4,[.env 1],ZY⟩
def ajy:ai:=af Ln (af (af (aj Rj jI) (aX E5 (af (aj [] [(1,E0),(2,V0)]) .ret) .skip)) (af (aj [bt 29 [E0],LX,Ok] [(3,L1),(4,L2)]) (af (af Tr (aX E6 (af (aj fD [(1,L0),(2,nM)]) .ret) .skip)) (af (aj [] [(1,E3),(2,V0)]) .ret))))
def aAG:aD:=⟨7,1,.pure,[.env 1,.env 2],ajy⟩
def ah9:ai:=af fd (af (aj [cI (v (.fn 111 [] []))] dZ) (af (aj [dr,dG L0 Nv,g L1 true (.mov E0),g L1 true (.mov E2),g L1 true (.call 42 [L2,L3] false),LD,IE] [(1,L6)]) .ret))
def aAL:aD:=⟨3,1,.pure,[.env 1],ah9⟩
def ajE:ai:=af (aj qE CZ) (af (af (aj [b9 E1,bt 146 [L0],iY,iU] Dj) (af (aj [i (.una .not E3)] kQ) (aX E4 (af (aj [] [(2,LG)]) .ret) .skip))) rV)
def aAp:aD:=⟨5,1,.pure,[.env 2],ajE⟩
def vV:ai:=af MM (af (af (aj Lk mm) (aX E8 (af (aj [jP,bt 149 [L0],B0] oV) .ret) .skip)) (af (aj [jQ 2 E2,bt 154 [L0,E1],iY,iU] [(5,L2),(6,L3)]) (af (af (aj [cT E6 cS] kX) (aX E9 Ry .skip)) (af (aj [cI (v (.fn 153 [] []))] fY) (af (bH 0 (af (aj [dV,aF,GE,Sn,g L2 true (.mov E7),g L2 true (.call 152 [L3,L4] false),ko] Ch) (aX gY Ny (af (aj tE pC) (aX lM Ry (af (aj [dV,aF,C2] F2) (aX mM (af (aj [rR,bt 149 [L0],B0] oV) .ret) (af (aj aaF [(13,L2)]) (aX jJ (af (aj [bt 150 [E5],LX,Ok,B0] mi) .ret) (af (aj [rR,Hb] [(14,L1)]) (aX sa (af (aj CV oV) .ret) (af (aj [dV,aF,LB] Kb) (aX yt (af (aj [bt 151 [E5,v (.fn 148 [] [])],wx] oV) .ret) .skip))))))))))))) (af (aj [bt 147 [E5,v (.fn 148 [] [])],wx] oV) .ret))))))
def ax7:aD:=⟨16,2,.pure,[.cell true 4 3,.env 4],vV⟩
def zY:ai:=af NQ (af HW (af (bH 1 (af (aj [dH 8 E6 E8,tZ,rA,wy] mi) (af (aj [hZ,aF,C2] vt) (aX gY (aj [dN 3 E4,aF,wH,ki 1 E3 L2] Dj) .skip)))) BS))
def aiT:ai:=af (aj MN GD) (af (af (aj [b9 E1,bt 71 [L0],vW] ln) (aX E5 (af iS .ret) .skip)) (af Mg (af (af (aj VI [(6,L1),(7,L2),(8,V0)]) (bH 0 (.loop [4,9,10] zY))) (af (aj [bt 282 [E3]] []) (af (aj [bt 281 [E3]] dZ) .ret)))))
def aAF:aD:=⟨11,1,.pure,[.env 2],aiT⟩
def ahg:ai:=af yK (af (aj [iG,AH,iX,g L2 true (.fld 0 E1),gJ,g L2 true (.bin .neq L4 cV),ko] Jo) .ret)
def aAX:aD:=⟨3,1,.pure,[.env 2],ahg⟩
def am1:ai:=af RY (af (aj [bt 296 [NP]] nT) (af (aj [i .mkmap,bt 283 [v (.fn 284 [] [])],i (.mput L0 cV L1),bt 283 [v (.fn 285 [] [])],i (.mput L0 jA L3),bt 286 [Vt],i (.mput L0 ua L5),bt 286 [Vf],i (.mput L0 vG L7),i (.mput L0 wj (v (.fn 287 [] []))),i (.mput L0 (v (.int .i64 13)) (v (.fn 288 [] []))),i (.mput L0 T6 (v (.fn 289 [] []))),i (.mput L0 Lv (v (.fn 290 [] []))),i (.mput L0 ny (v (.fn 291 [] []))),bt 292 [v (.fn 291 [] [])],i (.mput L0 If pV),i (.mput L0 (v (.int .i64 18)) NP),i (.mput L0 (v (.int .i64 20)) E1),bt 292 [E1],i (.mput L0 (v (.int .i64 19)) Ra),bt 292 [NP],i (.mput L0 (v (.int .i64 21)) XU),i (.mput L0 EF (v (.fn 294 [] []))),i (.mput L0 Bg (v (.fn 295 [] [])))] [(0,L0)]) .ret))
def aBr:aD:=⟨2,0,.pure,[.env 0],am1⟩
def zZ:ai:=af wo (af zo (af (bH 1 (af (aj [dH 8 mM sa,tZ,rA,wy] mf) (af (fr [jQ 8 E9,B9,cr,bt 247 [L2],i (.callv E7 [L3]),VL,GY,FW,bV,dl 4 L8 L6] [(10,L8),(11,L7)] [(0,5),(0,9),(1,9),(2,9),(3,9)]) (af (af (aj [kT lM V0] pq) (aX su (af (aj [] [(8,lM)]) nr) .skip)) (aj [pW E5,G2,kN 4 [L1],UJ,dl 1 E5 L3] []))))) wc))
def adu:ai:=af (aj [tp,bV] vz) (.scope (af (aj [oF 1 Vn] iO) (af (aj zC iZ) (af (aj [i (.mkfn 297 [] [E5])] fY) (af Nz (af (af (.lift 5 0 4 (aj Dn [(12,L1),(13,L2),(14,V0)])) (bH 0 (.loop [9,10,11,15,16] zZ))) (af (af (aj [kT E8 V0] Ad) (aX uO (af (aj [ry,wx] [(4,E8)]) .ret) .skip)) (af (aj [pW E5,dH 4 L0 V0,jQ 4 L1,Lo] oV) .ret))))))))
def azC:aD:=⟨18,2,.pure,[.cell true 4 3,.env 4],adu⟩
def KK:ai:=af (aj [oF 8 E0,bV] [(4,L0),(5,L1),(6,V0)]) (af (af (aj [hZ,aF] [(9,L1)]) (bH 0 (af (aj [cT E9 V1] mb) (aX gY (af (aj [dN 4 E4,fk,dl 4 E5 L1] mc) .ret) (af (aj [cT E9 cS] pC) (aX lM (af (aj [jy,dN 3 E4,cr,dH 4 L0 L2,jQ 4 L3,Lp] mc) .ret) .skip)))))) (af (fr [pW E3,hZ,cr,i (.look .nilf false L0 L2),dH 4 E1 V0,jQ 4 L4,jP,IT L6 V1,dH 4 E1 L7,jQ 4 L8,i (.callv L3 [L5,L9]),zQ 0 iQ,zQ 1 iQ,bV,dl 4 jE jR] [(7,jE),(8,oL)] [(0,14),(1,14),(2,14),(3,14),(4,14),(5,14),(6,14),(8,14),(9,14)]) (af (af (aj [kT E8 V0,g L0 true (.mov E8),g L0 true (.bin .neq L1 nM),J4] [(12,L3)]) (aX mM (aj [] [(8,LM)]) .skip)) LP)))
def ayw:aD:=⟨13,4,.pure,[.cell true 4 5,.env 6],KK⟩
def Iq:ai:=af On (af HT (af (bH 1 (af (aj [dH 4 E5 E7,fk,bV,wD] mi) (af (af (aj [fh,AH,vW] mf) (aX E9 (af (aj [] [(2,tX)]) .ret) .skip)) (af (aj [hZ,aF,vW,g L2 true (.fld 0 E4),gJ,TR,g L2 true (.bin .neq L4 L5),dy L2 L6 Vf] [(10,L7)]) (aX gY (aj [] [(3,cS)]) .skip))))) HB))
def akT:ai:=af gI (af zM (af (af (aj rv [(5,E1),(6,L0),(7,V0)]) (bH 0 (.loop [2,4,8,9,10] Iq))) tI))
def azw:aD:=⟨11,2,.pure,[.env 2],akT⟩
def apZ:ai:=af (aj [rU,bV] GD) (af (aj [tD,aF,i (.bin .shr L1 (v (.int .u64 63))),tD,fO,i (.conv .u64 L4),yn [n0,n0,.int .u64 0,.str []] [(0,1,cV),(1,1,L2),(2,1,L5)],dl 4 E2 L6] []) .ret)
def aAt:aD:=⟨3,1,.pure,[.cell true 4 2],apZ⟩
def aeB:ai:=af jh (af (aj [sZ,aF,yQ,cK,bt 298 [L1,L3,ja],vR,uS] [(6,L5),(7,L6)]) (af (aj [g8,aF,i (.conv .u64 L1),gr,fO,i (.conv .u64 L4),bt 298 [L2,L5,E7],zQ 0 L6,zQ 1 L6] [(8,L7)]) (af (aj [i (.conv .i64 E8)] kX) (af (af (aj [g8,aF,i (.bin .xor L1 E9),gr,fO,i (.bin .xor L4 E9),i (.bin .and L2 L5),gU L6 V0] [(10,L7)]) (aX gY (af (aj Gs [(5,nM)]) .ret) .skip)) (af (aj [yn [n0,n0,.int .u64 0,.str []] [(0,1,cV),(1,1,E9),(2,1,E6)],uh] lY) .ret)))))
def ayZ:aD:=⟨11,2,.pure,[.cell true 4 4,.env 5],aeB⟩
def abF:ai:=af fd (af (aj [cI (v (.fn 260 [] []))] dZ) (af (aj [dr,dG L0 ny,g L1 true (.mov E0),g L1 true (.mov E2),g L1 true (.call 259 [L2,L3] false),LD,IE] [(1,L6)]) .ret))
def azH:aD:=⟨3,1,.pure,[.env 1],abF⟩
def ahO:ai:=af gI (af (aj [bt 142 [E0,E1,v (.fn 143 [] [])]] dZ) .ret)
def aAW:aD:=⟨3,2,.pure,[.env 2],ahO⟩
def Jf:ai:=af Ai (af (af (aj [iG,lX,bt 210 [cV,L1]] mi) (bH 0 (af Tr (aX E6 KT (af (aj N9 iN) (aX E7 (af (aj [iG,nH] tW) .ret) .skip)))))) (af (af (aj [GU,aF,i (.conv .i64 L1),bt 149 [L2],bV,dl 4 L4 L3] nu) (af (aj [uz,bt 208 [L0],iG,Br] [(8,L3)]) (aX E8 (af (aj [uz,nH] tW) .ret) .skip))) Mf))
def axN:aD:=⟨9,1,.pure,[.cell true 4 2,.env 3],Jf⟩
def QN:ai:=af gZ (af (af BG (bH 0 (af (aj [cT E2 o6] gv) (aX E3 qL (af (af (aj [cT E2 vr] kQ) (aX E4 .skip (aj [cT E2 qQ] kQ))) WX))))) (af (aj [bt 299 [E0]] nT) .ret))
def ayN:aD:=⟨5,1,.pure,[.env 1],QN⟩
def cB:ai:=af Tb (af (af (aj [fG,aF,kT L1 V1,yy,gJ,g L2 true (.bin .neq L4 V0),g L2 true (.mov L5),g L6 false (.fld 4 E1),Cv,g L6 false (.len L8),g L6 false (.bin .gtr L9 V0),VS,Nx] [(3,oL)]) (aX E3 rZ .skip)) (af (af (aj [fG,aF,kT L1 cS,g L2 true (.fld 5 E1),gJ,Mm,NS,Mb,g L5 false (.bin .neq L7 cS),g L5 false (.mov L8),g L9 true (.fld 0 E1),Mt,g L9 true (.bin .neq jR eV),g L5 false (.pick L9 oL Vf),g L5 false (.mov jE),g pV true (.fld 6 E1),g pV true (.fld 0 uN),g pV true (ld xN),g pV true (.len zR),g pV true (.bin .gtr Ra V0),g L5 false (.pick pV N7 Vf),dy L5 Vt XU] [(4,Dt)]) (aX E4 rZ .skip)) (af (af (aj [fG,aF,kT L1 cV,g L2 true (.fld 7 E1),gJ,g L2 true (.len L4),g L2 true (.bin .gtr L5 V0),g L2 true (.mov L6),g L7 false (.fld 8 E1),g L7 false (ld L8),g L7 false (.len L9),g L7 false (.bin .gtr iQ V0),g L2 true (.pick L7 Vt jR),dy L2 oL Vf,W9,Vq,g jE false (.bin .neq uN jA),g jE false (.mov xN),g zR true (.fld 9 E1),g zR true (ld Ra),g zR true (.len N7),g zR true (.bin .gtr XU V0),g jE false (.pick zR Dt Vf),dy jE Vt eN] [(5,eW)]) (aX E5 rZ .skip)) (af (aj [fG,aF,N2,g L2 false (.fld 10 E1),li,g L2 false (.len L4),g L2 false (.bin .eql L5 V0),g L2 false (.mov L6),g L7 true (.fld 11 E1),FG,g L7 true (.bin .eql L9 V0),g L2 false (.pick L7 iQ Vf),dy L2 Vt jR] [(2,oL)]) .ret))))
def axS:aD:=⟨6,1,.pure,[.env 2],cB⟩
def AK:ai:=af Cf (af rL (af (bH 1 (af (aj [dH 1 E3 E5,aF] nI) (af (aj [cT E2 cV] fY) (aX E7 (af (aj [] [(1,Vt)]) .ret) .skip)))) vD))
def ZN:ai:=af fd (af (af (aj rN [(3,E0),(4,L0),(5,V0)]) (bH 0 (.loop [1,2,6,7] AK))) Fe)
def azF:aD:=⟨8,1,.pure,[.env 1],ZN⟩
def abE:ai:=af (aj MN Gi) (af (af (aj [ma,bt 301 [L0,E1],iX,WR,li,g L2 false (.mov E1),g L2 false (.idxs 12 L4 L5),g L2 false (.load true 12 L6),g L2 false (.call 217 [L7] false),g L2 false (.una .not L8),dy L2 Vt L9] [(14,iQ)]) (aX sa o7 .skip)) (af (aj WD nu) (af (aj [pn,pn] [(6,L0),(7,L1)]) (af (af (aj adn Kb) (aX yt (af (aj [ma,Lx,cr,bt 218 [L0,L2],lg,lr] [(8,L4),(9,L5)]) (af (af (aj [i (.una .not E9)] pq) RJ) (aj [] [(6,E8)]))) .skip)) (af (af (aj Zj Gb) (aX uO (af (aj [ma,dN 2 E5,cr,bt 218 [L0,L2],lg,lr] [(10,L4),(11,L5)]) (af (af (aj [i (.una .not lM)] nz) (aX By o7 .skip)) (aj [] [(7,gY)]))) .skip)) (af (aj [vX,bt 300 [L0,E6,E7],iY,iU] [(12,L2),(13,L3)]) (af (af (aj [gy,aF,N2,Sf,RW,g L2 true (ld L4),S0,g L2 true (.bin .sub L6 V1),g L2 true (.bin .neq L3 L7),dy L2 L8 Vf,g L9 false (.mov mM),g L9 false (.len iQ),g L9 false (.bin .gtr jR ny),dy L9 Vt oL] [(19,jE)]) (aX sE o7 .skip)) (af (aj [] [(3,mM),(4,jJ)]) .ret))))))))
def ayi:aD:=⟨20,2,.trunc,[.env 3,.env 4],abE⟩
def Qt:ai:=af (aj qE Db) (af (aj [fG,aF,de,Rc L2 V1,g L3 true (.fld 0 E1),sX,Nd,g L3 true (.bin .leq L6 (v (.int .i64 1000))),dy L3 L7 Vf,g L8 true (lt E1),Mp,g L8 true (ld iQ),g L8 true (.len jR),g L8 true (.bin .sub oL V1),g L8 true (.call 302 [L9,jE] false),Mp,g L8 true (ld uN),g L8 true (.len xN),g L8 true (.bin .eql pV zR),dy L8 Ra Vf] [(2,N7)]) .ret)
def ayM:aD:=⟨3,1,.pure,[.env 2],Qt⟩
def ahu:ai:=af yK (af (aj [iG,yZ,LS,Lz,g L1 true (.bin .neq L3 cV),Fj] [(2,L5)]) .ret)
def az1:aD:=⟨3,1,.pure,[.env 2],ahu⟩
def ro:ai:=af KU (af (af (aj [] [(7,E0)]) (bH 0 (af (aj [cT E7 cV] lU) (aX E8 (af (aj [bt 34 [V0],b8,W6,cE,cH,lu] lS) .ret) (af (aj [cT E7 wj] kX) (aX E9 (af (aj [b8,fh,bt 304 [v (.int .u8 43),L0,L1],cE,cH,lu] lS) .ret) (af (aj [cT E7 (v (.int .i64 13))] mb) (aX gY (af (aj [b8,fh,W6,cE,cH,lu] lS) .ret) (af (aj [cT E7 T6] pC) (aX lM (af (aj [b8,fh,bt 304 [v (.int .u8 42),L0,L1],cE,cH,lu] lS) .ret) (af (aj [cT E7 Lv] yf) (aX mM (af (aj [b8,fh,bt 304 [v (.int .u8 47),L0,L1],cE,cH,lu] lS) .ret) (af (aj [cT E7 jA] Og) (aX jJ (af (aj [b8,uc,iY,iU,dl 4 E5 L2] yI) .ret) (af (aj [cT E7 EF] AG) (aX sa (af (aj [b8,fh,bt 306 [L0,L1],cE,cH,lu] lS) .ret) (af (aj [cT E7 Bg] pf) (aX yt (af (aj [b8,fh,bt 307 [L0,L1],cE,cH,lu] lS) .ret) (af (aj [cT E7 ua] pq) (aX su (af (aj [dp,aF,iX,bt 4 [L2],lu] mc) .ret) (af (aj [cT E7 vG] Ad) (aX uO (af (aj [dp,aF,vW,bt 4 [L2],lu] mc) .ret) .skip)))))))))))))))))))))) (af (aj [b8,fh,bt 303 [E0,L0,L1],cE,cH,lu] lS) .ret))
def ax1:aD:=⟨18,3,.pure,[.cell true 4 5,.env 6],ro⟩
def Xl:ai:=af yK (af (aj [iG,yZ,LS,Lz,Mk,g L1 true (.mov L4),NS,Mb,g L5 false (.bin .eql L7 cV),Wv,dy L1 L9 Vf] [(2,iQ)]) .ret)
def azq:aD:=⟨3,1,.pure,[.env 2],Xl⟩
def U2:ai:=af yK (af (aj [iG,yZ,LS,Lz,Mk,g L1 true (.mov L4),NS,Mb,g L5 false (.bin .eql L7 cS),Wv,dy L1 L9 Vf] [(2,iQ)]) .ret)
def azc:aD:=⟨3,1,.pure,[.env 2],U2⟩
def Zx:ai:=af (aj [uo,bV] [(1,L0),(2,L1),(3,V0)]) (af (aj [jQ 9 E1,bt 308 [L0],iY,iU,zQ 2 L1] [(4,L2),(5,L3),(6,L4)]) (af (af (aj [i (.una .not E6)] fY) (aX E7 Mf .skip)) (af (aj [yn [n0,n0,.int .u64 0,.str []] [(0,1,cV),(1,1,E4),(2,1,E5)],nH] tW) .ret)))
def azL:aD:=⟨8,1,.pure,[.cell true 4 2,.env 3],Zx⟩
def acA:ai:=af (aj AX nT) (af (af (aj [oE] dZ) (aX E2 (af (aj [Ay,bt 223 [gi,L0],dl 9 E1 L1] []) .ret) .skip)) (af (aj [Ay,bt 223 [V0,L0],dl 9 E1 L1] []) .ret))
def azt:aD:=⟨3,1,.pure,[.cell true 9 1],acA⟩
def hY:ai:=af (aj [gU lM ur] yf) (af K6 (af (bH 1 (af (aj [] [(7,lM)]) (af (aj [CP,aF,tH,cK,i (.eqb false L1 L3)] [(13,L4)]) (aX jJ (af (aj [dV,LL,cr,dp,BJ 8 1 L3 E7,pl,jN L2 L5,jN L6 E6] [(8,L7)]) (aj [i (.bin .rem E8 xJ),UQ,gy,BJ 8 1 L2 E7,dl 1 L3 L0] jc)) (af (aj [dV,LL,cr,jN L2 xJ,dp,BJ 8 1 L4 E7,nJ,IT L3 L6,IT L7 E6] [(9,L8)]) (aj [Xp,M7,IT A4 L1,gy,BJ 8 1 L3 E7,dl 1 L4 L0] jS)))))) GA))
def IQ:ai:=af MT (af (af (aj [CP,aF,tH,cK,i (.eqb true L1 L3),g L4 true (.load true 9 E2),g L4 true (.load true 9 E3),g L4 true (.call 310 [L5,L6] false),LC] [(10,L8)]) (aX gY (aj [jQ 9 E3,jQ 9 E2,MU,dl 9 E3 L1] []) .skip)) (af (aj [CP,aF,yn [.int .u64 0,.int .u64 0,.int .u64 0,.int .u64 0,.int .u64 0,.int .u64 0,.int .u64 0,.int .u64 0,nf] [(8,1,L1)],Fa,dl 9 L3 L2] zp) (af (aj [] [(6,ja)]) (af (af (aj [] [(11,V0)]) (bH 0 (.loop [7,8,9,12,13] hY))) (af (aj [F6,aF,g L1 true (.load true 9 E5),g L1 true (.call 309 [L2] false),g L1 true (.una .not L3),Fj,F6,Tw] []) (af (aj [jQ 9 E5,dl 9 E4 L0] []) .ret))))))
def ayj:aD:=⟨14,2,.pure,[.cell true 9 4],IQ⟩
def WQ:ai:=af (aj AX dZ) (af (aj AX gv) (af (aj [Ay] [(4,L0),(5,E1)]) (af (af (aj [oE] iZ) (aX E6 (af (aj [tH,dl 1 L0 Vt] []) (af (aj [i (.una .xor E4),i (.una .xor E5)] [(4,L0),(5,L1)]) (af (aj [jN E5 A4] iO) (af (aj [cT E5 ja] fY) (aX E7 (aj [jN E4 A4] kQ) .skip))))) .skip)) (af (aj [i (.bin .rem E5 xJ),i (.bin .shr E5 mD),i (.bin .rem E4 xJ),i (.bin .shr E4 mD),dp,BJ 8 1 L4 V0,dl 1 L5 L0,dp,BJ 8 1 L7 V1,dl 1 L8 L1,dp,BJ 8 1 iQ cS,dl 1 jR L2,dp,BJ 8 1 jE eV,dl 1 pV L3] []) (af (aj [jQ 9 E3,MU] []) .ret)))))
def ay3:aD:=⟨8,2,.pure,[.cell true 9 2],WQ⟩
def bE:ai:=af (aj [uo] [(1,L0),(2,V0),(3,Vf)]) (af (aj [jQ 9 E1,bt 308 [L0],iY,iU,zQ 2 L1] [(4,L2),(5,L3),(6,L4)]) (af (aj [Lj] fY) (af (aj [g E6 true (.mov E4),g E6 true (.bin .eql L0 V0),g E6 true (.mov L1),g L2 true (.mov E7),g L2 true (.bin .geq L3 V0),g E6 true (.pick L2 L4 Vf),g E6 true (.mov L5),g L6 false (.mov E4),g L6 false (.bin .eql L7 gi),U8,g L9 true (.mov E7),g L9 true (.bin .lss iQ V0),g L6 false (.pick L9 jR Vf),g E6 true (.pick L6 Vt oL),dy E6 jE Vf] [(2,E7),(3,pV)]) .ret)))
def ayo:aD:=⟨8,1,.pure,[.env 2,.env 3],bE⟩
def aq0:ai:=af fd (af (aj [cN,vT,dN 4 L1,cK,cN,dN 17 L4,dl 1 L5 L3] []) (af (aj [cN,vT,dN 4 L1,cK,bt 77 [L3,v (.fn 272 [] [])],i (.una .not L4)] [(2,L5)]) (af (aj [g E2 true (.mov E0),U6,UX,WA,g E2 true (ld L3),Wp,dy E2 L5 Vf,g L6 true (.mov E0),Vp,UR,Wu,Nj,g L6 true (.bin .lss jR cV),KY,UY,Xm,Xe,Vh,g jE true (ld zR),VN,Ve,abQ,WV,VJ,Xa,VU,g Dt true (ld kB),WK,g Dt true (.bin .leq lK cV),aca] [(1,mJ)]) .ret)))
def aBs:aD:=⟨3,1,.keep,[.env 1],aq0⟩
def ajC:ai:=af fd (af (aj [cN,vT,dN 4 L1,cK,cN,dN 17 L4,dl 1 L5 L3] []) (af (aj [cN,vT,dN 4 L1,cK,bt 77 [L3,v (.fn 273 [] [])],i (.una .not L4)] [(2,L5)]) (af (aj [g E2 true (.mov E0),U6,UX,WA,g E2 true (ld L3),Wp,dy E2 L5 Vf,g L6 true (.mov E0),Vp,UR,Wu,Nj,g L6 true (.bin .lss jR aev),KY,UY,Xm,Xe,Vh,g jE true (ld zR),VN,Ve,abQ,WV,VJ,Xa,VU,g Dt true (ld kB),WK,g Dt true (.bin .leq lK ny),aca] [(1,mJ)]) .ret)))
def aA5:aD:=⟨3,1,.keep,[.env 1],ajC⟩
def eM:ai:=af Vu (af (aX uO .skip kA) (af (bH 3 (af (aj aiS ln) (af (aj [] [(6,cS)]) (af (af (aj [gy,aF,B3] [(18,L2)]) (aX By (aj [g E3 true (.fld 1 E5),g E3 true (.fld 0 L0),g E3 true (ld L1),g E3 true (.len L2),g E3 true (.bin .eql L3 V0),dy E3 L4 Vf] [(3,L5)]) (af (aj [Lx,wi,cN,dN 15 L2,fO,bt 276 [L1,L4],GY,FW] [(7,L6),(8,L7)]) (af (aj [g E3 true (.mov E8),g E3 true (.bin .eql L0 V0),dy E3 L1 Vf,g L2 true (.fld 0 E5),gJ,g L2 true (.bin .gtr L4 V1),ko,acd,Do,g L6 true (.bin .leq L8 jA),dy L6 L9 Vf] [(3,iQ)]) (af (aj [gy,aF] [(19,L1)]) (bH 4 (af (aj [cT sE eV] yw) (aX Jb (aj [g E3 true (.mov E7),g E3 true (.bin .eql L0 cS),g E3 true (.mov L1),abT,g L2 false (.bin .eql L3 V0),g E3 true (.pick L2 Vt L4),dy E3 L5 Vf] [(3,L6)]) (af (af (aj [cT sE cV] uE) (aX Ja .skip (aj [cT sE jA] uE))) (aX Ja Sz .skip)))))))))) (aj [cN,A3,cr,kN 1 [E6],Tt,cN,dN 17 L5,UD] []))))) zQx))
def w9:ai:=af KW (af K6 (af (bH 1 (af (aj [dH 1 E9 lM,aF] pS) (af (af (aj [gU E4 V0,T1,ll,U7,g L0 false (.fld 15 L3),S8,V7,g L0 false (.bin .geq L1 L6),MR] [(13,L8)]) (aX jJ Fe .skip)) (aj [cN,A3,cr,cN,dN 15 L3,pl,dH 1 L5 E4,pW L6,kN 1 [L7],ki 1 L2 L8,cN,dN 17 iQ,dl 1 jR L9] [])))) GA))
def Ha:ai:=af fd (af (aj [cN,vT,jQ 12 L1,sF,dl 12 L3 L2] rG) (af (aj [vv,aF,de,dG L2 eV,g L3 true (.fld 8 E2),sX,Nd,g L3 true (.bin .leq L6 wj),dy L3 L7 Vf,g L8 true (.fld 7 E2),Fs,g L8 true (.len iQ),g L8 true (.fld 8 E2),g L8 true (ld oL),g L8 true (.len jE),g L8 true (.bin .add jR pV),g L8 true (.bin .gtr uN V0),dy L8 xN Vf] [(3,zR)]) (af (aj [cN,A3,dl 1 L1 Vn] []) (af (af (.lift 0 17 1 (aj K0 [(9,L1),(10,L2),(11,V0)])) (bH 0 (.loop [1,4,12,13] w9))) (af (af (aj Dd SB) (bH 2 (.loop [5,6,7,8,17,18,19,20,21] eM))) (af (aj [] [(1,E3)]) .ret))))))
def aym:aD:=⟨22,1,.keep,[.env 1],Ha⟩
def AC:ai:=af NQ (af HW (af (bH 1 (af (aj [dH 2 E6 E8,xU,HP,yq] [(4,L2),(3,E8)]) (af (aj adf vt) (aX gY (aj [cN,A3,cr,cN,dN 3 L3,dN 7 L4,nJ,uy L6,jN L7 E3,dH 1 L2 L8,dl 1 L9 cV] []) .skip)))) BS))
def VK:ai:=af fd (af (aj [bt 181 [E0]] dZ) (af (af (aj [i (.una .not E2)] iO) (aX E5 Fe .skip)) (af (af (aj [cN,vT,dN 8 L1,cK,uy L3] [(6,L3),(7,L4),(8,V0)]) (bH 0 (.loop [3,4,9,10] AC))) (af (aj [] [(1,Vt)]) .ret))))
def ay6:aD:=⟨11,1,.keep,[.env 1],VK⟩
def eQ:ai:=af (aj [gU uO su] nz) (af (aX By .skip kA) (af (bH 3 (af (aj [dH 2 yt uO,xU,HP,yq] [(8,L2),(7,uO)]) (af (aj [cN,dN 15 L0,cr,jN E3 E7,dH 1 L2 L3,pl] [(9,L5)]) (af (aj [g E4 true (.fld 1 E8),g E4 true (.fld 0 L0),g E4 true (ld L1),g E4 true (.len L2),g E4 true (.bin .eql L3 V0),dy E4 L4 Vf] yA) (af (aj [zP,aF] [(19,L1)]) (bH 4 (af (af (aj [cT sE V1] yw) (aX Jb .skip (aj [cT sE cS] yw))) (aX Jb (aj [Nb,g E4 true (.bin .eql L0 cS),Lh] mi) (af (aj [cT sE eV] uE) (aX Ja (af (aj [Nb,g E4 true (.bin .eql L0 cV),Lh] mi) (aj [cN,A3,cr,jN E3 E7,dH 1 L2 L3,dl 1 L4 cS] [])) (af (af (aj [cT sE cV] zr) (aX OQ .skip (aj [cT sE jA] zr))) (aX OQ (aj [Nb,g E4 true (.bin .neq L0 cV),Lh] mi) (aj [] [(4,Vf)]))))))))))))) (aj [jN uO V1] Ad)))
def xf:ai:=af Il (af FP (af (bH 1 (af (aj Mi [(5,jJ),(6,L1)]) (aj [g E4 true (.mov E6),g E4 true (.mov E5),g E4 true (.bin .eql L0 L1),dy E4 L2 Vf,NL,g L3 true (.nilck L4),g L3 true (.fld 15 L5),g L3 true (ld L6),g L3 true (.mov E5),g L3 true (.idxs 1 L7 L8),g L3 true (ld L9),g L3 true (.bin .neq iQ cV),dy L3 jR Vf] [(4,oL)]))) BM))
def KQ:ai:=af fd (af (aj [cN,vT,jQ 12 L1,sF,dl 12 L3 L2] rG) (af (aj K0 [(3,L2)]) (af (aj [cN,wb,cr,g8,fO,dH 12 L2 L4,dN 0 L5,pW L6,cT L7 o6,g L8 true (.mov E3),g L8 true (.bin .leq L9 eV),dy L8 iQ Vf,g jR true (.fld 8 E2),Sl,adI,g jR true (.bin .leq pV wj),dy jR uN Vf,g xN true (.mov E3),g xN true (.fld 8 E2),g xN true (ld Ra),g xN true (.len N7),g xN true (.bin .add zR XU),g xN true (.mov E0),g xN true (.nilck eN),g xN true (.fld 15 eW),g xN true (ld kb),g xN true (.len kB),g xN true (.bin .eql Dt mW),dy xN lK Vf] [(4,nb)]) (af (af (aj [i (.una .not E4)] mb) (aX gY Fe .skip)) (af (aj [cN,dN 15 L0,cr,i (.call 95 [L2] true),cN,dN 17 L4,dl 1 L5 L3] []) (af (af (aj K0 [(11,L1),(12,L2),(13,V0)]) (bH 0 (.loop [5,6,14] xf))) (af (af (aj Dd [(15,L1),(16,L2),(17,V0)]) (bH 2 (.loop [7,8,9,18,19,20,21,22] eQ))) (af (aj [] [(1,E4)]) .ret))))))))
def ayq:aD:=⟨23,1,.keep,[.env 1],KQ⟩
def ag6:ai:=af gZ (af (af BG (bH 0 (af (af (aj [cT E2 V1] gv) (aX E3 .skip (aj [cT E2 o6] gv))) (aX E3 qL (af (af (aj [cT E2 cS] kQ) (aX E4 .skip (aj [cT E2 vG] kQ))) (aX E4 Ev (af (af (aj [cT E2 eV] iO) (aX E5 .skip (af (aj [cT E2 cV] iO) (aX E5 .skip (af (aj [cT E2 jA] iO) (aX E5 .skip (af (aj [cT E2 ua] iO) (aX E5 .skip (af (aj [cT E2 ur] iO) (aX E5 .skip (af (aj [cT E2 vr] iO) (aX E5 .skip (aj [cT E2 qQ] iO))))))))))))) UL))))))) zW)
def aBh:aD:=⟨6,1,.pure,[.env 1],ag6⟩
def ai5:ai:=af Tb (af (aj [fG,aF,B3,g L2 false (.fld 0 E1),li,g L2 false (.bin .eql L4 o6),fW,fG,pW L7,cT L8 cV,g L9 false (.fld 0 E1),g L9 false (ld iQ),g L9 false (.bin .eql jR vr),dy L9 Vt oL,W9,Vq,g jE false (.bin .eql uN qQ),dy jE Vt xN] [(3,L6),(4,zR)]) (af (aj [g E3 false (.fld 3 E1),g E3 false (ld L0),g E3 false (.bin .eql L1 V0),g E3 false (.mov L2),g L3 true (.fld 4 E1),sX,Nd,g L3 true (.bin .eql L6 V0),g E3 false (.pick L3 L7 Vf),dy E3 Vt L8] [(5,L9)]) (af (aj [Xv,g E5 true (ld L0),g E5 true (.bin .eql L1 cS),g E5 true (.mov L2),g L3 false (.fld 5 E1),Lt,g L3 false (.una .not L5),g E5 true (.pick L3 Vt L6),dy E5 L7 Vf,Mp,Fs,g L8 true (.bin .eql iQ cS),g L8 true (.mov jR),g oL false (.fld 0 E1),g oL false (ld jE),g oL false (.bin .eql pV eV),g L8 true (.pick oL Vt uN),g L8 true (.mov xN),g zR false (.fld 6 E1),g zR false (.fld 0 Ra),g zR false (ld N7),g zR false (.len XU),g zR false (.bin .eql Dt V0),g L8 true (.pick zR Vt eN),dy L8 eW Vf] [(5,kb)]) (af (aj [g E5 true (.mov E4),g E5 true (.mov L0),g L1 false (.fld 7 E1),g L1 false (ld L2),g L1 false (.len L3),g L1 false (.fld 8 E1),g L1 false (ld L5),g L1 false (.len L6),g L1 false (.bin .add L4 L7),g L1 false (.bin .eql L8 V0),g E5 true (.pick L1 Vt L9),dy E5 iQ Vf,g jR true (.fld 0 E1),Sl,g jR true (.bin .eql jE jA),g jR true (.mov pV),g uN false (.fld 9 E1),g uN false (ld xN),g uN false (.len zR),g uN false (.bin .eql Ra V0),g jR true (.pick uN Vt N7),dy jR XU Vf] [(5,Dt)]) (af (aj [Xv,g E5 true (ld L0),g E5 true (.bin .eql L1 ur),g E5 true (.mov L2),g L3 false (.fld 10 E1),Lt,ac2,g L3 false (.bin .eql L6 V0),g L3 false (.mov L7),g L8 true (.fld 11 E1),Fs,g L8 true (.bin .eql iQ V0),g L3 false (.pick L8 jR Vf),g E5 true (.pick L3 Vt oL),dy E5 jE Vf] [(2,pV)]) .ret)))))
def aAx:aD:=⟨6,1,.pure,[.env 2],ai5⟩
def ai6:ai:=af lF (af (aj [bt 278 [E0,E1],AN] nI) .ret)
def az9:aD:=⟨3,2,.pure,[.env 2],ai6⟩
def yk:ai:=af (aj [rU,bV] GD) (af (af HF (bH 0 (af (bH 5 (af (bH 4 (af (bH 3 (af (bH 2 (af (bH 1 (af (af (af N0 (aX E4 HL .skip)) (af (af (aj [cT E3 cS] iO) (aX E5 kA .skip)) (af (af (aj [cT E3 V0] iZ) (aX E6 (.exit 3) .skip)) (af (af (aj [cT E3 eV] fY) (aX E7 QP .skip)) (af (aj [cT E3 cV] lU) (aX E8 (.exit 5) .skip)))))) nr)) (af (aj [tD,aF,vW,g L2 true (.fld 1 E1),gJ,g L2 true (.bin .neq L4 V1),ko] [(9,L6)]) (aX E9 nr .skip)))) (aj [tD,CU] []))) (af (aj [fG,CU] []) nr))) (af (af (aj [dN 3 E1,aF,eR L1,dG L2 (v (.int .i64 40))] [(10,L3)]) (aX gY (aj [fG,CU,dN 3 E1,dl 1 L2 (v (.str []))] []) .skip)) nr))) (af (aj [fG,CU,tD,dl 1 L2 V0,GU,dl 1 L4 ja] []) nr)))) (af (aj [iG,nH] []) .ret))
def ax8:aD:=⟨11,1,.pure,[.cell true 4 2],yk⟩
def sV:ai:=af Ml (af NU (af (bH 1 (af (aj [dH 2 E7 E9,xU,Lu,yq] ln) (af (aj [jQ 2 E5,i (.callv E0 [L0]),kD] Gw) (aX lM .ret .skip)))) CF))
def acU:ai:=af (aj [kj,jy,bt 20 [L0,L1],cE,cH] vf) (af (af (aj [uy E4,Hb,g L1 true (ld E2),g L1 true (.len L2),Mk,Fj,g L5 true (ld E3),dy L5 L6 Vf] [(6,L7)]) (aX E6 (aj [yn [.yz,.yz] [],kN 2 [L0]] pS) .skip)) (af (aj [uy E4] [(7,E4),(8,L0),(9,V0)]) (bH 0 (.loop [5,10,11] sV))))
def azz:aD:=⟨12,4,.keep,[],acU⟩
def vh:ai:=bH 1 (fr [pW E8,dH 1 E9 V0,cr,jy,bt 61 [L2,L3],i (.call 62 [E9] true),yn [.yz,.yz] [(0,1,L4),(1,1,L5)],kN 2 [L6],ki 2 L0 L7,dl 1 E8 L8] [] [(0,6)])
def uG:ai:=aj [] [(9,mM)]
def ajr:ai:=af (aj [CM,pn] vz) (af (af (aj [jy,bt 69 [E0,L0]] jI) (af (aj [kT E5 V0] mb) (aX gY (af (aj fD [(3,L0),(4,E5)]) .ret) .skip))) (af (aj [i (.call 68 [E0] true)] iZ) (af (aj [i (.mkfn 66 [] [E2]),bt 67 [E6,L0]] []) (af (aj [i (.mkfn 65 [] [E2])] fY) (af (aj [oF 1 Vn] lU) (af (af (.lift 8 0 2 (aj [bt 64 [E6,E7]] pC)) (bH 0 (.rng 13 lM 63))) (af (aj [pW E8] [(3,L0),(4,V0)]) .ret)))))))
def az8:aD:=⟨13,2,.pure,[.env 3,.env 4],ajr⟩
def pc:vH:=⟨13,[12],uG,vh⟩
def aie:ai:=af Ln (af (af (aj [kN 1 [E0],bt 79 [L0]] nK) (af (aj [kT E3 V0] kQ) (aX E4 (af (aj fD [(1,L0),(2,E3)]) .ret) .skip))) (af (aj [i (.call 80 [E0] true)] CZ) .ret))
def aAT:aD:=⟨5,1,.pure,[.env 1,.env 2],aie⟩
def ag7:ai:=af fd (af (aj [bt 197 [E0],kT L0 V0] [(1,L1)]) .ret)
def az5:aD:=⟨2,1,.pure,[.env 1],ag7⟩
def aje:ai:=af gZ (af (af (aj [bt 163 [E0],PP] nI) (aX E2 (af (aj [] [(1,v (.int .i64 150))]) .ret) .skip)) qL)
def aAm:aD:=⟨3,1,.pure,[.env 1],aje⟩
def tc:ai:=af RR (af SU (af (bH 3 (af (aj [dH 1 sE Ja,aF] [(12,Ja),(13,L1)]) (fr [dH 1 E4 jJ,aF,i (.mins lM [L1]),BJ 2 1 gY mM,dl 1 L3 jJ] Gw [(0,5),(1,5)]))) Tp))
def fE:ai:=af Vu (af (aX uO .skip nr) (af (bH 1 (af (aj [dH 8 sa su,tZ,rA,wy] [(7,L2),(6,su)]) (af (aj [KX,aF,bt 247 [L1]] mm) (af (af (aj [gU E8 V0,aij,NH,TZ,g L0 false (.bin .gtr L1 L3),Va,g L5 false (.load true 8 E7),g L5 false (.call 246 [L6] false),g L5 false (.una .not L7),dy L5 Vt L8] [(18,L9)]) (aX By (af (aj fD Kk) .ret) .skip)) (af (aj [rR,IT L0 E8,i (.slice 1 E5 (some L1) none)] mf) (af (aj Wx G8) (af (aj [] [(11,E6)]) (af (af (aj [uy E9] [(19,E9),(20,L0),(21,V0)]) (bH 2 (.loop [12,13,22] tc))) (af (af (aj [jQ 2 gY,WS,cr,dN 2 E7,fO,Xk,V9] [(23,L6)]) (aX XM (af (aj fD Kk) .ret) .skip)) (af (aj [Mz,ki 1 E4 L0] pS) (aj [rR,IT L0 E8,i (.slice 1 E5 none (some L1)),kN 1 [E6],Tt] nu))))))))))) zQx))
def W2:ai:=af (aj MN [(1,L0),(2,L1),(3,Vf)]) (af (aj [Vy 1,Vy 1] [(4,L0),(5,L1)]) (af (af (aj VI SB) (bH 0 (.loop [2,3,6,7,8,9,10,11,12,13,17,18,19,20,21,22,23] fE))) (af (aj [rR,cT L0 V1,g L1 true (.mov E4),g L1 true (.len L2),g L1 true (.bin .leq L3 (v (.int .i64 1000))),Fj] [(2,E4),(3,L5)]) .ret)))
def azd:aD:=⟨24,1,.pure,[.env 2,.env 3],W2⟩
def ul:ai:=af zf (af Rv (af (bH 1 (af LK (af (aj [g8,wi,bt 172 [L1,E7],cE,cH,bV,nG] [(8,L5),(9,L4)]) (bH 2 (af (aj [cT E9 nM] AG) (aX sa (aj [] [(6,E9)]) (af (aj [kT E9 V0] pf) (aX yt (af (aj fD [(3,L0),(4,cS)]) .ret) (af (aj [zP,aF,vW] [(16,L2)]) (aX su (aj [Cb,lX,ki 4 E5 L1] ln) .skip)))))))))) Bz))
def acL:ai:=af (aj [oF 2 E0,pn] vz) (af (aj zD iO) (af Cc (af (af (aj rv [(10,E1),(11,L0),(12,V0)]) (bH 0 (.loop [3,4,7,8,9,13,14,15,16] ul))) (af (aj [] [(3,E5),(4,E6)]) .ret))))
def azQ:aD:=⟨17,2,.pure,[.env 3,.env 4],acL⟩
def ai3:ai:=af yK (af (aj [fG,aF,kT L1 cS] va) .ret)
def aA4:aD:=⟨3,1,.pure,[.env 2],ai3⟩
def ajb:ai:=af lF (af (aj [bt 248 [E0,E1],AN] nI) .ret)
def aAV:aD:=⟨3,2,.pure,[.env 2],ajb⟩
def Ob:ai:=af CW (af vF (af (bH 1 (af (aj Gy mi) (af (aj [b8,fh,bt 201 [L0,L1],cE,cH,bV,nG] [(5,L5),(6,L4)]) (af (af (aj tE yf) (aX mM (af (aj [uz,zL] [(2,E6)]) .ret) .skip)) (aj [uz,wx] []))))) vj))
def aqO:ai:=af (aj zC CZ) (af (af (aj [dr,Oo L0 (v (.int .i64 1048576))] rP) (aX E7 (af (aj [jL,zL] [(2,eV)]) .ret) .skip)) (af (aj SL nK) (af (af Gj (bH 0 (.loop [2,4,5,6,11,12] Ob))) (af (aj [b8,bt 215 [L0],iY,iU,dl 4 E1 L2] rG) .ret))))
def axK:aD:=⟨13,1,.pure,[.cell true 4 1,.env 2],aqO⟩
def ahx:ai:=af wr (af (aj [dB,lX,b8,kN 4 [L2],bt 214 [L1,L3]] [(4,L4)]) .ret)
def aBk:aD:=⟨5,2,.pure,[.env 4],ahx⟩
def zV:ai:=af (af (aj [uy E3,gU E4 L0] [(8,L1)]) (aX E8 .skip kA)) (af (bH 3 (af (aj [Up,aF,IT E4 V1,dH 1 E3 L2,fO,kT L1 L4] [(9,L5)]) (aX E9 (af (aj [Up,aF,dH 1 E0 E2,Wf] []) (aj [jN E2 V1] dZ)) .skip))) BW)
def ot:ai:=af (af (aj [dr,gU E2 L0] jc) rL) (af (bH 1 (af (aj [dH 1 E0 E2,aF,IT E2 V1,dH 1 E0 L2,fO,cT L1 L4] [(7,L5)]) (aX E7 (af (aj [VD] gv) (af (af Lr (bH 2 (.loop [8,9] zV))) (af (aj [VD,i (.clr (.int .i64 0) L0)] []) (af (aj [i (.slice 1 E0 none (some E2))] nT) .ret)))) .skip))) (aj [jN E2 V1] dZ))
def WP:ai:=af jK (af (af (aj [dr,gU L0 cS] jI) (aX E5 (af (aj [] [(1,E0)]) .ret) .skip)) (af (af (aj [] [(2,V1)]) (bH 0 (.loop [1,3,4,6,7,8,9] ot))) (af (aj [] [(1,E0)]) .ret)))
def aze:aD:=⟨10,1,.keep,[.env 1],WP⟩
def aoM:ai:=af ER (af (aj [i (.mkfn 342 [] [E1])] dZ) .ret)
def apd:aD:=⟨3,1,.pure,[.env 2],aoM⟩
def aiP:ai:=af jh (af (aj [dB,b8,bt 343 [L0,L1,v (.fn 344 [] [])],cE,cH,rB] nu) .ret)
def aAU:aD:=⟨6,2,.pure,[.cell true 4 4,.env 5],aiP⟩
def ap5:ai:=af ER (af (aj [i (.mkfn 345 [] [E1])] dZ) .ret)
def apt:aD:=⟨3,1,.pure,[.env 2],ap5⟩
def apq:ai:=af Ai (af (aj [bt 149 [V0],iG,bt 288 [L0,L1],cE,cH,MC] [(3,L4)]) .ret)
def aAy:aD:=⟨4,1,.pure,[.cell true 4 2,.env 3],apq⟩
def aiQ:ai:=af Ai (af (aj [iG,lX,bt 346 [v (.fn 347 [] []),L1],cE,cH,MC] [(3,L4)]) .ret)
def aAa:aD:=⟨4,1,.pure,[.cell true 4 2,.env 3],aiQ⟩
def aq4:ai:=af ER (af (aj [i (.mkfn 348 [] [E1])] dZ) .ret)
def an9:aD:=⟨3,1,.pure,[.env 2],aq4⟩
def aok:ai:=af jh (af (aj [dB,b8,bt 349 [L0,L1,v (.fn 350 [] [])],cE,cH,rB] nu) .ret)
def axL:aD:=⟨6,2,.pure,[.cell true 4 4,.env 5],aok⟩
def apK:ai:=af jh (af (aj [dB,b8,bt 349 [L0,L1,v (.fn 351 [] [])],cE,cH,rB] nu) .ret)
def aA0:aD:=⟨6,2,.pure,[.cell true 4 4,.env 5],apK⟩
def am7:ai:=af jh (af (aj [dB,b8,bt 349 [L0,L1,v (.fn 352 [] [])],cE,cH,rB] nu) .ret)
def axP:aD:=⟨6,2,.pure,[.cell true 4 4,.env 5],am7⟩
def ang:ai:=af jh (af (aj [dB,b8,bt 349 [L0,L1,v (.fn 353 [] [])],cE,cH,rB] nu) .ret)
def axO:aD:=⟨6,2,.pure,[.cell true 4 4,.env 5],ang⟩
def aiK:ai:=af jh (af (aj [dB,b8,bt 343 [L0,L1,v (.fn 354 [] [])],cE,cH,rB] nu) .ret)
def aAw:aD:=⟨6,2,.pure,[.cell true 4 4,.env 5],aiK⟩
def aoO:ai:=af ER (af (aj [i (.mkfn 355 [] [E1])] dZ) .ret)
def aqr:aD:=⟨3,1,.pure,[.env 2],aoO⟩
def ahK:ai:=af jh (af (aj [dB,b8,Gg,bt 346 [v (.fn 356 [] []),L2],lg,lr,BR] Cl) .ret)
def az7:aD:=⟨6,2,.pure,[.cell true 4 4,.env 5],ahK⟩
def ajI:ai:=af jh (af (aj [dB,b8,Gg,bt 346 [v (.fn 357 [] []),L2],lg,lr,BR] Cl) .ret)
def aAY:aD:=⟨6,2,.pure,[.cell true 4 4,.env 5],ajI⟩
def ajw:ai:=af iS (af (aj [kj,kj,de,Fi,i (.slice 4 L0 (some L3) none),i (.call 358 [L4] true)] [(3,L5)]) (af (aj [kj,kj,de,Fi,i (.slice 4 L0 none (some L3)),dl 1 E1 L4] []) tI))
def aBb:aD:=⟨4,2,.keep,[.env 2],ajw⟩
def aiI:ai:=af jK (af (af (aj [i (.nils false E0)] dZ) (aX E2 (af jK .ret) .skip)) (af (aj [cI (v .yz),ki 4 L0 E0] [(1,L1)]) .ret))
def az3:aD:=⟨3,1,.fresh 4,[.env 1],aiI⟩
def DM:ai:=af gZ (af (bH 0 (af (aj [cT E0 V1,ll,g L0 false (.bin .eql L1 cS),mn] rG) (aX E2 qL (af (aj [Rc E0 cV,SW,g L0 true (.bin .leq L1 vG),J4] Dj) (aX E3 FC (af (aj [Rc E0 wj,SW,g L0 true (.bin .leq L1 Bg),J4] vf) (aX E4 Ev .skip))))))) zW)
def ayh:aD:=⟨5,1,.pure,[.env 1],DM⟩
def ahf:ai:=af yK (af (aj [iG,AH,vW] va) .ret)
def aBe:aD:=⟨3,1,.pure,[.env 2],ahf⟩
def ajl:ai:=af lF (af (aj [bt 320 [E0,E1],AN] nI) .ret)
def aA3:aD:=⟨3,2,.pure,[.env 2],ajl⟩
def kY:ai:=af CW (af vF (af (bH 1 (af (aj Gy [(5,L2),(4,gY)]) (af (af (aj [jP,Rc E4 L0] [(12,L1)]) (aX mM KR .skip)) (af (aj [dH 4 E1 E4,fk,bV,wD] jS) (af (aj [uz,ry,i (.callv E2 [L0,L1])] iN) (af (aj Cu Og) (aX jJ (af (aj [] [(3,E7)]) .ret) .skip))))))) vj))
def Wh:ai:=af zM (af (af Gj (bH 0 (.loop [3,4,5,6,7,11,12,13] kY))) (af (af (aj [dr,jP,gU L0 L1] [(14,L2)]) (aX sa (af (aj [] [(3,gi)]) .ret) .skip)) oG))
def ayW:aD:=⟨15,3,.pure,[.env 3],Wh⟩
def ajM:ai:=af wr (af (aj [dV,aF,dp,cK,bt 242 [L1,L3],g8,nJ,gr,pW L7,bt 243 [L6,L8],sZ,pW iQ,yQ,pW oL,bt 244 [jR,jE],pd,pW uN,om,pW zR,bt 245 [xN,Ra],kN 1 [L4,L9,pV,N7],bt 141 [XU]] [(4,Dt)]) .ret)
def aAj:aD:=⟨5,2,.pure,[.env 4],ajM⟩
def ye:ai:=af gZ (af (af BG (bH 0 (af (aj [cT E2 V1] gv) (aX E3 qL (af (af (aj [cT E2 cS] kQ) (aX E4 .skip (aj [cT E2 vG] kQ))) (aX E4 Ev (af (af (aj [cT E2 eV] iO) (aX E5 .skip (af (aj [cT E2 cV] iO) (aX E5 .skip (af (aj [cT E2 jA] iO) (aX E5 .skip (af (aj [cT E2 ua] iO) (aX E5 .skip (aj [cT E2 ur] iO))))))))) UL))))))) zW)
def ax9:aD:=⟨6,1,.pure,[.env 1],ye⟩
def pB:ai:=af (aj qE [(2,L0),(3,V0)]) (af (af (aj [HQ,yY,C3,g L0 false (ld L2),g L0 false (.len L3),g L0 false (.bin .geq L1 L4),F1] [(8,L6)]) (aX E8 oG .skip)) (af (aj WD [(4,L4)]) (af (af (aj [hZ,aF,bt 299 [L1]] mf) (bH 0 (af (aj [cT E9 V0] mb) (aX gY (af (aj [kf,aF,cT L1 gi,g L2 true (.fld 2 E4),gJ,adT,ko] [(11,L6)]) (aX lM KR .skip)) (af (aj [cT E9 V1] yf) (aX mM (af (aj [kf,aF,vA,cT L1 L2,g L3 true (.fld 2 E4),sX,aa3,DX] [(13,L7)]) (aX jJ (af (aj WW zp) (af (aj [Oo E5 V0] AG) (aX sa (af (aj [jN E5 V1] gv) .ret) .skip))) .skip)) (af (aj [cT E9 cS] pf) (aX yt (af (aj [dN 2 E4,aF,vA,cT L1 L2] [(16,L3)]) (aX su (af (aj [ma,dN 2 E4,cr,bt 301 [L0,L2]] yI) (af (aj [Oo E6 V0,g L0 true (.fld 1 E4),g L0 true (ld L1),g L0 true (.fld 2 E4),SC,g L0 true (.mov E6),g L0 true (.bin .sub L4 L5),g L0 true (.bin .eql L2 L6),dy L0 L7 Vf] [(17,L8)]) (aX uO (af (aj WW BZ) (af (aj [Oo E7 V0] nz) (aX By (af (aj [jN E7 E6,jN L0 V1] nK) .ret) .skip))) .skip))) .skip)) .skip)))))))) oG)))
def axZ:aD:=⟨19,2,.pure,[.env 3],pB⟩
def aey:ai:=af (af (aj [dN 10 E3,aF,de,gU By L2] [(35,L3)]) (aX qY .skip (.exit 11))) (af (bH 12 (aj [V8,EY,g E7 true (.mov By),g E7 true (.idxs 2 L1 L2),g E7 true (.fld 0 L3),g E7 true (ld L4),g E7 true (.bin .geq L5 V0),dy E7 L6 Vf,g L7 true (.fld 10 E3),FG,g L7 true (.mov By),g L7 true (.idxs 2 L9 iQ),g L7 true (.fld 0 jR),g L7 true (ld oL),g L7 true (.mov E1),g L7 true (.len pV),g L7 true (.bin .lss jE uN),dy L7 xN Vf] [(7,zR)])) (aj [jN By V1] nz))
def tv:ai:=af (af (aj [dN 4 E3,aF,de,gU E8 L2] [(21,L3)]) (aX Ja .skip HL)) (af (bH 2 (aj [g E7 true (.fld 4 E3),EY,g E7 true (.mov E8),g E7 true (.idxs 1 L1 L2),g E7 true (ld L3),g E7 true (.bin .geq L4 V1),dy E7 L5 Vf,g L6 true (.fld 4 E3),Do,g L6 true (.mov E8),g L6 true (.idxs 1 L8 L9),Nj,g L6 true (.bin .leq jR eV),KY] [(7,jE)])) BS)
def EP:ai:=af (af (aj [tH,aF,de,gU gY L2] [(27,L3)]) (aX dn .skip (.exit 5))) (af (bH 6 (af (aj [tH,aF,dH 2 L1 gY,jQ 2 L2,bt 360 [L3,E1],vR,uS] [(11,L5),(12,L6)]) (af (aj [Mz,M4] jc) (aj [g E7 true (.mov mM),dy E7 L0 Vf] rP)))) vj)
def wS:ai:=af (af (aj [NO,aF,de,gU E9 L2] [(25,L3)]) (aX dh .skip (.exit 3))) (af (bH 4 (af (af (aj [NO,aF,dH 1 L1 E9,cK,gU L3 V0,g L4 false (.fld 7 E3),g L4 false (ld L5),g L4 false (.mov E9),g L4 false (.idxs 1 L6 L7),g L4 false (ld L8),g L4 false (.mov E1),g L4 false (.len iQ),g L4 false (.bin .geq L9 jR),dy L4 Vt oL] [(26,jE)]) (aX cW (af (aj fD [(4,L0),(5,Vf)]) .ret) .skip)) (aj [NO,aF,dH 1 L1 E9,cK,dH 1 E1 L3,pl,kN 1 [L5],ki 1 E6 L6] [(6,L7)]))) CF)
def xC:ai:=af (af (aj [dN 9 E3,aF,de,gU jJ L2] [(29,L3)]) (aX jT .skip (.exit 7))) (af (bH 8 (af (aj [dN 9 E3,aF,dH 1 L1 jJ,b9 L2,bt 361 [L3,E1],vR,uS] [(14,L5),(15,L6)]) (af (aj [kN 1 [sa],M4] jc) (aj [g E7 true (.mov yt),g E7 true (.bin .eql L0 V0),dy E7 L1 Vf] iN)))) BM)
def aeS:ai:=af (af (aj [jP,gU su L0] [(33,L1)]) (aX sK .skip (.exit 9))) (af (bH 10 (af (aj [dH 1 E1 su,aF] [(17,L1)]) (af (af (aj [cT uO V0] [(34,L0)]) (aX rO (aj [dH 1 E2 su,aF] [(17,L1)]) .skip)) (af (aj [kN 1 [uO],M4] jc) (aj [g E7 true (.mov E2),g E7 true (.mov su),g E7 true (.idxs 1 L0 L1),g E7 true (ld L2),g E7 true (.mov uO),g E7 true (.bin .eql L3 L4),g E7 true (.mov L5),Rx,g L6 false (.mov su),g L6 false (.idxs 1 L7 L8),g L6 false (ld L9),g L6 false (.bin .eql iQ V0),g E7 true (.pick L6 Vt jR),dy E7 oL Vf] [(7,jE)]))))) zQx)
def pE:ai:=af (aj CC [(3,L0),(4,L1),(5,Vf)]) (af (aj rM iZ) (af (aj [] [(7,Vt)]) (af (af (aj [dp,aF] [(19,L1)]) (bH 0 (af (aj [cT sE V1] yw) (aX Jb (af (af Nz (bH 1 (.loop [21] tv))) (af (aj [dN 4 E3,aF,g E7 true (.fld 3 E3),g E7 true (ld L2),g E7 true (.bin .geq L3 V0),dy E7 L4 Vf,g L5 true (.fld 3 E3),g L5 true (ld L6),g L5 true (.bin .leq L7 eV),dy L5 L8 Vf,g L9 true (.fld 4 E3),Mt,g L9 true (.len jR),g L9 true (.bin .geq oL V1),dy L9 jE Vf,g pV true (.fld 4 E3),g pV true (ld uN),g pV true (.len xN),g pV true (.bin .leq zR cV),dy pV Ra Vf] [(4,L1),(5,N7)]) .ret)) (af (aj [cT sE cS] zr) (aX OQ (af (aj [ki 1 E6 E1,ki 1 L0 E2] jc) (af (aj [dN 6 E3,wi,bt 359 [L1,E6]] [(4,E6),(5,L2)]) .ret)) (af (aj [cT sE eV] HK) (aX XM (af (aj [dN 6 E3,wi,bt 359 [L1,E1]] [(4,E1),(5,L2)]) .ret) (af (aj [cT sE cV] HE) (aX dQ (af (af (aj [] [(9,V0)]) (bH 3 (.loop [4,5,25,26] wS))) (af (af (aj [] [(10,V0)]) (bH 5 (.loop [11,12,27] EP))) (af (aj [g E7 true (.fld 7 E3),EY,g E7 true (.len L1),VG,dy E7 L3 Vf,g L4 true (.fld 8 E3),SG,g L4 true (.len L6),g L4 true (.bin .leq L7 wj),dy L4 L8 Vf,g L9 true (.mov E6),g L9 true (.len iQ),g L9 true (.bin .gtr jR V0),dy L9 oL Vf] [(4,E6),(5,jE)]) .ret))) (af (aj [cT sE jA] [(28,L0)]) (aX jB (af (af (aj [] [(13,V0)]) (bH 7 (.loop [14,15,29] xC))) (af (aj [g E7 true (.mov E6),g E7 true (.len L0),g E7 true (.bin .geq L1 V1),dy E7 L2 Vf,g L3 true (.mov E6),g L3 true (.len L4),g L3 true (.bin .leq L5 ny),DX] [(4,E6),(5,L7)]) .ret)) (af (aj [cT sE ua] [(30,L0)]) (aX kH (af (aj [] [(4,E1),(5,Vt)]) .ret) (af (aj [cT sE vG] [(31,L0)]) (aX mY (af (af (aj [jP,uy E2,kT L0 L1] [(32,L2)]) (aX rz (af (aj fD [(4,L0),(5,Vf)]) .ret) .skip)) (af (af (aj [] [(16,V0)]) (bH 9 (.loop [17,33,34] aeS))) (af (aj [] [(4,E6),(5,E7)]) .ret))) .skip)))))))))))))))) (af (af (aj [] [(18,V0)]) (bH 11 (.loop [35] aey))) (af (aj [V8,EY,g E7 true (.len L1),VG,dy E7 L3 Vf,g L4 true (.fld 11 E3),SG,g L4 true (.bin .geq L6 gi),LC,g L8 true (.fld 11 E3),Fs,g L8 true (.bin .leq iQ (v (.int .i64 2147483647))),dy L8 jR Vf] [(4,E1),(5,oL)]) .ret)))))
def ax0:aD:=⟨36,3,.trunc,[.env 4,.env 5],pE⟩
def pD:ai:=af (aj qE [(2,L0),(3,V0)]) (af (af (aj [HQ,yY,C3,g L0 false (ld L2),g L0 false (.len L3),g L0 false (.bin .geq L1 L4),F1] [(8,L6)]) (aX E8 oG .skip)) (af (aj [dV,aF,dH 8 L1 E1,jQ 8 L2,rA,dl 8 L4 L3] [(4,L4)]) (af (aj [hZ,aF,bt 363 [L1]] ln) (af (af (aj [gU E5 V0,g L0 false (.load true 8 E4),g L0 false (.call 362 [L1] false),g L0 false (.una .not L2),Jw] [(9,L4)]) (aX E9 oG .skip)) (af (af (aj [cT E5 V0] mb) (aX gY (af (af (aj [kf,aF,kT L1 gi,g L2 false (.fld 2 E4),li,g L2 false (.bin .neq L4 gi),fW] [(11,L6)]) (aX lM oG .skip)) KR) .skip)) (af (aj [ma,vA,bt 302 [L0,L1]] jS) (af (af (aj [cT E6 V0] yf) (aX mM oG .skip)) (af (af (aj [cT E5 V1] Og) (aX jJ (af (af (aj [kf,aF,vA,kT L1 L2,g L3 false (.fld 2 E4),Lt,g L3 false (.bin .neq L5 gi),dy L3 Vt L6] [(14,L7)]) (aX sa oG .skip)) (af (aj [jN E6 V1] gv) .ret)) .skip)) (af (aj [ma,vA,IT L1 E6,bt 302 [L0,L2]] BZ) (af (af (aj [cT E7 V0,g L0 false (.fld 2 E4),zO,yY,acI,Zm,F1,g L6 false (.fld 1 E4),Cv,TH,ac1,Vm,acB,Z3,dy L6 Vt jE] [(15,pV)]) (aX yt oG .skip)) (af (aj [jN E7 E6,jN L0 V1] nK) .ret)))))))))))
def axY:aD:=⟨16,2,.pure,[.env 3],pD⟩
def jC:ai:=af KU (af (bH 0 (af (aj [b8,yZ,kD,Vb,adG,wd,fW] Ch) (aX gY (af (aj tT [(6,tX)]) .ret) (af (aj [b8,bt 228 [L0],kD,Vb,Xh,wd,fW] [(11,L6)]) (aX lM (af (aj tT [(6,cS)]) .ret) (af (aj Mr [(12,L6)]) (aX mM (af (aj tT mc) .ret) .skip))))))) (af (aj AX fY) (af (af (aj [] [(13,E0)]) (bH 1 (af (aj [cT jJ (v (.int .u8 43))] pf) (aX yt (aj [gr,aF,BB,kf,fO,EO,bt 225 [L2,L5],La] []) (af (aj [cT jJ (v (.int .u8 45))] pq) (aX su (aj [gr,aF,BB,kf,fO,EO,bt 364 [L5],bt 225 [L2,L6],dl 9 E7 L7] []) (af (aj [cT jJ (v (.int .u8 42))] Ad) (aX uO (aj [gr,aF,BB,kf,fO,EO,bt 365 [L2,L5],La] []) (af (af (aj [kf,aF,iX] [(14,L2)]) (aX sa My .skip)) (aj [gr,aF,BB,kf,fO,EO,bt 366 [L2,L5],La] [])))))))))) (af (aj [jQ 9 E7,bt 229 [L0],iY,iU] [(8,L2),(9,L3)]) (af (af (aj [i (.una .not E9)] nz) (aX By My .skip)) (af (aj [bt 34 [E8],nU] mc) .ret))))))
def axU:aD:=⟨19,3,.pure,[.cell true 4 5,.env 6],jC⟩
def KG:ai:=af Ai (af (aj [iG,iG,bt 367 [L0,L1]] mi) (af (af (aj [kT E4 V0,g L0 false (.fld 0 E1),zO,Oj,Jw] nu) (aX E5 KT .skip)) (af (aj [tD,aF,iX,bt 4 [L2],MC] tW) .ret)))
def ayD:aD:=⟨6,1,.pure,[.cell true 4 2,.env 3],KG⟩
def Vk:ai:=af jh (af (aj [dB,b8,bt 367 [L0,L1]] jS) (af (aj [bt 4 [Vf],bV,LW] rP) (af (bH 0 (af (aj tE lU) (aX E8 BK (af (aj [dB,uf,abm,zE,g L2 false (.load true 4 E7),g L2 false (.eqa false [0,0,0,2] L3 L4),fW] [(9,L6)]) (aX E9 (af (aj [uf,uh] lY) .ret) (af (aj [dV,aF,iX,N4,li,K8,fW] Ch) (aX gY (af (aj Gs lY) .ret) .skip))))))) (af (aj [bt 4 [Vt],uh] lY) .ret))))
def azn:aD:=⟨11,2,.pure,[.cell true 4 4,.env 5],Vk⟩
def Xi:ai:=af jh (af (af (aj [dB,b8,bt 367 [L0,L1]] jS) (af (aj tE mb) (aX gY BK .skip))) (af (aj [dB,uc,iY,iU,bV,SF] Da) (af (aj [b8,uc,iY,iU,bV,SF] [(8,L4)]) (af (aj [uf,Cb,bt 306 [L0,L1],cE,cH,bV,nG] [(9,L5)]) (af (aj [Cm,uc,iY,iU,dl 4 E4 L2] zp) .ret)))))
def ay5:aD:=⟨11,2,.pure,[.cell true 4 4,.env 5],Xi⟩
def aiR:ai:=af Ni (af (af BG (aX E2 (af (aj [yn [n0,n0,.int .u64 0,.str []] [(0,1,V1),(1,1,V1)],zL] []) .ret) .skip)) (af (aj [VE,zL] []) .ret))
def aAP:aD:=⟨3,1,.pure,[.cell true 4 1],aiR⟩
def ais:ai:=af KU (af (af (aj [] [(13,E0)]) (bH 0 (af (aj [cT jJ ny] AG) (aX sa (af (aj [b8,fh,bt 369 [L0,L1],cE,cH,lu] lS) .ret) (af (aj [cT jJ (v (.int .i64 18))] pf) (aX yt (af (aj [b8,fh,Fd,cE,cH,lu] lS) .ret) (af (aj [cT jJ (v (.int .i64 20))] pq) (aX su (af (aj [fh,b8,Fd,cE,cH,lu] lS) .ret) (af (aj [cT jJ If] Ad) (aX uO (af (aj [b8,fh,bt 369 [L0,L1],cE,cH,bV,nG] [(7,L5),(8,L4)]) (af (aj [uf,uc,iY,iU,dl 4 E7 L2] []) LP)) (af (aj [cT jJ (v (.int .i64 19))] nz) (aX By (af (aj [fh,b8,Fd,cE,cH,bV,nG] [(9,L5),(10,L4)]) (af (aj [Cm,uc,iY,iU,dl 4 E9 L2] []) (af (aj [Cm,nU] [(6,gY)]) .ret))) .skip)))))))))))) (af (aj [b8,fh,Fd,cE,cH,bV,nG] [(11,L5),(12,L4)]) (af (aj [jQ 4 lM,uc,iY,iU,dl 4 lM L2] []) (af (aj [jQ 4 lM,nU] [(6,mM)]) .ret))))
def aBi:aD:=⟨19,3,.pure,[.cell true 4 5,.env 6],ais⟩
def mF:ai:=af (af (aj [gU E7 ur] lU) HT) (af (bH 1 (af (aj [fG,LL,cr,kT L2 ja] [(9,L3)]) (aX E9 (af (aj [] [(2,V0),(3,ja),(4,Vf)]) .ret) .skip))) HB)
def OY:ai:=af (aj [uo] [(1,L0),(2,V0),(3,ja),(4,Vf)]) (af (aj [fG,BJ 8 1 L0 eV,cr,UV,fG,BJ 8 1 L4 cS,nJ,jN L3 L6,fG,BJ 8 1 L8 V1,pW L9,Vg,fG,BJ 8 1 oL V0,pW jE,jN jR pV] [(5,L7),(6,uN)]) (af (af (aj [] [(7,cV)]) (bH 0 (.loop [2,3,4,8,9] mF))) (af (af (aj [EH,aF] G8) (aX gY (af (aj [i (.una .xor E5),i (.una .xor E6)] [(5,L0),(6,L1)]) (af (aj [jN E6 A4] iZ) (af (aj [cT E6 ja] pC) (aX lM (aj [jN E5 A4] iO) .skip)))) .skip)) (af (aj [Lj,Lj,gU L1 V0,EH,fO,i (.eqb false L2 L4)] [(2,L0),(3,E6),(4,L5)]) .ret))))
def ayI:aD:=⟨12,1,.pure,[.env 2,.env 3,.env 4],OY⟩
def mE:ai:=af (af (aj [Rc E5 V0] iZ) rL) (af (bH 1 (af (aj [dV,BJ 8 1 L0 E5,cr,dp,BJ 8 1 L3 E5,pl,kT L2 L5] [(7,L6)]) (aX E7 (af (aj [dV,BJ 8 1 L0 E5,cr,dp,BJ 8 1 L3 E5,pl,gU L2 L5] [(4,L6)]) .ret) .skip))) (aj [IT E5 V1] iO))
def Zh:ai:=af (aj [uo,oF 9 E1] Gi) (af (af (aj [] [(5,vG)]) (bH 0 (.loop [4,6,7] mE))) Si)
def azI:aD:=⟨8,2,.pure,[.env 4],Zh⟩
def yb:ai:=af (aj [uo] Db) (af (aj [fG,tZ,yn [.int .u64 0,.int .u64 0,.int .u64 0,.int .u64 0,.int .u64 0,.int .u64 0,.int .u64 0,.int .u64 0] [],i (.eqa false [0,0,0,0,0,0,0,0] L1 L2)] rG) .ret)
def aya:aD:=⟨3,1,.pure,[.env 2],yb⟩
def aiL:ai:=af lF (af (aj [bt 160 [E0,E1],AN] nI) .ret)
def azX:aD:=⟨3,2,.pure,[.env 2],aiL⟩
def aqh:ai:=af fd (af (aj [gU E0 V1,ll,NV,mn] [(1,L3)]) .ret)
def aBt:aD:=⟨2,1,.pure,[.env 1],aqh⟩
def ajp:ai:=af fd (af (aj [oE,ll,g L0 false (.bin .gtr L1 cV),mn] [(1,L3)]) .ret)
def aAM:aD:=⟨2,1,.pure,[.env 1],ajp⟩
def Bf:ai:=af (aj [gU uO su] nz) (af (aX By .skip kA) (af (bH 3 (af (aj [dH 1 yt uO,aF] [(8,L1)]) (af (aj [pW E3,Cn,Rc E8 L1] [(19,L2)]) (aX sE (af (aj [] [(4,V0),(5,cS)]) .ret) .skip)))) (aj [jN uO V1] Ad)))
def JU:ai:=af zf (af Rv (af (bH 1 (af LK (af (aj [gU E7 V0,Ms,NV,mn] [(14,L3)]) (aX sa (af (aj [] [(4,V0),(5,cS)]) .ret) .skip)))) Bz))
def O2:ai:=af (aj [tp,CM] [(2,L0),(3,L1),(4,V0),(5,V0)]) (af (af (aj [ma,bt 71 [L0]] jc) (af (aj tE kX) (aX E9 (af (aj [] [(4,V0),(5,E6)]) .ret) .skip))) (af (af (aj [pW E3,Cn] [(10,L0),(11,L1),(12,V0)]) (bH 0 (.loop [4,5,7,13,14] JU))) (af (af (aj abf [(15,L1),(16,L2),(17,V0)]) (bH 2 (.loop [4,5,8,18,19] Bf))) (af (aj [ma,i (.mkfn 340 [] [E3]),bt 341 [L0,L1],cE,cH] [(4,L3),(5,L4)]) .ret))))
def ayJ:aD:=⟨20,2,.pure,[.env 4,.env 5],O2⟩
def ol:ai:=af Cf (af rL (af (bH 1 (af G6 (af (aj [CN,aF,cT E1 L1] iN) F7))) vD))
def adQ:ai:=af gI (af (af FR (bH 0 (.loop [2,3,6,7] ol))) zI)
def azy:aD:=⟨8,2,.pure,[.env 2],adQ⟩
def zS:ai:=af KW (af (aX mM .skip kA) (af (bH 3 (af (aj [dH 1 E9 lM,aF] pS) (af (aj [bt 163 [E4],PP] [(13,L1)]) (aX jJ (af (aj [] [(1,v (.int .i64 150))]) .ret) .skip)))) GA))
def FF:ai:=af On (af HT (af (bH 1 (af (aj [dH 1 E5 E7,aF] nK) (af (af (aj [uy E3] [(9,E3),(10,L0),(11,V0)]) (bH 2 (.loop [1,4,12,13] zS))) (aj [uy E3,i (.maxs E2 [L0])] nI)))) HB))
def aiJ:ai:=af gZ (af gI (af (af (aj rN [(5,E0),(6,L0),(7,V0)]) (bH 0 (.loop [1,3,4,8,9,10,11,12,13] FF))) (af (af (aj [Oo E2 Nv] AG) (aX sa (af (aj [] [(1,eV)]) .ret) .skip)) qL)))
def aAA:aD:=⟨15,1,.pure,[.env 1],aiJ⟩
def air:ai:=af jK (af (aj [i (.call 68 [E0] true)] dZ) (af (aj [bt 67 [E2,v (.fn 140 [] [])]] []) zc))
def aAv:aD:=⟨3,1,.fresh 1,[.env 1],air⟩
def ahE:ai:=af lF (af (aj [bt 144 [E0,E1]] dZ) .ret)
def aA6:aD:=⟨3,2,.pure,[.env 2],ahE⟩
def EU:ai:=af CW (af vF (af (bH 1 (af (aj [dH 1 E8 gY,aF] jI) (af (aj [bt 138 [E5,E1],PP] [(12,L1)]) (aX mM (af (aj [] [(2,cS)]) .ret) .skip)))) vj))
def ajG:ai:=af gI (af (af (aj [kN 1 [E0],bt 79 [L0]] nK) (af (aj [kT E3 V0] iZ) (aX E6 tI .skip))) (af (aj [cI (v (.fn 139 [] []))] kQ) (af (af (aj [jP,Oo L0 ny,aaU,g L1 false (.mov E4),g L1 false (.call 77 [L2,L3] false),Lm] [(7,L5)]) (aX E7 (af (aj [] [(2,cS)]) .ret) .skip)) (af (af Gj (bH 0 (.loop [2,5,11,12] EU))) rV))))
def aAB:aD:=⟨13,2,.pure,[.env 2],ajG⟩
def EJ:ai:=af HR (af Ct (af (bH 1 (af Tj (aj [i (.call 114 [E3] true),kN 1 [L0],ki 1 E2 L1] va))) zA))
def ah4:ai:=af jK (af Rw (af (af Nn (bH 0 (.loop [3,7] EJ))) zc))
def aAS:aD:=⟨8,1,.fresh 1,[.env 1],ah4⟩
def aiD:ai:=af zM (af (aj [jy,bt 61 [E0,L0],jy,bt 61 [E1,L2],bt 140 [L1,L3],bt 140 [E0,E1],kN 1 [L4,L5],bt 141 [L6]] [(3,L7)]) .ret)
def az0:aD:=⟨4,3,.pure,[.env 3],aiD⟩
def jt:ai:=af HR (af Ct (af (bH 1 (af Tj (af (aj [kT E3 E2] lU) Wc))) zA))
def sL:ai:=af gZ (af gI (af (af Nn (bH 0 (.loop [1,3,7,8] jt))) zc))
def ax2:aD:=⟨9,1,.pure,[.env 1],sL⟩
def FH:ai:=af On (af HT (af (bH 1 (af (aj [dH 1 E5 E7,aF] pS) (aj [IL,fk,kN 4 [L1],ki 4 E3 L2] Dj))) HB))
def ahV:ai:=af iS (af (aj zD gv) (af (af (aj rv [(5,E1),(6,L0),(7,V0)]) (bH 0 (.loop [4,8] FH))) tI))
def aAl:aD:=⟨9,2,.pure,[.env 2],ahV⟩
def aiy:ai:=af VR (af (aj [jy,bt 61 [E0,L0],jy,bt 61 [E1,L2],bt 116 [L1,L3]] [(3,L4)]) .ret)
def aAZ:aD:=⟨4,3,.pure,[.env 3],aiy⟩
def ail:ai:=af (aj [tp,CM] [(2,L0),(3,L1),(4,v .nilf)]) (af (aj [i (.mkfn 145 [] [E2,E3])] kQ) .ret)
def aBd:aD:=⟨5,2,.keep,[.env 4],ail⟩
def ag8:ai:=af jK (af (af (aj [i (.nils false E0)] dZ) (aX E2 (af jK .ret) .skip)) (af (aj [cI (v .yz),ki 1 L0 E0] [(1,L1)]) .ret))
def aAu:aD:=⟨3,1,.fresh 1,[.env 1],ag8⟩
def UZ:ai:=af (aj [oF 8 E0] Db) (af (af HF (bH 0 (af N0 (aX E4 (af (aj [vI,fk,bt 206 [L1],yy,gJ,Mj,ko] Jo) .ret) (af (aj [cT E3 cS] iO) (aX E5 (af (aj [vI,fk,jL,Br,ES,sX,g L3 true (.bin .geq L5 V0),DX,g L7 true (.fld 3 E1),FG,g L7 true (.bin .lss L9 ny),dy L7 iQ Vf] [(2,jR)]) .ret) .skip)))))) (af (aj [vI,fk,jL,Br,ES,sX,g L3 true (.bin .eql L5 V0),DX] [(2,L7)]) .ret))
def ay4:aD:=⟨6,1,.pure,[.env 2],UZ⟩
def ov:ai:=af Cf (af rL (af (bH 1 (af G6 (af (aj [Lc,fk,i (.callv E1 [L1])] iN) F7))) vD))
def ab5:ai:=af gI (af (af FR (bH 0 (.loop [2,3,6,7] ov))) zI)
def azu:aD:=⟨8,2,.pure,[.env 2],ab5⟩
def aio:ai:=af Fm (af (aj [jy,fh,b8,W8,lg,lr,Lp] [(6,L5)]) .ret)
def az6:aD:=⟨7,3,.pure,[.cell true 4 5,.env 6],aio⟩
def xR:ai:=af Fm (af (af (aj [b8,fh,Gg,bt 387 [L2]] BZ) (af (aj Cu kX) (aX E9 (af (aj tT [(6,E7)]) .ret) .skip))) (af (aj Mr [(8,L6)]) (af (bH 0 (af (aj [dp,aF,LB,Ns,li,g L2 false (.bin .eql L4 cV),fW,g L6 false (.mov E8),g L6 false (.una .not L7),U8,g L9 true (.fld 0 E3),Mt,g L9 true (.fld 0 E4),g L9 true (ld oL),g L9 true (.bin .neq jR jE),g L6 false (.pick L9 pV Vf),dy L6 Vt uN] [(10,xN)]) (aX gY (af (aj tT [(6,cS)]) .ret) (af (aj [] [(11,E8)]) WC)))) (af (aj [b8,fh,bt 386 [L0,L1],i (.callv E2 [L2]),bt 321 [L3],Lp] mc) .ret))))
def ayb:aD:=⟨12,3,.pure,[.cell true 4 5,.env 6],xR⟩
def ajF:ai:=af fd (af (aj [oE] nT) .ret)
def aBq:aD:=⟨2,1,.pure,[.env 1],ajF⟩
def ahR:ai:=af (aj KV [(3,L0),(4,L2),(5,V0)]) (af (aj [jy,b8,i (.callv L0 [L1]),cE,cH,rB] nu) .ret)
def aA7:aD:=⟨6,3,.pure,[.cell true 4 4,.env 5],ahR⟩
def xA:ai:=af CW (af vF (af (bH 1 (af (aj Gy jS) (af (af (aj [G1,aF,Oo L1 V1] F2) (aX mM (af (aj IP [(3,cS)]) .ret) .skip)) (aj [ry,bt 388 [L0],wH,ki 1 E5 L2] zp)))) vj))
def D9:ai:=af Rp (af (af (aj [bt 387 [E1]] kQ) (af (aj [kT E4 V0] fY) (aX E7 KT .skip))) (af Ti (af (af (aj rv [(8,E1),(9,L0),(10,V0)]) (bH 0 (.loop [3,6,11,12] xA))) (af (aj [i (.callv E0 [E5]),BJ 3 4 (v (.cptr false (.agg [.int .i64 1,n0,.int .u64 0,.str [],n0,n0,.int .u64 0,.str [],.int .i64 1,.int .i64 1,.int .u64 0,.str []]) 0)) L0,jQ 4 L1,dl 4 E2 L2] tW) .ret))))
def ayg:aD:=⟨13,2,.pure,[.cell true 4 2,.env 3],D9⟩
def ajv:ai:=af gZ (af (aj [Oi,aF,IT cS L1] [(1,L2)]) .ret)
def aA9:aD:=⟨2,1,.pure,[.env 1],ajv⟩
def ahb:ai:=af (aj KV [(3,L0),(4,L2),(5,V0)]) (af (aj [dp,aF,iX,jy,i (.eqb false L2 L3),bt 321 [L4],dl 4 E4 L5] lY) .ret)
def aBm:aD:=⟨6,3,.pure,[.cell true 4 4,.env 5],ahb⟩
def ahk:ai:=af Ni (af (aj [VE,bV,LW] nI) (af (af (aj [] [(3,E0)]) (aX E3 (aj [g8,dl 1 L0 V1] []) .skip)) (af (aj [dB,zL] []) .ret)))
def aAD:aD:=⟨4,1,.pure,[.cell true 4 1],ahk⟩
def Z6:ai:=af Fm (af (af (aj [b8,fh,Gg,bt 210 [cS,L2]] BZ) (af (aj Cu mb) (aX gY (af (aj tT [(6,E7)]) .ret) .skip))) (af (af (aj Mr [(11,L6)]) WC) (af (aj [gr,aF,kf,cK,i (.callv E2 [L1,L3]),vR,uS] [(8,L5),(9,L6)]) (af (af (aj [i (.una .not E9)] yf) (aX mM My .skip)) (af (aj [bt 149 [E8],nU] mc) .ret)))))
def ayQ:aD:=⟨13,3,.pure,[.cell true 4 5,.env 6],Z6⟩
def aeL:ai:=af xq (af (aj [jN E0 E1] kQ) (af (aj [i (.bin .xor E0 E4),i (.bin .xor E1 E4),i (.bin .and L0 L1),Rc L2 V0] [(2,E4),(3,L3)]) .ret))
def axM:aD:=⟨5,2,.pure,[.env 2,.env 3],aeL⟩
def afF:ai:=af xq (af (aj [IT E0 E1] kQ) (af (aj [i (.bin .xor E0 E1),i (.bin .xor E0 E4),i (.bin .and L0 L1),Rc L2 V0] [(2,E4),(3,L3)]) .ret))
def ay2:aD:=⟨5,2,.pure,[.env 2,.env 3],afF⟩
def afU:ai:=af xq (af (aj [bt 390 [E0],bt 390 [E1],bt 257 [L0,L1],cE,cH] [(4,L3),(5,L4)]) (af (aj [oE,HQ,i (.eqb true L0 L1),bt 389 [E5,L2],lg,lr] [(6,L4),(7,L5)]) (af (aj [g E7 true (.mov E4),g E7 true (.bin .eql L0 ja),dy E7 L1 Vf] [(2,E6),(3,L2)]) .ret)))
def axT:aD:=⟨8,2,.pure,[.env 2,.env 3],afU⟩
def acm:ai:=af (aj [] [(2,ja),(3,ja)]) (af (aj [i (.bin .and E0 N6)] kQ) (af (aj [i (.bin .shr E0 mD)] iO) (af (aj [i (.bin .and E1 N6)] iZ) (af (aj [i (.bin .shr E1 mD)] fY) (af (aj [gj E4 E6] lU) (af (aj [gj E5 E6,UQ,jN L0 L1] mf) (af (aj [i (.bin .and E9 N6)] mb) (af (aj [M7] pC) (af (aj [gj E4 E7,jN gY L0] G8) (af (aj [gj E5 E7,jN L0 lM,i (.bin .shr gY mD),jN L1 L2] rG) (af (aj [gj E0 E1] gv) .ret)))))))))))
def azG:aD:=⟨12,2,.pure,[.env 2,.env 3],acm⟩
def So:ai:=af (aj [] [(1,ja)]) (af (af (aj [oE] dZ) (aX E2 (af (aj [Ay,i (.una .neg L0)] [(1,L1)]) .ret) .skip)) (af (aj [Ay] nT) .ret))
def ayl:aD:=⟨3,1,.pure,[.env 1],So⟩
def adO:ai:=af xq (af (af (aj [] [(4,E1)]) (aX E4 (af (aj [i (.una .neg E0),i (.conv .i64 L0),dG E0 (v (.int .u64 9223372036854775808))] [(2,L1),(3,L2)]) .ret) .skip)) (af (aj [i (.conv .i64 E0),dG E0 (v (.int .u64 9223372036854775807))] [(2,L0),(3,L1)]) .ret))
def ayG:aD:=⟨5,2,.pure,[.env 2,.env 3],adO⟩
def aaD:ai:=af xq (af (af (aj [cT E1 V0] kQ) (aX E4 (af xq .ret) .skip)) (af (aj [bt 390 [E0],bt 390 [E1],i (.bin .quo L0 L1),oE,HQ,i (.eqb true L3 L4),bt 389 [L2,L5],zQ 0 L6,zQ 1 L6] [(2,L7),(3,L8)]) .ret))
def axQ:aD:=⟨5,2,.pure,[.env 2,.env 3],aaD⟩
def ahL:ai:=af fd (af (aj [cT E0 V0] nT) .ret)
def aBc:aD:=⟨2,1,.pure,[.env 1],ahL⟩
def Zw:ai:=af Fm (af (aj [jy,b8,fh,W8,lg,lr,bV,Tg] [(7,L6),(8,L5)]) (af (af (aj [kT E8 V0] kX) (aX E9 LP .skip)) (af (aj [uf,bt 285 [L0],iY,iU,dl 4 E5 L2] yI) .ret)))
def azR:aD:=⟨10,3,.pure,[.cell true 4 5,.env 6],Zw⟩
def ag9:ai:=af gZ (af (aj [Oi,aF,dH 1 E0 V1,cK,i (.mins L1 [L3])] [(1,L4)]) .ret)
def aAz:aD:=⟨2,1,.pure,[.env 1],ag9⟩
def aix:ai:=af gZ (af (aj [Oi,aF,dH 1 E0 V1,cK,i (.maxs L1 [L3])] [(1,L4)]) .ret)
def aBa:aD:=⟨2,1,.pure,[.env 1],aix⟩
def oz:ai:=af Cf (af rL (af (bH 1 (af G6 (af (aj [Lc,fk,i (.callv E1 [L1])] iN) F7))) vD))
def act:ai:=af gI (af (af FR (bH 0 (.loop [2,3,6,7] oz))) zI)
def azM:aD:=⟨8,2,.pure,[.env 2],act⟩
def V4:ai:=af gI (af (aj [bt 316 [E0]] gv) (af (aj [bt 316 [E1]] kQ) EW))
def aza:aD:=⟨10,2,.pure,[.env 2],V4⟩
def U1:ai:=af gI (af (aj [bt 317 [E0]] gv) (af (aj [bt 317 [E1]] kQ) EW))
def ayV:aD:=⟨10,2,.pure,[.env 2],U1⟩
def WZ:ai:=af gI (af (aj [bt 318 [E0]] gv) (af (aj [bt 318 [E1]] kQ) EW))
def ayU:aD:=⟨10,2,.pure,[.env 2],WZ⟩
def Wi:ai:=af gI (af (aj [bt 319 [E0]] gv) (af (aj [bt 319 [E1]] kQ) EW))
def ay1:aD:=⟨10,2,.pure,[.env 2],Wi⟩
def vP:ai:=af (aj [oF 2 E0] [(2,L0),(3,V0),(4,Vf)]) (af (af (aj Lk iN) (aX E7 (af (aj [g8,wb,cr,uy L2,cT L3 V0] [(3,cS),(4,L4)]) .ret) .skip)) (af (aj [g8,wi,bt 361 [L1,E1],cE,cH] [(5,L3),(6,L4)]) (af (af (aj [dV,aF,gU L1 V1,WR,li,g L2 false (.bin .gtr L4 jA),fW,Vm,g L6 false (.bin .neq L7 V0),dy L6 Vt L8] [(8,L9)]) (aX E8 (af (aj [] [(3,V0),(4,Vf)]) .ret) .skip)) (af (af (aj [dV,aF,GE,Sn,g L2 true (.bin .neq L3 cS),Mm,g L5 true (.mov E5),g L5 true (.bin .neq L6 V0),dy L5 L7 Vf] [(9,L8)]) (aX E9 (af (aj [] [(3,V0),(4,Vf)]) .ret) .skip)) (af (af (aj [dV,aF,Rc L1 cV] vt) (aX gY (af (aj [] [(3,E5),(4,Vt)]) .ret) .skip)) (af (aj [] [(3,cS),(4,Vt)]) .ret))))))
def ax5:aD:=⟨11,2,.pure,[.env 3,.env 4],vP⟩
def kZ:ai:=af (aj [gU cW dh] CE) (af (aX dn .skip QP) (af (bH 5 (af (aj [dH 8 dQ cW,tZ,rA,wy] mm) (bH 6 (af (aj [zP,aF,B3] [(30,L2)]) (aX kH (aj [dN 4 E8,wb,cr,kN 1 [L2],ki 1 E7 L3] Da) (af (aj [zP,aF,C2] [(31,L2)]) (aX mY (aj [dN 3 E8,aF,dH 1 E1 L1,cK,Nr,ki 1 E7 L4] [(7,L5)]) (af (aj [He,aF,MK,cK] [(9,L3),(10,V0)]) (af (af (aj acV [(28,L2)]) (aX jB (aj [Ly,aF,MK,cK] [(10,L3)]) .skip)) (af (aj [zP,aF,bt 391 [L1,E9,gY],cE,cH] [(11,L3),(12,L4)]) (af (af (aj [i (.una .not mM)] [(29,L0)]) (aX jT (af (aj [] [(3,V0),(4,LM)]) .ret) .skip)) (aj [Mz,ki 1 E7 L0] rP)))))))))))) (aj [jN cW V1] [(26,L0)])))
def qJ:ai:=af RR (af SU (af (bH 3 (af (aj [dH 8 sE Ja,tZ,rA,wy] jS) (af (aj [G1,aF,C2,g L2 true (.fld 3 E6),gJ,Sf,S0,adz,dy L2 L7 Vf] [(23,L8)]) (aX XM (af (aj [] [(3,V0),(4,cS)]) .ret) .skip)))) Tp))
def rc:ai:=af Vu (af (aX uO .skip nr) (af (bH 1 (af (aj [dH 1 sa su,aF] jI) (af (aj [gU E5 V0,NH,NV,mn] [(18,L3)]) (aX By (af (aj [] [(3,V0),(4,cS)]) .ret) .skip)))) zQx))
def JW:ai:=af (aj qE [(2,L0),(3,V0),(4,V0)]) (af (af (aj adb [(13,L2)]) (aX jJ (af (aj [] [(3,V0),(4,LG)]) .ret) .skip)) (af (af (aj rv [(14,E1),(15,L0),(16,V0)]) (bH 0 (.loop [3,4,5,17,18] rc))) (af (af (aj Dn [(19,L1),(20,L2),(21,V0)]) (bH 2 (.loop [3,4,6,22,23] qJ))) (af (aj rM fY) (af (af (aj Dn [(24,L1),(25,L2),(26,V0)]) (bH 4 (.loop [3,4,8,9,10,11,12,27,28,29,30,31] kZ))) (af (aj [uy E7,FZ,MK,cK] [(3,L3),(4,V0)]) .ret))))))
def ayz:aD:=⟨32,2,.pure,[.env 3,.env 4],JW⟩
def Po:ai:=af gZ (af (af (aj [cT E0 eV,ll,g L0 false (.bin .geq L1 ur),NF,NL,g L3 true (.bin .leq L4 qQ),WF,dy L0 Vt L6] [(2,L7)]) U0) (af (aj [bt 392 [E0]] nT) .ret))
def ayH:aD:=⟨3,1,.pure,[.env 1],Po⟩
def Xq:ai:=af (aj [oF 8 E0] Db) (af (af HF (bH 0 (af N0 (aX E4 (af (aj [vI,fk,bt 221 [L1],yy,gJ,Mj,ko] Jo) .ret) (af (aj [cT E3 cS] iO) (aX E5 (af (aj [vI,fk,jL,Br,ES,sX,g L3 true (.bin .geq L5 V0),DX,g L7 true (.fld 3 E1),FG,g L7 true (.bin .lss L9 ny),dy L7 iQ Vf] [(2,jR)]) .ret) .skip)))))) (af (aj [vI,fk,jL,Br,ES,sX,g L3 true (.bin .eql L5 V0),DX] [(2,L7)]) .ret))
def ayS:aD:=⟨6,1,.pure,[.env 2],Xq⟩
def VC:ai:=af (aj [uo,Fa] GD) (af (aj [EH,aF,kD,g L2 true (.load true 9 E1),g L2 true (.call 309 [L3] false),g L2 true (.una .not L4),ko,EH,Uc] []) (af (aj [jQ 9 E1,MU] []) .ret))
def azi:aD:=⟨3,1,.pure,[.cell true 9 2],VC⟩
def uq:ai:=af (aj [gU mM cV] Og) (af T4 (af (bH 3 (af (aj [] [(8,mM)]) (af (aj [jN E6 E8,gy,BJ 8 1 L1 L0,cK,dV,BJ 8 1 L4 E6,nJ,dp,BJ 8 1 L7 E8,pW L8,gj L6 L9,jN L3 iQ,jN jR E7] [(9,oL)]) (aj [jN E6 E8,Xp,M7,gy,BJ 8 1 L3 L0,dl 1 L4 L1] iN)))) Bz))
def tC:ai:=af (aj [gU gY cV] pC) (af vF (af (bH 1 (af (aj [] [(6,gY)]) (af (aj [] [(7,ja)]) (af (af (aj [] [(12,V0)]) (bH 2 (.loop [8,9,13] uq))) (aj [jN E6 cV,gy,BJ 8 1 L1 L0,dl 1 L2 E7] []))))) vj))
def ahH:ai:=af MT (af (aj AX iO) (af (af (aj [] [(10,V0)]) (bH 0 (.loop [6,7,8,9,11,12,13] tC))) (af (aj [CP,aF,tH,cK,i (.eqb true L1 L3),g L4 true (.load true 9 E5),g L4 true (.call 309 [L5] false),g L4 true (.una .not L6),LC,F6,dl 1 L9 L8] []) (af (aj [jQ 9 E5,dl 9 E4 L0] []) .ret))))
def aAr:aD:=⟨14,2,.pure,[.cell true 9 4],ahH⟩
def ai7:ai:=af MT (af (aj [dV,BJ 8 1 L0 V1,cr,UV,dV,BJ 8 1 L4 V0,nJ,jN L3 L6,dp,BJ 8 1 L8 V1,pW L9,Vg,dp,BJ 8 1 oL V0,pW jE,jN jR pV] [(5,L7),(6,uN)]) (af (aj [i (.bin .quo E5 E6)] fY) (af (aj [i (.bin .rem E7 xJ),i (.bin .shr E7 mD),yn [.int .u64 0,.int .u64 0,.int .u64 0,.int .u64 0,.int .u64 0,.int .u64 0,.int .u64 0,.int .u64 0] [(0,1,L0),(1,1,L1)],CP,fO,tH,nJ,i (.eqb true L4 L6),g L7 true (.mov E7),g L7 true (.bin .neq L8 ja),dy L7 L9 Vf,yn [.int .u64 0,.int .u64 0,.int .u64 0,.int .u64 0,.int .u64 0,.int .u64 0,.int .u64 0,.int .u64 0,nf] [(0,8,L2),(8,1,iQ)],dl 9 E4 jR] []) .ret)))
def aA2:aD:=⟨8,2,.pure,[.cell true 9 4],ai7⟩
def KB:ai:=af wr (af (bH 0 (af (aj LU [(5,L6)]) (aX E5 (af (aj [] [(4,tX)]) .ret) (af (aj [dV,aF,Oo L1 V1,N4,li,g L2 false (.bin .gtr L4 V1),fW] [(6,L6)]) Xd)))) xL)
def ayF:aD:=⟨7,2,.pure,[.env 4],KB⟩
def PK:ai:=af jh (af (aj [dB,b8,bt 394 [L0,L1]] jS) (af (af (aj [kT E6 V0,C3,zO,Oj,Jw,g L4 false (.fld 0 E3),g L4 false (ld L5),g L4 false (.bin .eql L6 V0),dy L4 Vt L7] [(7,L8)]) (aX E7 BK .skip)) (af (aj [dB,b8,bt 393 [L0,L1],cT L2 V0,bt 4 [L3],BR] lY) .ret)))
def ayK:aD:=⟨8,2,.pure,[.cell true 4 4,.env 5],PK⟩
def KH:ai:=af jh (af (aj [dB,b8,bt 394 [L0,L1]] jS) (af (af (aj [kT E6 V0,C3,zO,Oj,Jw,g L4 false (.fld 0 E3),g L4 false (ld L5),g L4 false (.bin .eql L6 V0),dy L4 Vt L7] [(7,L8)]) (aX E7 BK .skip)) (af (aj [dB,b8,bt 393 [L0,L1],gU L2 V0,bt 4 [L3],BR] lY) .ret)))
def ays:aD:=⟨8,2,.pure,[.cell true 4 4,.env 5],KH⟩
def oH:ai:=af Cf (af rL (af (bH 1 (af G6 (af (aj [CN,aF,i (.callv E1 [L1])] iN) F7))) vD))
def acv:ai:=af gI (af (af FR (bH 0 (.loop [2,3,6,7] oH))) zI)
def azU:aD:=⟨8,2,.pure,[.env 2],acv⟩
def Ae:ai:=af wo (af zo (af (bH 1 (af (aj [dH 8 mM sa,tZ,rA,wy] mf) (af (fr [jQ 8 E9,B9,cr,bt 247 [L2],i (.callv E7 [L3]),VL,GY,FW] [(10,L6),(11,L7)] [(0,5)]) (af (af (aj [kT lM V0] pq) (aX su (af (aj [] [(8,lM)]) nr) .skip)) (aj [pW E5,T9,ki 1 L0 L1,dl 1 E5 L2] []))))) wc))
def Zz:ai:=af (aj qE [(2,L0),(3,V0),(4,V0)]) (.scope (af (aj [oF 1 Vn] iO) (af Cc (af (aj [i (.mkfn 374 [] [E5])] fY) (af Nz (af (af (.lift 5 0 1 (aj Dn [(12,L1),(13,L2),(14,V0)])) (bH 0 (.loop [9,10,11,15,16] Ae))) (af (af (aj [kT E8 V0] Ad) (aX uO (af (aj [] [(3,E6),(4,E8)]) .ret) .skip)) (af (aj [pW E5,dH 1 L0 V0,cr] [(3,L2),(4,V0)]) .ret))))))))
def azr:aD:=⟨18,2,.pure,[.env 3,.env 4],Zz⟩
def FD:ai:=af zf (af Rv (af (bH 1 (af LK (bH 2 (af (aj [cT E7 V0,Ms,PA,g L0 false (.bin .eql L1 L2),Jw] [(14,L4)]) (aX sa .skip (af (aj [cT E6 V0] pf) (aX yt Sz (aj [] [(6,gi)])))))))) Bz))
def aia:ai:=af (aj [oF 8 E0] [(3,L0),(4,V0),(5,V0)]) (af Cc (af (af (aj rv [(10,E1),(11,L0),(12,V0)]) (bH 0 (.loop [7,13,14,15] FD))) (af (aj [] [(8,E6)]) (af (aj [] [(9,V1)]) (af (bH 3 (af (aj [dp,aF,B3] [(16,L2)]) (aX su (af (aj [dN 4 E3,wb,cr] [(4,L2),(5,V0)]) .ret) (af (aj [dp,aF,C2] Gb) (aX uO (af (aj [jy,om,cr,dH 1 L0 L2,fO] [(4,L4),(5,V0)]) .ret) (af (aj [dp,aF,bt 375 [L1]] [(18,L2)]) (aX By (aj [] [(8,cS),(9,cS)]) (af (aj [dp,aF,cT L1 jA,N4,li,g L2 false (.bin .eql L4 EF),fW,g L6 false (.fld 0 E3),Cv,g L6 false (.bin .eql L8 Bg),dy L6 Vt L9] [(19,iQ)]) (aX sE (aj [] [(8,V1)]) .skip))))))))) (af (af (aj [cT E6 gi,PA,aah,NF,g L3 true (.mov E6),g L3 true (.mov E8),g L3 true (.bin .neq L4 L5),g L0 false (.pick L3 L6 Vf),MR] [(20,L8)]) (aX Jb (af (aj [] [(4,V0),(5,LM)]) .ret) .skip)) (af (aj [] [(4,E9),(5,V0)]) .ret)))))))
def aA1:aD:=⟨21,3,.pure,[.env 4,.env 5],aia⟩
def ahQ:ai:=af fd (af (aj WT [(1,L7)]) .ret)
def aAo:aD:=⟨2,1,.pure,[.env 1],ahQ⟩
def Ab:ai:=af HR (af Ct (af (bH 1 (af (aj [] [(3,E6)]) (af (aj [Lc,fk,dH 4 E1 E3,yJ,i (.eqa true [0,0,0,2] L1 L3)] [(8,L4)]) (aX E8 rZ .skip)))) zA))
def V2:ai:=af lF (af (af (aj Uy mi) (aX E4 rZ .skip)) (af (af (aj rN [(5,L0),(6,V0)]) (bH 0 (.loop [2,3,7,8] Ab))) Ub))
def ayX:aD:=⟨9,2,.pure,[.env 2],V2⟩
def ahj:ai:=af fd (af (aj [oE] nT) .ret)
def azY:aD:=⟨2,1,.pure,[.env 1],ahj⟩
def abc:ai:=af (aj qE Kk) (af (aj [i (.mkfn 230 [] [E2])] kQ) (af (aj [jP,dG L0 ny,g L1 true (.mov E1),g L1 true (.mov E4),g L1 true (.call 77 [L2,L3] false),LD,IE] [(3,L6)]) .ret))
def azP:aD:=⟨5,2,.pure,[.env 3],abc⟩
def xm:ai:=af (af (aj [kj,Cn,gU E3 L1,g L2 true (ld E2),RO,g L2 true (.idxs 1 L4 V0),g L2 true (ld L5),RO,g L2 true (.mov E3),g L2 true (.idxs 1 L7 L8),g L2 true (ld L9),g L2 true (.callv L3 [L6,iQ]),Nx] [(5,oL)]) (aX E5 .skip kA)) (bH 3 LZ)
def A6:ai:=af (af (aj [kj,Cn,Oo L1 V0] mi) (aX E4 .skip nr)) (bH 1 (af (aj [] [(3,V1)]) (af (bH 2 (.loop [5] xm)) (af (af (aj [kj,i (.slice 1 L0 none (some E3)),i (.callv E0 [L1]),i (.una .not L2)] yI) (aX E6 .ret .skip)) (aj [kj,i (.slice 1 L0 (some E3) none),dl 1 E1 L1] [])))))
def aji:ai:=bH 0 (.loop [3,4,5,6] A6)
def aBj:aD:=⟨7,3,.keep,[],aji⟩
def K4:ai:=af HR (af Ct (af (bH 1 (af (aj [dH 4 E4 E6,fk,bV,wD] va) (af (aj [dB,AH] nK) (af (aj [kT E3 V0] lU) Wc)))) zA))
def acF:ai:=af gZ (af (af Nn (bH 0 (.loop [1,2,3,7,8] K4))) qL)
def azN:aD:=⟨9,1,.pure,[.env 1],acF⟩
def ahX:ai:=af wr (af (af (aj [dB,bt 206 [L0],kD,zE,g L2 false (.call 206 [L3] false),wd,fW] [(5,L6)]) (aX E5 xL .skip)) (af (aj [dV,aF,dp,cK,bt 242 [L1,L3],g8,nJ,gr,pW L7,bt 243 [L6,L8],pd,pW iQ,om,pW oL,bt 398 [jR,jE],kN 1 [L4,L9,pV],bt 141 [uN]] [(4,xN)]) .ret))
def aAi:aD:=⟨6,2,.pure,[.env 4],ahX⟩
def ab0:ai:=af (aj [rU] CZ) (af (af (aj N9 [(3,L2)]) (aX E3 K5 .skip)) (af (aj [tD,aF,gj cS L1] va) .ret))
def azx:aD:=⟨4,1,.pure,[.env 2],ab0⟩
def ahD:ai:=af fd Fb
def aAg:aD:=⟨2,1,.pure,[.env 1],ahD⟩
def ahp:ai:=af fd Fb
def aAk:aD:=⟨2,1,.pure,[.env 1],ahp⟩
def ajt:ai:=af fd Fb
def aAh:aD:=⟨2,1,.pure,[.env 1],ajt⟩
def ahA:ai:=af fd Fb
def aA8:aD:=⟨2,1,.pure,[.env 1],ahA⟩
def uH:ai:=af (aj [] [(3,V0),(4,Vf)]) (af (bH 0 (af (aj WT [(5,L7)]) (aX E5 (af (aj [bt 399 [E1,cS],K9,g L0 true (.call 399 [L1,cS] false),J4] [(3,cS),(4,L3)]) .ret) (af (aj [cT E0 jA,ll,g L0 false (.bin .geq L1 EF),mn] yI) (aX E6 (af (aj [bt 399 [E1,V1],K9,g L0 true (.call 399 [L1,V1] false),J4] [(3,V1),(4,L3)]) .ret) (af (aj [cT E0 ua,ll,g L0 false (.bin .eql L1 vG),mn] BZ) (aX E7 (af (aj [] [(3,V1),(4,Vt)]) .ret) .skip))))))) (af (aj [cT E1 E2,yY,Vr,mn,g L3 false (.mov E2),g L3 false (.bin .eql L4 V0),dy L3 Vt L5] [(3,V1),(4,L6)]) .ret))
def ax4:aD:=⟨8,3,.pure,[.env 3,.env 4],uH⟩
def JZ:ai:=af gZ (af (bH 0 (af (aj [gU E0 V1,ll,g L0 false (.bin .gtr L1 Bg),mn] rG) (aX E2 zW (af (aj [dG E0 eV] gv) (aX E3 qL (af (aj [dG E0 qQ] kQ) WX)))))) Ev)
def ayx:aD:=⟨5,1,.pure,[.env 1],JZ⟩
def AY:ai:=af wr (af (bH 0 (af (aj LU [(5,L6)]) (aX E5 (af (aj [] [(4,tX)]) .ret) (af (aj [dB,bt 221 [L0],kD,zE,VF,wd,fW,WE,Cv,g L6 false (.bin .neq L8 V0),g L6 false (.mov L9),g iQ true (.fld 0 E3),g iQ true (ld jR),g iQ true (.bin .neq oL V0),g L6 false (.pick iQ jE Vf),g L6 false (.mov pV),g uN true (.fld 0 E2),g uN true (ld xN),g uN true (.fld 0 E3),g uN true (ld Ra),g uN true (.bin .neq zR N7),g L6 false (.pick uN XU Vf),dy L6 Vt Dt] [(6,eN)]) Xd)))) xL)
def ayd:aD:=⟨7,2,.pure,[.env 4],AY⟩
def mx:ai:=af (af (aj [pd,aF,eR L1,gU E5 L2,g L3 true (.mov E5),g L3 true (.fld 3 E3),g L3 true (ld L5),g L3 true (.lent L6),g L3 true (.bin .lss L4 L7),dy L3 L8 Vf] [(11,L9)]) vF) (af (bH 1 (af (aj [pd,aF,i (.idxt L1 E5),om,fO,i (.idxt L4 E5),kT L2 L5] [(12,L6)]) (aX mM (af (af (aj [pd,aF,i (.idxt L1 E5),om,fO,i (.idxt L4 E5),gU L2 L5] [(13,L6)]) (aX jJ Ey .skip)) Et) .skip))) vD)
def wA:ai:=af wr (af (af (aj [dB,bt 221 [L0],kD,zE,VF,wd,fW] [(6,L6)]) (aX E6 xL .skip)) (af (af (aj WY Da) (aX E7 (af (af (aj [dV,aF,dp,cK,wR] [(8,L4)]) (aX E8 Ey .skip)) Et) .skip)) (af (af (aj Vz [(9,L4)]) (aX E9 (af (af (aj [g8,aF,gr,cK,wR] [(10,L4)]) (aX gY Ey .skip)) Et) .skip)) (af (af (aj [] lY) (bH 0 (.loop [4,11,12,13] mx))) (af (af (aj [pd,aF,eR L1,om,fO,eR L4,kT L2 L5] [(14,L6)]) (aX sa (af (af (aj [pd,aF,eR L1,om,fO,eR L4,gU L2 L5] [(15,L6)]) (aX yt Ey .skip)) Et) .skip)) xL)))))
def ax6:aD:=⟨16,2,.pure,[.env 4],wA⟩
def ait:ai:=af iS (af (aj [kj,kj,de,Fi,i (.slice 1 L0 (some L3) none),i (.call 95 [L4] true)] [(3,L5)]) (af (aj [kj,kj,de,Fi,i (.slice 1 L0 none (some L3)),dl 1 E1 L4] []) tI))
def aBp:aD:=⟨4,2,.keep,[.env 2],ait⟩
def VQ:ai:=af lF (af (aj [oE,ll,g L0 false (ld E1),TZ,abH,Va] [(2,L5)]) .ret)
def azk:aD:=⟨3,2,.pure,[.env 2],VQ⟩
def ajn:ai:=af gI (af (aj [bt 401 [E0,E1]] dZ) .ret)
def aBf:aD:=⟨3,2,.pure,[.env 2],ajn⟩
def aa9:ai:=af lF (af (aj [cT E0 E1,ll,Vr,mn] rG) .ret)
def azO:aD:=⟨3,2,.pure,[.env 2],aa9⟩
def ajq:ai:=af gI (af (aj [bt 402 [E0,E1]] dZ) .ret)
def aAb:aD:=⟨3,2,.pure,[.env 2],ajq⟩
def tbl:List gG:=[
.none,
.none,
.fn am4,
.fn an5,
.fn aAP,
.fn aBo,
.fn aBu,
.none,
.none,
.none,
.fn azl,
.fn aAf,
.fn ay9,
.fn azW,
.fn azD,
.fn ayC,
.fn azS,
.fn azA,
.fn aAe,
.fn ayc,
.fn az8,
.none,
.none,
.none,
.none,
.none,
.none,
.none,
.none,
.fn aAT,
.none,
.none,
.none,
.none,
.fn azZ,
.fn amA,
.fn amV,
.fn ayy,
.fn azp,
.fn ayR,
.none,
.fn aAL,
.fn azJ,
.none,
.none,
.fn aBg,
.fn azf,
.fn azh,
.fn azo,
.fn ay0,
.fn aAH,
.fn ayt,
.fn az4,
.fn ayr,
.fn ayY,
.fn azB,
.fn azT,
.fn azs,
.fn az2,
.fn ax3,
.fn azb,
.fn aAl,
.nilfn aAu,
.round pc,
.fn aBd,
.fn aAZ,
.fn az0,
.prim 1,
.fn aAS,
.fn aAB,
.fn ax7,
.fn aAp,
.none,
.none,
.none,
.fn azv,
.none,
.fn azX,
.none,
.fn aAA,
.fn aAv,
.none,
.none,
.none,
.none,
.none,
.none,
.none,
.none,
.none,
.none,
.none,
.none,
.none,
.none,
.nilfn aAO,
.fn axV,
.fn aAq,
.fn apA,
.none,
.none,
.none,
.none,
.none,
.none,
.none,
.none,
.none,
.none,
.none,
.none,
.fn az5,
.fn ayP,
.none,
.nilfn azV,
.none,
.fn aA6,
.fn azm,
.fn azK,
.fn azE,
.fn azg,
.fn ayn,
.fn axW,
.fn axX,
.fn ayA,
.fn aBl,
.fn ay8,
.fn aye,
.fn ayL,
.fn aAn,
.fn aAJ,
.fn ayp,
.fn ayO,
.fn ayk,
.fn ayv,
.fn ayf,
.fn ayB,
.fn aAI,
.fn azP,
.fn azY,
.fn aAW,
.fn ax2,
.fn ayW,
.fn aAj,
.fn ayX,
.fn aBj,
.fn azd,
.fn aAQ,
.fn aBk,
.fn aAC,
.fn axK,
.fn aAd,
.fn aAV,
.fn aA4,
.fn azQ,
.none,
.none,
.none,
.none,
.none,
.fn azU,
.fn aAN,
.none,
.fn azH,
.none,
.none,
.none,
.none,
.none,
.none,
.none,
.none,
.fn ayT,
.none,
.none,
.none,
.none,
.fn aBs,
.fn aA5,
.none,
.none,
.fn aym,
.fn ay6,
.fn ayq,
.none,
.none,
.none,
.none,
.fn az9,
.fn aAx,
.fn aBh,
.fn aAG,
.none,
.none,
.none,
.none,
.none,
.fn aAm,
.none,
.round ju,
.fn aAc,
.fn ayu,
.fn aAK,
.fn ayw,
.fn azC,
.fn aBr,
.fn aAX,
.fn aAF,
.fn aAt,
.fn ayZ,
.fn azw,
.fn ay7,
.fn axR,
.fn aAE,
.fn aBn,
.fn axN,
.fn ayN,
.fn axS,
.fn ayi,
.fn azF,
.fn ax1,
.fn az1,
.fn ayM,
.fn ay3,
.fn azt,
.fn ayj,
.fn azL,
.fn azq,
.fn azc,
.fn ayo,
.fn azk,
.none,
.none,
.none,
.none,
.none,
.none,
.none,
.none,
.none,
.none,
.none,
.fn aza,
.fn ayV,
.fn ayU,
.fn ay1,
.fn ay4,
.fn ayh,
.fn azu,
.none,
.none,
.none,
.none,
.fn azj,
.fn aAR,
.fn ayE,
.fn ax8,
.fn azG,
.none,
.fn aA3,
.fn aBe,
.none,
.none,
.none,
.none,
.none,
.none,
.none,
.none,
.none,
.none,
.none,
.fn aBt,
.fn aAM,
.none,
.none,
.fn ayJ,
.none,
.fn azy,
.none,
.fn azz,
.fn aze,
.prim 2,
.fn apt,
.fn aAy,
.fn aAa,
.fn an9,
.fn axL,
.fn aA0,
.fn axP,
.fn axO,
.fn aAw,
.fn aqr,
.fn aAU,
.fn az7,
.fn aAY,
.fn apd,
.fn aBb,
.prim 0,
.fn ax9,
.fn ax0,
.fn axZ,
.fn axY,
.fn aBi,
.fn axU,
.fn ayD,
.fn azn,
.fn ay5,
.fn ayI,
.fn aya,
.fn azI,
.none,
.none,
.none,
.none,
.none,
.fn aAg,
.fn aAk,
.fn aAh,
.fn aA8,
.fn azM,
.fn aAD,
.none,
.none,
.none,
.none,
.none,
.none,
.none,
.none,
.none,
.none,
.none,
.none,
.none,
.none,
.none,
.none,
.none,
.none,
.fn aA1,
.fn azr,
.fn az6,
.fn ayb,
.fn aBq,
.fn aA7,
.fn ayg,
.fn aA9,
.fn aBm,
.fn ayQ,
.fn axM,
.fn ay2,
.fn axT,
.fn axQ,
.fn aBc,
.fn azR,
.fn aAz,
.fn aBa,
.nilfn az3,
.none,
.fn ax5,
.fn ayz,
.fn ayS,
.fn ayH,
.fn azi,
.fn aAr,
.fn aA2,
.fn ayF,
.fn ays,
.fn ayK,
.none,
.none,
.none,
.none,
.fn aBp,
.fn aAo,
.none,
.none,
.none,
.none,
.none,
.none,
.none,
.none,
.none,
.none,
.fn aAi,
.fn azN,
.fn azx,
.fn ayG,
.fn ayl,
.fn ax4,
.fn ayx,
.fn ax6,
.fn ayd,
.none,
.none,
.none,
.fn aBf,
.fn azO,
.none,
.fn aAb,
.prim 3,
.none,
.none,
.fn aAs]
end Go.AM.P
namespace Go.AM
def code:Code:=⟨fun n=>P.tbl.getD n .none,prims⟩
end Go.AM
namespace Go.AM.I
abbrev qai:Nat:=4
abbrev qbv:Nat:=5
abbrev qag:Nat:=6
abbrev qy:Nat:=10
abbrev qae:Nat:=11
abbrev qbn:Nat:=12
abbrev qcv:Nat:=13
abbrev qcy:Nat:=14
abbrev qcu:Nat:=15
abbrev qdr:Nat:=16
abbrev qds:Nat:=17
abbrev qac:Nat:=18
abbrev qdk:Nat:=19
abbrev qfz:Nat:=20
abbrev qgc:Nat:=29
abbrev qal:Nat:=34
abbrev qfl:Nat:=37
abbrev qaa:Nat:=38
abbrev qz:Nat:=39
abbrev qdo:Nat:=41
abbrev qgy:Nat:=42
abbrev qaf:Nat:=45
abbrev qab:Nat:=46
abbrev qu:Nat:=47
abbrev qw:Nat:=48
abbrev qx:Nat:=49
abbrev qeg:Nat:=50
abbrev qdu:Nat:=51
abbrev qdx:Nat:=52
abbrev qcl:Nat:=53
abbrev qcw:Nat:=54
abbrev qcx:Nat:=55
abbrev qbo:Nat:=56
abbrev qda:Nat:=57
abbrev qbm:Nat:=58
abbrev qcz:Nat:=59
abbrev qbk:Nat:=60
abbrev qgq:Nat:=61
abbrev qgs:Nat:=62
abbrev qgn:Nat:=64
abbrev qgb:Nat:=65
abbrev qga:Nat:=66
abbrev qgf:Nat:=68
abbrev qgd:Nat:=69
abbrev qdl:Nat:=70
abbrev qem:Nat:=71
abbrev qea:Nat:=75
abbrev qhb:Nat:=77
abbrev qgj:Nat:=79
abbrev qgp:Nat:=80
abbrev qgv:Nat:=95
abbrev qfv:Nat:=96
abbrev qfm:Nat:=97
abbrev qdp:Nat:=111
abbrev qhf:Nat:=112
abbrev qgt:Nat:=114
abbrev qgg:Nat:=116
abbrev qv:Nat:=117
abbrev qdv:Nat:=118
abbrev qed:Nat:=119
abbrev qeh:Nat:=120
abbrev qdy:Nat:=121
abbrev qaq:Nat:=122
abbrev qcs:Nat:=123
abbrev qco:Nat:=124
abbrev qcr:Nat:=125
abbrev qcp:Nat:=126
abbrev qcn:Nat:=127
abbrev qcq:Nat:=128
abbrev qbp:Nat:=129
abbrev qbl:Nat:=130
abbrev qbc:Nat:=131
abbrev qbt:Nat:=132
abbrev qck:Nat:=133
abbrev qau:Nat:=134
abbrev qax:Nat:=135
abbrev qbq:Nat:=136
abbrev qbr:Nat:=137
abbrev qgh:Nat:=138
abbrev qge:Nat:=139
abbrev qgk:Nat:=140
abbrev qdf:Nat:=141
abbrev qgx:Nat:=142
abbrev qgr:Nat:=143
abbrev qhe:Nat:=144
abbrev qex:Nat:=146
abbrev qhk:Nat:=147
abbrev qdq:Nat:=148
abbrev qhu:Nat:=149
abbrev qc:Nat:=150
abbrev qhl:Nat:=151
abbrev qha:Nat:=152
abbrev qdm:Nat:=153
abbrev qdn:Nat:=154
abbrev qhi:Nat:=160
abbrev qeb:Nat:=161
abbrev qgl:Nat:=163
abbrev qeo:Nat:=172
abbrev qfq:Nat:=178
abbrev qfp:Nat:=181
abbrev qfs:Nat:=182
abbrev qfo:Nat:=183
abbrev qhc:Nat:=188
abbrev qfn:Nat:=189
abbrev qfw:Nat:=190
abbrev qek:Nat:=191
abbrev qfx:Nat:=197
abbrev qee:Nat:=200
abbrev qm:Nat:=201
abbrev qhz:Nat:=202
abbrev qep:Nat:=203
abbrev qfc:Nat:=204
abbrev qeu:Nat:=205
abbrev qic:Nat:=206
abbrev qen:Nat:=207
abbrev qs:Nat:=208
abbrev qp:Nat:=209
abbrev qn:Nat:=210
abbrev qel:Nat:=211
abbrev qg:Nat:=212
abbrev qdz:Nat:=213
abbrev qfy:Nat:=214
abbrev qf:Nat:=215
abbrev qcm:Nat:=216
abbrev qcf:Nat:=217
abbrev qce:Nat:=218
abbrev qct:Nat:=219
abbrev qca:Nat:=220
abbrev qap:Nat:=221
abbrev qbx:Nat:=222
abbrev qay:Nat:=223
abbrev qaw:Nat:=224
abbrev qaz:Nat:=225
abbrev qbi:Nat:=226
abbrev qbg:Nat:=227
abbrev qbd:Nat:=228
abbrev qbb:Nat:=229
abbrev qgi:Nat:=230
abbrev qdb:Nat:=242
abbrev qdc:Nat:=243
abbrev qde:Nat:=244
abbrev qdd:Nat:=245
abbrev qet:Nat:=246
abbrev qfg:Nat:=247
abbrev qhh:Nat:=248
abbrev qhd:Nat:=253
abbrev qec:Nat:=254
abbrev qhq:Nat:=255
abbrev qid:Nat:=256
abbrev qfk:Nat:=257
abbrev qgz:Nat:=259
abbrev qgm:Nat:=260
abbrev qfr:Nat:=273
abbrev qeq:Nat:=276
abbrev qhj:Nat:=278
abbrev qgw:Nat:=281
abbrev slices_Sort_int_int:Nat:=282
abbrev qj:Nat:=284
abbrev qhx:Nat:=285
abbrev qa:Nat:=287
abbrev qk:Nat:=288
abbrev qh:Nat:=289
abbrev qd:Nat:=290
abbrev qhs:Nat:=291
abbrev qhv:Nat:=293
abbrev qhn:Nat:=294
abbrev qia:Nat:=295
abbrev qfd:Nat:=297
abbrev math_bits_Add64:Nat:=298
abbrev qcg:Nat:=299
abbrev qcj:Nat:=300
abbrev qch:Nat:=301
abbrev qcd:Nat:=302
abbrev qby:Nat:=303
abbrev qat:Nat:=304
abbrev qan:Nat:=305
abbrev qah:Nat:=306
abbrev qao:Nat:=307
abbrev qav:Nat:=308
abbrev qbj:Nat:=309
abbrev qbh:Nat:=310
abbrev qdg:Nat:=316
abbrev qdh:Nat:=317
abbrev qdj:Nat:=318
abbrev qdi:Nat:=319
abbrev qhg:Nat:=320
abbrev qhp:Nat:=321
abbrev qer:Nat:=340
abbrev qfe:Nat:=341
abbrev qfi:Nat:=342
abbrev qie:Nat:=343
abbrev qhw:Nat:=344
abbrev qew:Nat:=345
abbrev qif:Nat:=346
abbrev qhy:Nat:=347
abbrev qfb:Nat:=348
abbrev qo:Nat:=349
abbrev qb:Nat:=350
abbrev ql:Nat:=351
abbrev qi:Nat:=352
abbrev qe:Nat:=353
abbrev qht:Nat:=354
abbrev qez:Nat:=355
abbrev qho:Nat:=356
abbrev qib:Nat:=357
abbrev qgu:Nat:=358
abbrev qci:Nat:=360
abbrev qbu:Nat:=361
abbrev qbz:Nat:=362
abbrev qbw:Nat:=363
abbrev qbf:Nat:=364
abbrev qbe:Nat:=365
abbrev qba:Nat:=366
abbrev qas:Nat:=367
abbrev qam:Nat:=368
abbrev qak:Nat:=369
abbrev qff:Nat:=374
abbrev qes:Nat:=375
abbrev qhr:Nat:=386
abbrev qig:Nat:=387
abbrev qih:Nat:=388
abbrev qq:Nat:=389
abbrev qr:Nat:=390
abbrev qcc:Nat:=391
abbrev qbs:Nat:=392
abbrev qaj:Nat:=393
abbrev qar:Nat:=394
abbrev qhm:Nat:=398
abbrev qcb:Nat:=399
abbrev qfj:Nat:=401
abbrev internal_bytealg_abigen_runtime_cmpstring:Nat:=402
abbrev qt:Nat:=405
end Go.AM.I
