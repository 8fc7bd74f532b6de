/- Part of the proof. -/
import Derived.Test.YtdfklhejofpgbaaGreatDoorAm05
import Derived.KernelRfl
set_option linter.unusedVariables false
set_option linter.unusedSimpArgs false
namespace Go.AM
section
variable {P:Code}
theorem akS(env ls:List ap)(σ:ay)(x:cP):step P env ls σ (.mov x)=(some (x.eval env ls,σ)):=by
 unfold step;simp only[bD];exact bw _
theorem aeV(env ls:List ap)(σ:ay)(c:cP)(a:cP)(b:cP):step P env ls σ (.pick c a b)=((Rc (a.eval env ls) (b.eval env ls) (c.eval env ls)).map (·,σ)):=by
 unfold step;simp only[bD];exact bw _
theorem aiV(env ls:List ap)(σ:ay)(k:Nat)(x:cP):step P env ls σ (.box k x)=(let v:=x.eval env ls;if aC v=k then some (.ptr σ.length 0 0 0,σ++[.arr k 0 [v]]) else none):=by
 unfold step;simp only[bD];exact bw _
theorem Z6(env ls:List ap)(σ:ay)(zero:List ap)(parts:List (Nat×Nat×cP)):step P env ls σ (.build zero parts)=((fill zero (parts.map fun p=>(p.1,p.2.1,p.2.2.eval env ls))).map fun cs=>(.agg cs,σ)):=by
 unfold step;simp only[bD];exact bw _
theorem YZ(env ls:List ap)(σ:ay)(k:Nat):step P env ls σ (.mknil k)=(some (.sl σ.length 0 0 0,σ++[.arr k 0 []])):=by
 unfold step;simp only[bD];exact bw _
theorem akh(env ls:List ap)(σ:ay)(k:Nat)(xs:List cP):step P env ls σ (.mkl k xs)=(let vs:=xs.map (·.eval env ls);if vs.all (fun v=>aC v==k) then some (.lst vs,σ) else none):=by
 unfold step;simp only[bD];exact bw _
theorem afr(env ls:List ap)(σ:ay)(k:Nat)(xs:List cP):step P env ls σ (.mksl k xs)=(let vs:=xs.map (·.eval env ls)
  if vs=[] then some (.aj,σ) else
  if vs.all (fun v=>aC v==k) then some (.sl σ.length 0 0 vs.length,σ++[.arr k 0 vs]) else none):=by
 unfold step;simp only[bD];exact bw _
theorem YT(env ls:List ap)(σ:ay)(k:Nat)(zero:ap)(n:Nat)(parts:List (Nat×cP)):step P env ls σ (.mkslz k zero n parts)=(let vs:=JU (List.replicate n zero) (parts.map fun p=>(p.1,p.2.eval env ls))
  if vs.all (fun v=>aC v==k) then some (.sl σ.length 0 0 n,σ++[.arr k 0 vs]) else none):=by
 unfold step;simp only[bD];exact bw _
theorem aff(env ls:List ap)(σ:ay)(k:Nat)(zero:ap)(n:cP)(c:cP):step P env ls σ (.make k zero n c)=((nP (n.eval env ls)).bind fun m=>(nP (c.eval env ls)).bind fun d=>
   if m=d∧aC zero=k∧m≤most then some (.sl σ.length 0 0 m,σ++[.arr k 0 (List.replicate m zero)]) else none):=by
 unfold step;simp only[bD];exact bw _
theorem aeu(env ls:List ap)(σ:ay)(a:Bool)(s:Nat)(x:cP):step P env ls σ (.load a s x)=((loadAt a s (x.eval env ls) σ).map (·,σ)):=by
 unfold step;simp only[bD];exact bw _
theorem ZT(env ls:List ap)(σ:ay)(s:Nat)(x:cP)(v:cP):step P env ls σ (.store s x v)=((storeAt s (x.eval env ls) (v.eval env ls) σ).map (.any,·)):=by
 unfold step;simp only[bD];exact bw _
theorem ak7(env ls:List ap)(σ:ay)(off:Nat)(x:cP):step P env ls σ (.fld off x)=((Gz σ off (x.eval env ls)).map (·,σ)):=by
 unfold step;simp only[bD];exact bw _
theorem afF(env ls:List ap)(σ:ay)(a:Bool)(s:Nat)(off:Nat)(x:cP):step P env ls σ (.fldv a s off x)=((Fq a s off (x.eval env ls)).map (·,σ)):=by
 unfold step;simp only[bD];exact bw _
theorem aeA(env ls:List ap)(σ:ay)(k:Nat)(x:cP)(i:cP):step P env ls σ (.idxs k x i)=((nP (i.eval env ls)).bind fun n=>(zi σ k n (x.eval env ls)).map (·,σ)):=by
 unfold step;simp only[bD];exact bw _
theorem afu(env ls:List ap)(σ:ay)(m:Nat)(s:Nat)(x:cP)(i:cP):step P env ls σ (.idxa m s x i)=((nP (i.eval env ls)).bind fun n=>if n<m then (Gz σ (n*s) (x.eval env ls)).map (·,σ) else none):=by
 unfold step;simp only[bD];exact bw _
theorem ad1(env ls:List ap)(σ:ay)(a:Bool)(m:Nat)(s:Nat)(x:cP)(i:cP):step P env ls σ (.idxv a m s x i)=((nP (i.eval env ls)).bind fun n=>if n<m then (Fq a s (n*s) (x.eval env ls)).map (·,σ) else none):=by
 unfold step;simp only[bD];exact bw _
theorem aeg(env ls:List ap)(σ:ay)(x:cP)(i:cP):step P env ls σ (.idxt x i)=((nP (i.eval env ls)).bind fun n=>(MD n (x.eval env ls)).map (·,σ)):=by
 unfold step;simp only[bD];exact bw _
theorem akm(env ls:List ap)(σ:ay)(op:BinOp)(x:cP)(y:cP):step P env ls σ (.bin op x y)=((bin op (x.eval env ls) (y.eval env ls)).map (·,σ)):=by
 unfold step;simp only[bD];exact bw _
theorem ag6(env ls:List ap)(σ:ay)(n:Bool)(x:cP)(y:cP):step P env ls σ (.eqb n x y)=((eqb n (x.eval env ls) (y.eval env ls)).map (·,σ)):=by
 unfold step;simp only[bD];exact bw _
theorem agY(env ls:List ap)(σ:ay)(n:Bool)(ks:List Nat)(x:cP)(y:cP):step P env ls σ (.eqa n ks x y)=((eqa n ks (x.eval env ls) (y.eval env ls)).map (·,σ)):=by
 unfold step;simp only[bD];exact bw _
theorem YM(env ls:List ap)(σ:ay)(n:Bool)(x:cP):step P env ls σ (.isnil n x)=((isnil n (x.eval env ls)).map (·,σ)):=by
 unfold step;simp only[bD];exact bw _
theorem afx(env ls:List ap)(σ:ay)(n:Bool)(x:cP):step P env ls σ (.nils n x)=((lj n σ (x.eval env ls)).map (·,σ)):=by
 unfold step;simp only[bD];exact bw _
theorem aj9(env ls:List ap)(σ:ay)(op:UnOp)(x:cP):step P env ls σ (.una op x)=((una op (x.eval env ls)).map (·,σ)):=by
 unfold step;simp only[bD];exact bw _
theorem ae7(env ls:List ap)(σ:ay)(k:IntKind)(x:cP):step P env ls σ (.conv k x)=((Rv k (x.eval env ls)).map (·,σ)):=by
 unfold step;simp only[bD];exact bw _
theorem Yi(env ls:List ap)(σ:ay)(k:Nat)(x:cP)(lo:Option cP)(hi:Option cP):step P env ls σ (.slice k x lo hi)=(let v:=x.eval env ls
  (kM σ v).bind fun n=>(Ww env ls 0 lo).bind fun l=>(Ww env ls n hi).bind fun h=>(aslice σ k v l h).map (·,σ)):=by
 unfold step;simp only[bD];exact bw _
theorem VG(env ls:List ap)(σ:ay)(x:cP)(lo:Option cP)(hi:Option cP):step P env ls σ (.slicet x lo hi)=(let v:=x.eval env ls
  (GA v).bind fun n=>(Ww env ls 0 lo).bind fun l=>(Ww env ls n hi).bind fun h=>(Ea v l h).map (·,σ)):=by
 unfold step;simp only[bD];exact bw _
theorem XB(env ls:List ap)(σ:ay)(x:cP):step P env ls σ (.slice0 x)=((kM σ (x.eval env ls)).map fun _=>(.aj,σ)):=by
 unfold step;simp only[bD];exact bw _
theorem Wl(env ls:List ap)(σ:ay)(n:Nat)(x:cP):step P env ls σ (.aslice n x)=((W5 σ n (x.eval env ls)).map (·,σ)):=by
 unfold step;simp only[bD];exact bw _
theorem ajO(env ls:List ap)(σ:ay)(x:cP):step P env ls σ (.len x)=((kM σ (x.eval env ls)).map fun (n:Nat)=>(.int .i64 (n:Int),σ)):=by
 unfold step;simp only[bD];exact bw _
theorem afl(env ls:List ap)(σ:ay)(x:cP):step P env ls σ (.lent x)=((GA (x.eval env ls)).map fun (n:Nat)=>(.int .i64 (n:Int),σ)):=by
 unfold step;simp only[bD];exact bw _
theorem aiJ(env ls:List ap)(σ:ay)(x:cP):step P env ls σ (.cap x)=((YB (x.eval env ls)).map (·,σ)):=by
 unfold step;simp only[bD];exact bw _
theorem ah0(env ls:List ap)(σ:ay)(k:Nat)(x:cP)(y:cP):step P env ls σ (.app k x y)=((rd σ (y.eval env ls)).bind fun ys=>append k (x.eval env ls) ys σ):=by
 unfold step;simp only[bD];exact bw _
theorem aeR(env ls:List ap)(σ:ay)(k:Nat)(zero:ap)(x:cP)(n:cP):step P env ls σ (.appz k zero x n)=((nP (n.eval env ls)).bind fun m=>if aC zero=k∧m≤most then append k (x.eval env ls) (List.replicate m zero) σ else none):=by
 unfold step;simp only[bD];exact bw _
theorem afj(env ls:List ap)(σ:ay)(k:Nat)(x:cP)(y:cP):step P env ls σ (.copy k x y)=((G4 σ (Zm (x.eval env ls)) (y.eval env ls)).bind fun ys=>(Ml σ k ys (x.eval env ls)).map fun σ'=>(.int .i64 (ys.length:Int),σ')):=by
 unfold step;simp only[bD];exact bw _
theorem aeX(env ls:List ap)(σ:ay)(x:cP)(xs:List cP):step P env ls σ (.mins x xs)=((tx true (x.eval env ls) (xs.map (·.eval env ls))).map (·,σ)):=by
 unfold step;simp only[bD];exact bw _
theorem aea(env ls:List ap)(σ:ay)(x:cP)(xs:List cP):step P env ls σ (.maxs x xs)=((tx false (x.eval env ls) (xs.map (·.eval env ls))).map (·,σ)):=by
 unfold step;simp only[bD];exact bw _
theorem aep(env ls:List ap)(σ:ay)(f:Nat)(first:List cP)(cap:List cP):step P env ls σ (.mkfn f first cap)=(some (.fn f (first.map (·.eval env ls)) (cap.map (·.eval env ls)),σ)):=by
 unfold step;simp only[bD];exact bw _
theorem akQ(env ls:List ap)(σ:ay)(i:Nat)(x:cP):step P env ls σ (.ext i x)=((Vy i (x.eval env ls)).map (·,σ)):=by
 unfold step;simp only[bD];exact bw _
theorem aaa(env ls:List ap)(σ:ay)(x:cP):step P env ls σ (.nilck x)=((Iq σ (x.eval env ls)).map (·,σ)):=by
 unfold step;simp only[bD];exact bw _
theorem YE(env ls:List ap)(σ:ay)  : step P env ls σ (.mkmap)=(some (.mp σ.length,σ++[.map []])):=by
 unfold step;simp only[bD];exact bw _
theorem ae6(env ls:List ap)(σ:ay)(m:cP)(k:cP)(v:cP):step P env ls σ (.mput m k v)=((Mn σ (k.eval env ls) (v.eval env ls) (m.eval env ls)).map (.any,·)):=by
 unfold step;simp only[bD];exact bw _
theorem aeW(env ls:List ap)(σ:ay)(zero:ap)(ok:Bool)(m:cP)(k:cP):step P env ls σ (.look zero ok m k)=(if gG (k.eval env ls) then (BU σ (m.eval env ls)).bind fun es=>(lookup (k.eval env ls) es).map fun r=>(if ok then .tup [r.getD zero,.bool r.isSome] else r.getD zero,σ) else none):=by
 unfold step;simp only[bD];exact bw _
theorem afI(env ls:List ap)(σ:ay)(m:cP):step P env ls σ (.mlen m)=((BU σ (m.eval env ls)).map fun es=>(.int .i64 (es.length:Int),σ)):=by
 unfold step;simp only[bD];exact bw _
theorem ak0(env ls:List ap)(σ:ay)(zero:ap)(x:cP):step P env ls σ (.clr zero x)=((Vb σ zero (x.eval env ls)).map (.any,·)):=by
 unfold step;simp only[bD];exact bw _
theorem aiz(env ls:List ap)(σ:ay)  : step P env ls σ (.bad)=(none):=by
 unfold step;simp only[bD];exact bw _
end
end Go.AM
namespace Go.AM
def Af.isPure:Af→Bool
 |.pure|.fresh _=>true
 |_=>false
theorem Yu(σ τ:ay):∀(n:Nat) (v:ap),fz true false 0 τ n (fz true false 0 σ n v)=fz true false 0 σ n v:=by
 intro n;induction n with
 |zero=>intro v;rfl
 |succ n ih=>
  intro v;have hl:∀l:List ap,(l.map (fz true false 0 σ n)).map (fz true false 0 τ n)=l.map (fz true false 0 σ n):=fun l=>by
   rw[cE];exact bx fun x _=>ih x
  cases v with
  |agg cs=>simp only[fz];rw[hl]
  |tup cs=>simp only[fz];rw[hl]
  |fn f a c=>simp only[fz];rw[hl,hl]
  |aa b xs=>cases b<;>simp[fz]
  |cptr b x o=>
   cases b
   ·simp[fz]
   by_cases h:aC (fz true false 0 σ n x)=aC x
   ·simp[fz,jh,h,ih]
   simp[fz,jh,h]
  |imap b xs=>cases b<;>simp[fz]
  |lst xs=>
   by_cases h:(xs.map (fz true false 0 σ n)).map aC=xs.map aC
   ·simp only[fz,mb,if_pos h];rfl
   simp only[fz,mb,if_neg h]
  |sl id ep off len=>
   simp only[fz,bX,cz];cases sliceAt σ id ep off len with
   |none=>simp[fz]
   |some l=>
    by_cases h:(l.map (fz true false 0 σ n)).map aC=l.map aC
    ·simp only[Option.elim,mb,if_pos h,fz];rfl
    simp only[Option.elim,mb,if_neg h,fz]
  |ptr id ep i off=>
   simp only[fz,bX,cz];cases p7 σ id ep i with
   |none=>simp[fz]
   |some x=>
    by_cases h:aC (fz true false 0 σ n x)=aC x
    ·simp[fz,jh,h,ih]
    simp[fz,jh,h]
  |asl id ep i off m=>simp[fz]
  |mp id=>
   simp only[fz,bX,cz];cases gX σ id<;>simp[fz]
  |yld l s e=>
   simp[fz]
  |_=>simp[fz]
theorem pJ(σ τ:ay)(v:ap):fS τ (fS σ v)=fS σ v:=Yu σ τ iB v
section
variable {P:Code} (hP:P.Good)
include hP
theorem K4{f:Nat}{g:aS}(h:P.fns f=.fn g)(hm:g.mode.isPure=true)(args:List ap)(σ:ay) :
  cA P f args σ=((cA P f (args.map (fS σ)) []).map (·.1)).map (·,σ):=by
 rw[zx hP h,zx hP h];have he:enter g args σ=enter g (args.map (fS σ)) []:=by
  have h1:((args.map (fS σ)).take g.np).map (fS [])=(args.take g.np).map (fS σ):=by
   rw[←List.map_take,cE];exact bx fun x _=>pJ σ [] x
  unfold enter;cases hg:g.mode<;>rw[hg]at hm<;>first|exact absurd hm (by decide)|(simp only[h1])
 rw[he];cases run P g.body (enter g (args.map (fS σ)) []) with
 |none=>rfl
 |some r=>
  obtain⟨e,s⟩:=r;have key:(results s g.res).map (fun v=>iq g.mode σ s v)=(((results s g.res).map fun v=>iq g.mode [] s v).map (·.1)).map (·,σ):=by
   cases results s g.res with
   |none=>rfl
   |some v=>
    cases hg:g.mode<;>rw[hg]at hm<;>first|exact absurd hm (by decide)|rfl
  cases e with
  |ext _=>rfl
  |nrm=>exact key
  |ret=>exact key
theorem SI{f:Nat}{g:aS}(h:P.fns f=.fn g)(hm:g.mode.isPure=true)(args:List ap) :
  (cA P f args []).map (·.1)=(run P g.body ⟨(args.take g.np).map (fS [])++List.replicate (g.nenv-g.np) .any,[]⟩).bind fun r=>match r.1 with
   |.ext _=>none
   |_=>(results r.2 g.res).map fun v=>(iq g.mode [] r.2 v).1:=by
 rw[zx hP h];have he:enter g args []=⟨(args.take g.np).map (fS [])++List.replicate (g.nenv-g.np) .any,[]⟩:=by
  unfold enter;cases hg:g.mode<;>rw[hg]at hm<;>first|exact absurd hm (by decide)|rfl
 rw[he];cases run P g.body _ with
 |none=>rfl
 |some r=>
  obtain⟨e,s⟩:=r;cases e with
  |ext _=>rfl
  |nrm=>show ((results s g.res).map _).map _=_;rw[Option.map_map];rfl
  |ret=>show ((results s g.res).map _).map _=_;rw[Option.map_map];rfl
end
end Go.AM
section
set_option maxRecDepth 8000
namespace Go.AM
abbrev bZ(n:Nat)(g:aS):Prop:=code.fns n=.fn g
theorem fg:code.Good:=Nu
noncomputable def aK(f:Nat)(args:List ap):Option ap:=(cA code f args []).map (·.1)
theorem cG{f:Nat}{g:aS}(h:code.fns f=.fn g)(hm:g.mode.isPure=true)(args:List ap)(σ:ay) :
  cA code f args σ=(aK f (args.map (fS σ))).map (·,σ):=K4 fg h hm args σ
abbrev aT(f:Nat):Prop:=∀(args:List ap) (σ:ay),cA code f args σ=(aK f (args.map (fS σ))).map (·,σ)
theorem Ul{f:Nat}{g:aS}(h:code.fns f=.fn g)(hm:g.mode.isPure=true)(args:List ap) :
  aK f args=(run code g.body ⟨(args.take g.np).map (fS [])++List.replicate (g.nenv-g.np) .any,[]⟩).bind fun r=>match r.1 with
   |.ext _=>none
   |_=>(results r.2 g.res).map fun v=>(iq g.mode [] r.2 v).1:=SI fg h hm args
theorem agA:bZ 2 P.ao3:=rfl
theorem amh:bZ 7 P.aq2:=rfl
theorem akU:bZ 8 P.aos:=rfl
theorem amc:bZ 10 P.ao9:=rfl
theorem ahS:bZ 11 P.ary:=rfl
theorem ajq:bZ 18 P.arJ:=rfl
theorem aiQ:bZ 19 P.aok:=rfl
theorem ahw:bZ 20 P.aqE:=rfl
theorem akf:bZ 24 P.aqg:=rfl
theorem ai7:bZ 29 P.aqL:=rfl
theorem aaR:bZ 32 P.apn:=rfl
theorem adG:bZ 33 P.aoH:=rfl
theorem ait:bZ 35 P.aqS:=rfl
theorem adh:bZ 36 P.aoC:=rfl
theorem aiu:bZ 37 P.aou:=rfl
theorem agz:bZ 38 P.apb:=rfl
theorem amf:bZ 39 P.aoS:=rfl
theorem akM:bZ 40 P.aoV:=rfl
theorem akW:bZ 41 P.arj:=rfl
theorem aaA:bZ 42 P.apF:=rfl
theorem aln:bZ 43 P.aqj:=rfl
theorem ajU:bZ 44 P.ari:=rfl
theorem agy:bZ 45 P.aqs:=rfl
theorem ahv:bZ 46 P.aoQ:=rfl
theorem aml:bZ 47 P.ao0:=rfl
theorem alX:bZ 48 P.apa:=rfl
theorem amw:bZ 49 P.apd:=rfl
theorem ajW:bZ 61 P.aqn:=rfl
theorem ac8:code.fns 62=.nilfn P.ara:=rfl
theorem aku:bZ 64 P.aqR:=rfl
theorem agm:bZ 65 P.aqh:=rfl
theorem aiF:bZ 66 P.aqT:=rfl
theorem ah6:bZ 68 P.aqP:=rfl
theorem alg:bZ 69 P.arq:=rfl
theorem ajM:bZ 70 P.aog:=rfl
theorem akH:bZ 71 P.ap3:=rfl
theorem aiC:bZ 75 P.apj:=rfl
theorem ajF:bZ 77 P.aqd:=rfl
theorem ala:bZ 78 P.apo:=rfl
theorem aj5:bZ 79 P.apZ:=rfl
theorem ak2:bZ 80 P.aqW:=rfl
theorem ag5:bZ 83 P.aqq:=rfl
theorem alr:bZ 84 P.aqK:=rfl
theorem agl:bZ 85 P.ard:=rfl
theorem adW:bZ 86 P.aoI:=rfl
@[simp] theorem ahx:aT 86:=cG adW rfl
theorem abz:bZ 87 P.apq:=rfl
@[simp] theorem akz:aT 87:=cG abz rfl
theorem acK:bZ 88 P.aop:=rfl
@[simp] theorem ah3:aT 88:=cG acK rfl
theorem adK:bZ 89 P.apL:=rfl
@[simp] theorem ahD:aT 89:=cG adK rfl
theorem aaB:bZ 90 P.arQ:=rfl
@[simp] theorem ahR:aT 90:=cG aaB rfl
theorem adU:bZ 91 P.arn:=rfl
@[simp] theorem ahH:aT 91:=cG adU rfl
theorem adj:bZ 92 P.arT:=rfl
@[simp] theorem ahT:aT 92:=cG adj rfl
theorem ago:bZ 93 P.api:=rfl
theorem XG:bZ 94 P.aoM:=rfl
theorem VH:code.fns 95=.nilfn P.aro:=rfl
theorem nb:bZ 96 P.aod:=rfl
theorem ah7:bZ 97 P.arp:=rfl
theorem ac3:bZ 98 P.aqJ:=rfl
@[simp] theorem ahp:aT 98:=cG ac3 rfl
theorem UF:bZ 99 P.aoG:=rfl
@[simp] theorem abC:aT 99:=cG UF rfl
theorem aaQ:bZ 100 P.apS:=rfl
@[simp] theorem ali:aT 100:=cG aaQ rfl
theorem aaL:bZ 101 P.apy:=rfl
@[simp] theorem aie:aT 101:=cG aaL rfl
theorem adl:bZ 102 P.aqH:=rfl
@[simp] theorem aj3:aT 102:=cG adl rfl
theorem aaz:bZ 105 P.apY:=rfl
@[simp] theorem ajT:aT 105:=cG aaz rfl
theorem abK:bZ 106 P.aqi:=rfl
@[simp] theorem ah1:aT 106:=cG abK rfl
theorem ab7:bZ 107 P.arP:=rfl
@[simp] theorem aj1:aT 107:=cG ab7 rfl
theorem ahV:bZ 108 P.arV:=rfl
theorem ahY:bZ 109 P.ao4:=rfl
theorem acw:bZ 110 P.apm:=rfl
theorem ako:bZ 111 P.aq9:=rfl
theorem abT:bZ 112 P.aoD:=rfl
theorem agT:bZ 113 P.arD:=rfl
theorem uM:code.fns 114=.nilfn P.apE:=rfl
theorem ain:bZ 115 P.arc:=rfl
theorem ada:bZ 116 P.apO:=rfl
theorem amI:bZ 117 P.ape:=rfl
theorem Ux:bZ 119 P.aoB:=rfl
theorem ahO:bZ 138 P.apl:=rfl
theorem aim:bZ 139 P.aqM:=rfl
theorem acb:bZ 140 P.aqX:=rfl
theorem WH:bZ 141 P.aoe:=rfl
theorem agH:bZ 142 P.aoR:=rfl
theorem aiY:bZ 143 P.aq6:=rfl
theorem abl:bZ 144 P.aoL:=rfl
theorem akL:bZ 145 P.arb:=rfl
theorem agG:bZ 146 P.aoX:=rfl
theorem aiO:bZ 147 P.arO:=rfl
theorem ajd:bZ 148 P.aqB:=rfl
theorem ajw:bZ 149 P.aq0:=rfl
theorem amU:bZ 150 P.aob:=rfl
theorem akI:bZ 151 P.aqQ:=rfl
theorem ahb:bZ 152 P.arB:=rfl
theorem ajB:bZ 153 P.aqZ:=rfl
theorem aho:bZ 154 P.apA:=rfl
theorem agM:bZ 160 P.aps:=rfl
theorem ajL:bZ 161 P.arR:=rfl
theorem agw:bZ 163 P.apR:=rfl
theorem adA:bZ 164 P.apr:=rfl
theorem als:bZ 167 P.ao8:=rfl
theorem ahf:bZ 168 P.apD:=rfl
theorem alk:bZ 169 P.aqD:=rfl
theorem aiN:bZ 171 P.arm:=rfl
theorem agr:bZ 172 P.apc:=rfl
theorem aic:bZ 173 P.aqA:=rfl
theorem akE:bZ 174 P.aoN:=rfl
theorem ajJ:bZ 176 P.apW:=rfl
theorem aip:bZ 177 P.arh:=rfl
theorem ajr:bZ 178 P.arI:=rfl
theorem ahu:bZ 179 P.aqp:=rfl
theorem aj0:bZ 180 P.aqz:=rfl
theorem ale:bZ 181 P.aoq:=rfl
theorem alp:bZ 182 P.ao2:=rfl
theorem aa9:bZ 183 P.aor:=rfl
theorem aaY:bZ 184 P.apP:=rfl
theorem ahU:bZ 185 P.aq3:=rfl
theorem UE:bZ 186 P.aoW:=rfl
theorem aiG:bZ 187 P.aqU:=rfl
theorem ahs:bZ 188 P.aq4:=rfl
theorem ajz:bZ 189 P.aq1:=rfl
theorem ai1:bZ 190 P.aqm:=rfl
theorem aik:bZ 191 P.arN:=rfl
theorem ahc:bZ 192 P.arv:=rfl
theorem aht:bZ 194 P.arf:=rfl
theorem agV:bZ 195 P.ap5:=rfl
theorem acY:bZ 196 P.aoJ:=rfl
theorem ag8:bZ 197 P.aqc:=rfl
theorem acV:bZ 198 P.aoT:=rfl
theorem ajS:bZ 200 P.arF:=rfl
theorem agJ:bZ 201 P.aow:=rfl
@[simp] theorem anR:aT 201:=cG agJ rfl
theorem ak3:bZ 202 P.aq5:=rfl
theorem aj6:bZ 203 P.aoz:=rfl
theorem akj:bZ 204 P.apz:=rfl
theorem aky:bZ 206 P.aqe:=rfl
theorem aj7:bZ 207 P.arw:=rfl
theorem amd:bZ 208 P.aqI:=rfl
theorem amu:bZ 209 P.arz:=rfl
theorem al8:bZ 210 P.apH:=rfl
theorem aiK:bZ 214 P.ap2:=rfl
theorem amp:bZ 215 P.an5:=rfl
theorem akG:bZ 230 P.ao6:=rfl
theorem aiT:bZ 242 P.aoP:=rfl
theorem aiP:bZ 243 P.ao5:=rfl
theorem agR:bZ 244 P.ao7:=rfl
theorem ak9:bZ 245 P.aoO:=rfl
theorem alq:bZ 246 P.apf:=rfl
theorem ahP:bZ 247 P.aon:=rfl
theorem ah4:bZ 248 P.apC:=rfl
theorem ah9:bZ 253 P.aoY:=rfl
theorem agN:bZ 254 P.apU:=rfl
theorem agE:bZ 255 P.aov:=rfl
theorem agU:bZ 256 P.aoi:=rfl
theorem ajV:bZ 257 P.aqC:=rfl
theorem aix:bZ 259 P.aqy:=rfl
theorem aj2:bZ 260 P.aqx:=rfl
theorem aii:bZ 263 P.apt:=rfl
theorem aja:bZ 264 P.aru:=rfl
theorem abM:bZ 265 P.apk:=rfl
theorem ahK:bZ 266 P.ao1:=rfl
theorem acG:code.fns 267=.nilfn P.aqG:=rfl
theorem ab5:code.fns 268=.nilfn P.ap6:=rfl
theorem acf:code.fns 269=.nilfn P.arE:=rfl
theorem ado:code.fns 270=.nilfn P.arl:=rfl
theorem aaO:bZ 271 P.apu:=rfl
theorem ai9:bZ 272 P.ap1:=rfl
theorem ag1:bZ 273 P.aqb:=rfl
theorem ajR:bZ 274 P.art:=rfl
theorem akP:bZ 275 P.apJ:=rfl
theorem agn:bZ 276 P.aoE:=rfl
theorem ajj:bZ 277 P.aqk:=rfl
theorem agu:bZ 278 P.apM:=rfl
theorem ahi:bZ 279 P.apK:=rfl
theorem Ky:bZ 280 P.aoo:=rfl
theorem aiH:bZ 281 P.aoU:=rfl
theorem akl:bZ 284 P.aoc:=rfl
@[simp] theorem alW:aT 284:=cG akl rfl
theorem abq:bZ 285 P.are:=rfl
@[simp] theorem ah8:aT 285:=cG abq rfl
theorem agt:bZ 287 P.an8:=rfl
@[simp] theorem amT:aT 287:=cG agt rfl
theorem aiD:bZ 288 P.aqO:=rfl
@[simp] theorem amj:aT 288:=cG aiD rfl
theorem ais:bZ 289 P.aoa:=rfl
@[simp] theorem amO:aT 289:=cG ais rfl
theorem ag9:bZ 290 P.an9:=rfl
@[simp] theorem al3:aT 290:=cG ag9 rfl
theorem ac1:bZ 291 P.arA:=rfl
@[simp] theorem aar:aT 291:=cG ac1 rfl
theorem aap:bZ 293 P.arS:=rfl
@[simp] theorem XF:aT 293:=cG aap rfl
theorem abn:bZ 294 P.arU:=rfl
@[simp] theorem air:aT 294:=cG abn rfl
theorem abt:bZ 295 P.aqa:=rfl
@[simp] theorem ajI:aT 295:=cG abt rfl
theorem akg:bZ 297 P.aqV:=rfl
theorem ahF:bZ 316 P.aql:=rfl
theorem aiw:bZ 317 P.apT:=rfl
theorem ahn:bZ 318 P.arL:=rfl
theorem akJ:bZ 319 P.aqv:=rfl
theorem aia:bZ 320 P.apv:=rfl
theorem ajN:bZ 321 P.aqt:=rfl
theorem ahQ:bZ 322 P.aof:=rfl
theorem ahy:bZ 323 P.aol:=rfl
theorem aki:bZ 324 P.aoj:=rfl
theorem ajs:bZ 325 P.aox:=rfl
theorem akr:bZ 326 P.aqf:=rfl
theorem agP:bZ 327 P.aq7:=rfl
theorem abf:bZ 328 P.aoA:=rfl
@[simp] theorem ajf:aT 328:=cG abf rfl
theorem abI:bZ 329 P.aoZ:=rfl
@[simp] theorem aj8:aT 329:=cG abI rfl
theorem ajG:bZ 330 P.arK:=rfl
theorem Xp:bZ 331 P.apx:=rfl
@[simp] theorem ahJ:aT 331:=cG Xp rfl
theorem aiE:bZ 332 P.aot:=rfl
theorem akV:bZ 333 P.aqw:=rfl
theorem ai6:bZ 334 P.apV:=rfl
theorem ajX:bZ 335 P.aoy:=rfl
theorem ai4:bZ 336 P.aqr:=rfl
theorem akZ:bZ 337 P.aqN:=rfl
theorem aif:bZ 338 P.aqF:=rfl
theorem ab2:bZ 339 P.apN:=rfl
theorem ajA:bZ 340 P.ap9:=rfl
theorem ajC:bZ 341 P.apQ:=rfl
theorem ak8:bZ 342 P.aqo:=rfl
theorem aka:bZ 343 P.aoh:=rfl
theorem adn:bZ 344 P.arC:=rfl
@[simp] theorem ahW:aT 344:=cG adn rfl
theorem ahl:bZ 345 P.arM:=rfl
theorem acq:bZ 346 P.aom:=rfl
theorem ajo:bZ 347 P.aq8:=rfl
theorem aiZ:bZ 348 P.apX:=rfl
theorem ame:bZ 349 P.aoK:=rfl
theorem aev:bZ 350 P.an6:=rfl
@[simp] theorem al4:aT 350:=cG aev rfl
theorem aeZ:bZ 351 P.apI:=rfl
@[simp] theorem amm:aT 351:=cG aeZ rfl
theorem akD:bZ 352 P.an7:=rfl
@[simp] theorem al6:aT 352:=cG akD rfl
theorem akk:bZ 353 P.an4:=rfl
@[simp] theorem amA:aT 353:=cG akk rfl
theorem abJ:bZ 354 P.ap4:=rfl
@[simp] theorem ai2:aT 354:=cG abJ rfl
theorem akK:bZ 355 P.aph:=rfl
theorem aa4:bZ 356 P.ap7:=rfl
@[simp] theorem ah5:aT 356:=cG aa4 rfl
theorem abr:bZ 357 P.ap0:=rfl
@[simp] theorem aje:aT 357:=cG abr rfl
theorem aaF:code.fns 358=.nilfn P.arH:=rfl
theorem ajH:bZ 372 P.arx:=rfl
theorem aiU:bZ 373 P.aqu:=rfl
theorem agv:bZ 374 P.ars:=rfl
theorem aiX:bZ 375 P.aqY:=rfl
theorem alc:bZ 386 P.ap8:=rfl
theorem abP:bZ 387 P.apB:=rfl
theorem aig:bZ 388 P.apG:=rfl
theorem amK:bZ 389 P.apw:=rfl
theorem ald:bZ 390 P.aoF:=rfl
theorem ail:bZ 398 P.arG:=rfl
theorem akq:bZ 401 P.ark:=rfl
theorem aeJ:bZ 409 P.apg:=rfl
theorem uV:code.fns 282=.prim 2:=rfl
@[simp] theorem alM:aT 2∧aT 5∧aT 6∧aT 7∧aT 8∧aT 10∧aT 11∧aT 12∧aT 17∧aT 18∧aT 19∧aT 20∧aT 24∧aT 29∧aT 32∧aT 33∧aT 34∧aT 35∧aT 37∧aT 38∧aT 40∧aT 41∧aT 42∧aT 43∧aT 44∧aT 45∧aT 46∧aT 50∧aT 51∧aT 60∧aT 61∧aT 65∧aT 66∧aT 68∧aT 69∧aT 70∧aT 71∧aT 75∧aT 77∧aT 78:=by and_intros<;>exact cG rfl rfl
@[simp] theorem ahk:aT 79∧aT 80∧aT 83∧aT 84∧aT 93∧aT 97∧aT 108∧aT 109∧aT 110∧aT 111∧aT 112∧aT 113∧aT 115∧aT 116∧aT 117∧aT 118∧aT 119∧aT 120∧aT 136∧aT 138∧aT 139∧aT 140∧aT 141∧aT 142∧aT 143∧aT 144∧aT 146∧aT 147∧aT 148∧aT 149∧aT 150∧aT 151∧aT 152∧aT 153∧aT 154∧aT 160∧aT 161∧aT 163∧aT 167∧aT 168:=by and_intros<;>exact cG rfl rfl
@[simp] theorem ahB:aT 169∧aT 172∧aT 173∧aT 174∧aT 188∧aT 189∧aT 190∧aT 191∧aT 192∧aT 195∧aT 196∧aT 197∧aT 198∧aT 202∧aT 203∧aT 204∧aT 205∧aT 206∧aT 207∧aT 208∧aT 209∧aT 210∧aT 214∧aT 215∧aT 230∧aT 242∧aT 243∧aT 244∧aT 245∧aT 246∧aT 247∧aT 248∧aT 253∧aT 254∧aT 255∧aT 256∧aT 257∧aT 259∧aT 260∧aT 264:=by and_intros<;>exact cG rfl rfl
@[simp] theorem af6:aT 272∧aT 273∧aT 274∧aT 275∧aT 276∧aT 277∧aT 278∧aT 316∧aT 317∧aT 318∧aT 319∧aT 320∧aT 321∧aT 322∧aT 324∧aT 326∧aT 333∧aT 334∧aT 335∧aT 336∧aT 337∧aT 338∧aT 340∧aT 341∧aT 342∧aT 343∧aT 345∧aT 346∧aT 347∧aT 348∧aT 349∧aT 355∧aT 372∧aT 373∧aT 375∧aT 386∧aT 387∧aT 388∧aT 389∧aT 390:=by and_intros<;>exact cG rfl rfl
@[simp] theorem afV:aT 398∧aT 401∧aT 409:=by and_intros<;>exact cG rfl rfl
end Go.AM
end
namespace Go.AM
noncomputable def Dm(b:az)(r:Option (Ex×St)):Option (Ex×St):=r.bind fun r=>match r.1 with
 |.nrm=>run code b r.2
 |e=>some (e,r.2)
noncomputable def yI(env:List ap)(is:List cj)(ls:List ap)(q:Option (ap×ay)):Option (List ap×ay):=
 q.bind fun q=>lS code env is (ls++[q.1]) q.2
noncomputable def C7(env:List ap)(i:cj)(is:List cj)(ls:List ap)(σ:ay)(t:Option Bool):Option (List ap×ay):=
 match t with
 |some true=>yI env is ls (step code env ls σ i.op)
 |some false=>lS code env is (ls++[.tup []]) σ
 |none=>none
def Qz(env:List ap)(os:List (Nat×cP))(r:Option (List ap×ay)):Option (Ex×St):=
 r.map fun r=>(.nrm,⟨oX env env r.1 os,r.2⟩)
def zY(id:Nat)(r:Option (Ex×St)):Option (Ex×St):=r.map fun r=>match r.1 with
 |.ext j=>if j=id then (.nrm,r.2) else r
 |_=>r
noncomputable def De(a b:az)(s:St)(c:ap):Option (Ex×St):=match c with
 |.bool true=>run code a s
 |.bool false=>run code b s
 |_=>none
noncomputable def dK(base:Nat)(clr:List Nat)(b:az)(r:Option (Ex×St)):Option (Ex×St):=r.bind fun r=>match r.1 with
 |.nrm=>cq code base clr b (aE base clr r.2)
 |e=>some (e,r.2)
def Qu(l:Nat)(env:List ap)(r:Option (ap×ay)):Option (Ex×St):=r.bind fun r=>jC l env r.2
noncomputable def KH(env:List ap)(b:az)(r:Option ay):Option (Ex×St):=r.bind fun σ=>run code b ⟨env,σ⟩
noncomputable def P0(env:List ap)(is:List cj)(ls:List ap)(ss:List ay)(q:Option (ap×ay)):Option (List ap×List ay×ay):=
 q.bind fun q=>xY code env is (ls++[q.1]) ss q.2
noncomputable def VS(env:List ap)(i:cj)(is:List cj)(ls:List ap)(ss:List ay)(σ:ay)(t:Option Bool):Option (List ap×List ay×ay):=
 match t with
 |some true=>P0 env is ls (ss++[σ]) (step code env ls σ i.op)
 |some false=>xY code env is (ls++[.tup []]) (ss++[σ]) σ
 |none=>none
noncomputable def Qg(env:List ap)(os:List (Nat×cP))(is:List cj)(chk:List (Nat×Nat))(r:Option (List ap×List ay×ay)):Option (Ex×St):=
 r.bind fun r=>(oO code env r.1 is (r.2.1++[r.2.2]) chk).map fun _=>(.nrm,⟨oX env env r.1 os,r.2.2⟩)
noncomputable def Dp(env ls:List ap)(is:List cj)(ss:List ay)(n:Nat)(τ:ay)(l:List (Nat×Nat))(q:Option (ap×ay)):Option Unit:=
 q.bind fun q=>if same q.1 (mK ls n)&&oZ q.2 τ then oO code env ls is ss l else none
noncomputable def XD(env ls:List ap)(is:List cj)(ss:List ay)(n:Nat)(l:List (Nat×Nat))(i:Option cj)(t:Option ay):Option Unit:=
 match i,t with
 |some i,some τ=>Dp env ls is ss n τ l (step code env (ls.take n) τ i.op)
 |_,_=>none
def dO(m:Af)(res:List RI)(r:Option (Ex×St)):Option ap:=r.bind fun r=>match r.1 with
 |.ext _=>none
 |_=>(results r.2 res).map fun v=>(iq m [] r.2 v).1
@[simp ↓] theorem am0(a b:az)(s:St):run code (.seq a b) s=Dm b (run code a s):=Zh fg a b s
@[simp ↓] theorem amq(s:St):run code .skip s=some (.nrm,s):=UP fg s
@[simp ↓] theorem amy(id:Nat)(s:St):run code (.exit id) s=some (.ext id,s):=VR fg id s
@[simp ↓] theorem am6(s:St):run code .ret s=some (.ret,s):=Y4 fg s
@[simp ↓] theorem am2(is:List cj)(os:List (Nat×cP))(env:List ap)(σ:ay):run code (.reg is os) ⟨env,σ⟩=Qz env os (lS code env is [] σ):=Zj fg is os _
@[simp ↓] theorem amH(c:cP)(a b:az)(env:List ap)(σ:ay):run code (.cond c a b) ⟨env,σ⟩=De a b ⟨env,σ⟩ (c.eval env []):=by
 rw[XM fg];rfl
@[simp ↓] theorem ane(id:Nat)(b:az)(s:St):run code (.blk id b) s=zY id (run code b s):=YW fg id b s
@[simp ↓] theorem alQ(b:az)(s:St):run code (.scope b) s=run code b s:=Sv fg b s
@[simp ↓] theorem amF(clr:List Nat)(b:az)(env:List ap)(σ:ay):run code (.loop clr b) ⟨env,σ⟩=cq code σ.length clr b ⟨clear env clr,σ⟩:=Ub fg clr b _
@[simp ↓] theorem anb(k:Nat)(f:cP)(site:Nat)(env:List ap)(σ:ay):run code (.rng k f site) ⟨env,σ⟩=if env.length=k then Qu σ.length env (JL code (f.eval env []) [.yld σ.length site env] (σ++[.pend false none])) else none:=ZX fg k f site _
@[simp ↓] theorem amn(i off k:Nat)(b:az)(env:List ap)(σ:ay):run code (.lift i off k b) ⟨env,σ⟩=KH env b (FE (mK env i) off k σ):=XO fg i off k b _
@[simp ↓] theorem amb(is:List cj)(os:List (Nat×cP))(chk:List (Nat×Nat))(env:List ap)(σ:ay):run code (.regd is os chk) ⟨env,σ⟩=Qg env os is chk (xY code env is [] [] σ):=Ws fg is os chk _
@[simp ↓] theorem am5(env ls:List ap)(ss:List ay)(σ:ay):xY code env [] ls ss σ=some (ls,ss,σ):=XW fg env ls ss σ
@[simp ↓] theorem T_i(env ls:List ap)(ss:List ay)(σ:ay)(o:Ee)(is:List cj):xY code env (P.i o::is) ls ss σ=P0 env is ls (ss++[σ]) (step code env ls σ o):=GR fg env _ is ls ss σ
@[simp ↓] theorem T_g(env ls:List ap)(ss:List ay)(σ:ay)(x:cP)(b:Bool)(o:Ee)(is:List cj) :
  xY code env (P.g x b o::is) ls ss σ=VS env (P.g x b o) is ls ss σ (wanted env ls (some (x,b))):=GR fg env _ is ls ss σ
@[simp] theorem alu(env:List ap)(x:cP)(b:Bool)(o:Ee)(is:List cj)(ls:List ap)(ss:List ay)(σ:ay) :
  VS env (P.g x b o) is ls ss σ (some true)=P0 env is ls (ss++[σ]) (step code env ls σ o):=rfl
@[simp] theorem alG(env:List ap)(i:cj)(is:List cj)(ls:List ap)(ss:List ay)(σ:ay) :
  VS env i is ls ss σ (some false)=xY code env is (ls++[.tup []]) (ss++[σ]) σ:=rfl
@[simp] theorem afQ(env:List ap)(is:List cj)(ls:List ap)(ss:List ay)(v:ap)(σ:ay):P0 env is ls ss (some (v,σ))=xY code env is (ls++[v]) ss σ:=rfl
@[simp] theorem Yk(env:List ap)(os:List (Nat×cP))(is:List cj)(chk:List (Nat×Nat))(ls:List ap)(ss:List ay)(σ:ay) :
  Qg env os is chk (some (ls,ss,σ))=(oO code env ls is (ss++[σ]) chk).map fun _=>(.nrm,⟨oX env env ls os,σ⟩):=rfl
@[simp ↓] theorem am4(env ls:List ap)(is:List cj)(ss:List ay):oO code env ls is ss []=some ():=NF fg env ls is ss
@[simp ↓] theorem ama(env ls:List ap)(is:List cj)(ss:List ay)(n j:Nat)(l:List (Nat×Nat)):oO code env ls is ss ((n,j)::l)=XD env ls is ss n l is[n]? ss[j]?:=by
 rw[Lk fg];unfold XD Dp;cases is[n]?<;>cases ss[j]?<;>rfl
@[simp] theorem aeS(env ls:List ap)(is:List cj)(ss:List ay)(n:Nat)(l:List (Nat×Nat))(o:Ee)(τ:ay):XD env ls is ss n l (some (P.i o)) (some τ)=Dp env ls is ss n τ l (step code env (ls.take n) τ o):=rfl
@[simp] theorem Yw(env ls:List ap)(is:List cj)(ss:List ay)(n:Nat)(τ:ay)(l:List (Nat×Nat))(v:ap)(σ:ay):Dp env ls is ss n τ l (some (v,σ))=if same v (mK ls n)&&oZ σ τ then oO code env ls is ss l else none:=rfl
@[simp] theorem X9(env:List ap)(b:az)(σ:ay):KH env b (some σ)=run code b ⟨env,σ⟩:=rfl
@[simp] theorem anG(f:Nat)(a c args:List ap)(σ:ay):JL code (.fn f a c) args σ=cA code f (a++args++c) σ:=rfl
attribute [simp] pG iM xv
@[simp ↓] theorem am1(env ls:List ap)(σ:ay):lS code env [] ls σ=some (ls,σ):=PM fg env ls σ
@[simp ↓] theorem O_i(env ls:List ap)(σ:ay)(o:Ee)(is:List cj):lS code env (P.i o::is) ls σ=yI env is ls (step code env ls σ o):=Cc fg env _ is ls σ
@[simp ↓] theorem O_g(env ls:List ap)(σ:ay)(x:cP)(b:Bool)(o:Ee)(is:List cj) :
  lS code env (P.g x b o::is) ls σ=C7 env (P.g x b o) is ls σ (wanted env ls (some (x,b))):=Cc fg env _ is ls σ
@[simp] theorem amQ(env:List ap)(x:cP)(b:Bool)(o:Ee)(is:List cj)(ls:List ap)(σ:ay) :
  C7 env (P.g x b o) is ls σ (some true)=yI env is ls (step code env ls σ o):=rfl
@[simp] theorem amG(env:List ap)(i:cj)(is:List cj)(ls:List ap)(σ:ay) :
  C7 env i is ls σ (some false)=lS code env is (ls++[.tup []]) σ:=rfl
@[simp] theorem abo(b:az)(s:St):Dm b (some (.nrm,s))=run code b s:=rfl
@[simp] theorem adM(b:az)(s:St)(id:Nat):Dm b (some (.ext id,s))=some (.ext id,s):=rfl
@[simp] theorem adN(b:az)(s:St):Dm b (some (.ret,s))=some (.ret,s):=rfl
@[simp] theorem Yz(env:List ap)(is:List cj)(ls:List ap)(v:ap)(σ:ay):yI env is ls (some (v,σ))=lS code env is (ls++[v]) σ:=rfl
@[simp] theorem ZD(env:List ap)(os:List (Nat×cP))(ls:List ap)(σ:ay):Qz env os (some (ls,σ))=some (.nrm,⟨oX env env ls os,σ⟩):=rfl
@[simp] theorem act(id:Nat)(s:St):zY id (some (.nrm,s))=some (.nrm,s):=rfl
@[simp] theorem ac5(id:Nat)(s:St):zY id (some (.ret,s))=some (.ret,s):=rfl
@[simp] theorem ac4(id j:Nat)(s:St):zY id (some (.ext j,s))=some (if j=id then (.nrm,s) else (.ext j,s)):=by
 simp[zY]
@[simp] theorem amo(a b:az)(s:St):De a b s (.bool true)=run code a s:=rfl
@[simp] theorem al9(a b:az)(s:St):De a b s (.bool false)=run code b s:=rfl
@[simp] theorem dV(m:Af)(res:List RI)(s:St):dO m res (some (.ret,s))=(results s res).map fun v=>(iq m [] s v).1:=rfl
@[simp] theorem Yd(m:Af)(res:List RI)(s:St):dO m res (some (.nrm,s))=(results s res).map fun v=>(iq m [] s v).1:=rfl
theorem aA{f:Nat}{g:aS}(h:code.fns f=.fn g)(hm:g.mode.isPure=true)(args:List ap) :
  aK f args=dO g.mode g.res (run code g.body ⟨(args.take g.np).map (fS [])++List.replicate (g.nenv-g.np) .any,[]⟩):=Ul h hm args
@[simp ↓] theorem amz(env ls:List ap)(σ:ay)(f:Nat)(args:List cP)(mat:Bool) :
  step code env ls σ (.call f args mat)=(cA code f (args.map (·.eval env ls)) σ).map (mater mat):=Sy fg env ls σ f args mat
@[simp ↓] theorem alw(env ls:List ap)(σ:ay)(f:cP)(args:List cP) :
  step code env ls σ (.callv f args)=(dS code (f.eval env ls) (args.map (·.eval env ls)) σ).map (mater false):=PP fg env ls σ f args
@[simp] theorem TK(f:Nat)(a c args:List ap)(σ:ay):dS code (.fn f a c) args σ=cA code f (a++args++c) σ:=rfl
attribute [simp ↓] akS aeV aiV Z6 YZ akh afr YT aff aeu ZT ak7 afF aeA afu ad1 aeg akm ag6 agY YM aj9 ae7 Yi VG XB Wl ajO afl aiJ ah0 aeR afx afj aeX aea aep akQ aaa YE ae6 aeW afI ak0 aiz
attribute [simp] fh AI lj gd FE Bn yZ G4 Zm eqb eqa isnil neg W5 Ml GA Ea aslice Fq Gz zi Iq Rv Vy MD BU Mn Vb Rc YB fresh yF sliceAt p7 VV gX uj yT cP.eval mK oX clear wanted bin Ip shift una kM nP rd loadAt storeAt results wF Kc iq Ww lN p5 acL JU fill tx
@[simp] theorem ad5(cs:List ap):aC (.agg cs)=cs.length:=rfl
@[simp] theorem afv(k:IntKind)(n:Int):aC (.int k n)=1:=rfl
@[simp] theorem abY(b:Bool):aC (.bool b)=1:=rfl
@[simp] theorem aeB(s:List UInt8):aC (.str s)=1:=rfl
@[simp] theorem ad0(b:Bool)(xs:List ap):aC (.aa b xs)=1:=rfl
@[simp] theorem aeL(xs:List ap):aC (.lst xs)=1:=rfl
@[simp] theorem aaE:aC .aj=1:=rfl
@[simp] theorem aa0:aC .nilp=1:=rfl
@[simp] theorem ab0:aC .nilf=1:=rfl
@[simp] theorem abV:aC .nilm=1:=rfl
@[simp] theorem afY(a b c d:Nat):aC (.sl a b c d)=1:=rfl
@[simp] theorem afq(a b c d:Nat):aC (.ptr a b c d)=1:=rfl
@[simp] theorem adg(b:Bool)(x:ap)(o:Nat):aC (.cptr b x o)=1:=rfl
@[simp] theorem agd(f:Nat)(a c:List ap):aC (.fn f a c)=1:=rfl
@[simp] theorem af0(i:Nat):aC (.mp i)=1:=rfl
@[simp] theorem acZ(b:Bool)(e:List (ap×ap)):aC (.imap b e)=1:=rfl
@[simp] theorem agf(cs:List ap):isAgg (.agg cs)=true:=rfl
@[simp] theorem af2(k:IntKind)(n:Int):isAgg (.int k n)=false:=rfl
@[simp] theorem aeQ(b:Bool):isAgg (.bool b)=false:=rfl
@[simp] theorem afW(s:List UInt8):isAgg (.str s)=false:=rfl
@[simp] theorem afU(b:Bool)(xs:List ap):isAgg (.aa b xs)=false:=rfl
@[simp] theorem afX(xs:List ap):isAgg (.lst xs)=false:=rfl
@[simp] theorem afn:isAgg .aj=false:=rfl
@[simp] theorem afh:isAgg .nilp=false:=rfl
@[simp] theorem ae0:isAgg .nilf=false:=rfl
@[simp] theorem afb:isAgg .nilm=false:=rfl
@[simp] theorem ahj(a b c d:Nat):isAgg (.sl a b c d)=false:=rfl
@[simp] theorem af1(a b c d:Nat):isAgg (.ptr a b c d)=false:=rfl
@[simp] theorem aew(b:Bool)(x:ap)(o:Nat):isAgg (.cptr b x o)=false:=rfl
@[simp] theorem aiL(f:Nat)(a c:List ap):isAgg (.fn f a c)=false:=rfl
@[simp] theorem akw(i:Nat):isAgg (.mp i)=false:=rfl
@[simp] theorem afc(b:Bool)(e:List (ap×ap)):isAgg (.imap b e)=false:=rfl
@[simp] theorem acF(cs:List ap):cellsOf (.agg cs)=cs:=rfl
@[simp] theorem adp(k:IntKind)(n:Int):cellsOf (.int k n)=[.int k n]:=rfl
@[simp] theorem YG(b:Bool):cellsOf (.bool b)=[.bool b]:=rfl
@[simp] theorem ab8(s:List UInt8):cellsOf (.str s)=[.str s]:=rfl
@[simp] theorem abW(b:Bool)(xs:List ap):cellsOf (.aa b xs)=[.aa b xs]:=rfl
@[simp] theorem aez(a b c d:Nat):cellsOf (.sl a b c d)=[.sl a b c d]:=rfl
@[simp] theorem ZC:cellsOf .aj=[.aj]:=rfl
@[simp] theorem afw(f:Nat)(a c:List ap):cellsOf (.fn f a c)=[.fn f a c]:=rfl
@[simp] theorem aa5(a b c d:Nat):cellsOf (.ptr a b c d)=[.ptr a b c d]:=rfl
@[simp] theorem Zx(b:Bool)(x:ap)(o:Nat):cellsOf (.cptr b x o)=[.cptr b x o]:=rfl
section
variable (fl top:Bool) (base:Nat) (σ:ay) (n:Nat)
@[simp] theorem amB(k:IntKind)(m:Int):fz fl top base σ (n+1) (.int k m)=.int k m:=by simp[fz]
@[simp] theorem alC(b:Bool):fz fl top base σ (n+1) (.bool b)=.bool b:=by simp[fz]
@[simp] theorem amM(s:List UInt8):fz fl top base σ (n+1) (.str s)=.str s:=by simp[fz]
@[simp] theorem alN:fz fl top base σ (n+1) .aj=if !fl&&top then .aj else .aa false []:=by simp[fz]
@[simp] theorem alO:fz fl top base σ (n+1) .nilp=.nilp:=by simp[fz]
@[simp] theorem amW:fz fl top base σ (n+1) .any=.any:=by simp[fz]
@[simp] theorem amE(b:Bool):fz fl top base σ (n+1) (.emp b)=.emp b:=by simp[fz]
@[simp] theorem amV(cs:List ap):fz fl top base σ (n+1) (.agg cs)=.agg (cs.map (fz fl top base σ n)):=by simp[fz]
@[simp] theorem amv(cs:List ap):fz fl top base σ (n+1) (.tup cs)=.tup (cs.map (fz fl top base σ n)):=by simp[fz]
@[simp] theorem amk(cs:List ap):fz fl top base σ (n+1) (.lst cs)=mb fl cs (cs.map (fz fl false base σ n)):=by simp[fz]
@[simp] theorem anc(f:Nat)(a c:List ap):fz fl top base σ (n+1) (.fn f a c)=.fn f (a.map (fz fl top base σ n)) (c.map (fz fl top base σ n)):=by simp[fz]
@[simp] theorem Qx(xs:List ap):fz fl top base σ (n+1) (.aa false xs)=.aa false xs:=by simp[fz]
@[simp] theorem alA(b:Bool)(xs:List ap):fz true top base σ (n+1) (.aa b xs)=.aa b xs:=by simp[fz]
@[simp] theorem alD(b:Bool)(xs:List ap):fz fl true base σ (n+1) (.aa b xs)=.aa b xs:=by simp[fz]
@[simp] theorem WT(x:ap)(o:Nat):fz fl top base σ (n+1) (.cptr false x o)=.cptr false x o:=by simp[fz]
@[simp] theorem akA(x:ap)(o:Nat):fz true top base σ (n+1) (.cptr true x o)=jh true x (fz true false base σ n x) o:=by simp[fz]
@[simp] theorem ajE(x:ap)(o:Nat):fz false true base σ (n+1) (.cptr true x o)=jh true x (fz false true base σ n x) o:=by simp[fz]
@[simp] theorem ag7(x:List (ap×ap)):fz fl top base σ (n+1) (.imap false x)=.imap false x:=by simp[fz]
@[simp] theorem am9(id ep off len:Nat):fz fl top base σ (n+1) (.sl id ep off len)=if id<base then (if top then .sl id ep off len else .any) else (sliceAt σ id ep off len).elim .any fun l=>mb fl l (l.map (fz fl false base σ n)):=by simp only[fz]
@[simp] theorem amN(id ep i off:Nat):fz fl top base σ (n+1) (.ptr id ep i off)=if id<base then (if top then .ptr id ep i off else .any) else (p7 σ id ep i).elim .any fun x=>jh fl x (fz fl false base σ n x) off:=by simp only[fz]
@[simp] theorem ana(id:Nat):fz fl top base σ (n+1) (.mp id)=if id<base then (if top then .mp id else .any) else (gX σ id).elim .any fun es=>.imap fl (es.map fun e=>(e.1,fz fl false base σ n e.2)):=by simp only[fz]
end
attribute [simp] mb jh RH Hf
@[simp] theorem aga(σ:ay)(v:ap):lz σ v=fz false false 0 σ 20 v:=rfl
@[simp] theorem po(σ:ay)(v:ap):fS σ v=fz true false 0 σ 20 v:=rfl
@[simp] theorem agi(b:Nat)(σ:ay)(v:ap):ec b σ v=fz false true b σ 20 v:=rfl
@[simp] theorem Yc(k:IntKind)(n:Int)(σ:ay):mater false (.int k n,σ)=(.int k n,σ):=rfl
attribute [simp] mater sx
theorem fj{n:Int}(h:-9223372036854775808≤n∧n<9223372036854775808):IntKind.i64.wrap n=n:=by
 simp[IntKind.wrap,IntKind.bits,IntKind.signed];omega
end Go.AM
namespace Go.AM
theorem cL{base:Nat}{clr:List Nat}{b:az}(I:Nat→St)(n:Nat)(r:Ex×St)
  (step:∀k,k<n→dK base clr b (run code b (I k))=cq code base clr b (I (k+1))) (last:dK base clr b (run code b (I n))=some r) :
  cq code base clr b (I 0)=some r:=by
 have key:∀m k,k+m=n→cq code base clr b (I k)=some r:=by
  intro m;induction m with
  |zero=>
   intro k hk;obtain rfl:k=n:=by omega
   rw[wr fg];exact last
  |succ m ih=>
   intro k hk;rw[wr fg];exact (step k (by omega)).trans (ih (k+1) (by omega))
 exact key n 0 (by omega)
@[simp] theorem ZY(base:Nat)(clr:List Nat)(b:az)(s:St):dK base clr b (some (.nrm,s))=cq code base clr b (aE base clr s):=rfl
@[simp] theorem Zc(base:Nat)(clr:List Nat)(b:az)(s:St)(i:Nat):dK base clr b (some (.ext i,s))=some (.ext i,s):=rfl
@[simp] theorem Zi(base:Nat)(clr:List Nat)(b:az)(s:St):dK base clr b (some (.ret,s))=some (.ret,s):=rfl
theorem bY{base:Nat}{clr:List Nat}{env:List ap}{σ:ay}(h:σ.length=base):aE base clr ⟨env,σ⟩=⟨clear env clr,σ⟩:=by
 unfold aE;rw[if_pos h]
theorem aX{k n:Nat}(h1:k<n)(h2:n≤most):IntKind.i64.wrap ((k:Int)+1)=((k+1:Nat):Int):=by
 rw[fj (by unfold most at h2;omega)];omega
end Go.AM
namespace Go.AM
open P
set_option maxHeartbeats 1000000
end Go.AM
namespace Go.AM
def vf(n:Int):ap:=.agg [.int .i64 2,.int .i64 n,.int .u64 0,.str []]
theorem Vd{n f:Nat}{args:List ap}{σ:ay}{r:ap×ay}(h:dl code n f args σ=some r):cA code f args σ=some r:=D1 (fw fg f args σ) h
theorem fA{n f:Nat}{args:List ap}{v:ap}{σ:ay}(h:dl code n f args []=some (v,σ)):aK f args=some v:=by
 unfold aK;rw[Vd h];rfl
theorem Ug(n:Int):dl code 60 I.qgi [.aa false [vf n]] []=some (.bool true,[]):=by kernel_rfl
theorem WI(n m:Int):dl code 60 I.qgi [.aa false [vf n,vf m]] []=some (.bool true,[]):=by kernel_rfl
theorem W6(n:Int):dl code 60 I.qgu [.aa false [vf n]] []=some (.frs 4 [vf n],[]):=by kernel_rfl
theorem V9(n m:Int):dl code 60 I.qgu [.aa false [vf n,vf m]] []=some (.frs 4 [vf n,vf m],[]):=by kernel_rfl
end Go.AM
namespace Go.AM
open P
set_option maxRecDepth 100000
set_option maxHeartbeats 4000000
end Go.AM
namespace Go.AM
def aV{α σ ρ:Type}(g:Nat→α→σ→σ⊕ρ):List α→Nat→σ→σ⊕ρ
 |[],_,s=>.inl s
 |a::l,k,s=>match g k a s with
  |.inl s'=>aV g l (k+1) s'
  |.inr r=>.inr r
theorem cg(base:Nat)(clr:List Nat)(b:az)(s:St):cq code base clr b s=dK base clr b (run code b s):=wr fg base clr b s
theorem cT{α σ ρ:Type}{base:Nat}{clr:List Nat}{b:az}(l:List α)(S:Nat→σ→St)(uL:Nat→σ→Prop)(g:Nat→α→σ→σ⊕ρ)(E:σ→Ex×St)(Q:ρ→Ex×St→Prop)
  (hstep:∀k y s,k<l.length→l[k]?=some y→uL k s→match g k y s with
   |.inl s'=>dK base clr b (run code b (S k s))=cq code base clr b (S (k+1) s')∧uL (k+1) s'
   |.inr r=>∃o,dK base clr b (run code b (S k s))=some o∧Q r o)
  (hend:∀s,uL l.length s→dK base clr b (run code b (S l.length s))=some (E s)) (s:σ) (h:uL 0 s) :
  match aV g l 0 s with
   |.inl s'=>uL l.length s'∧cq code base clr b (S 0 s)=some (E s')
   |.inr r=>∃o,cq code base clr b (S 0 s)=some o∧Q r o:=by
 have key:∀(m:List α) k s,l.drop k=m→k≤l.length→uL k s→match aV g m k s with
   |.inl s'=>uL l.length s'∧cq code base clr b (S k s)=some (E s')
   |.inr r=>∃o,cq code base clr b (S k s)=some o∧Q r o:=by
  intro m;induction m with
  |nil=>
   intro k s hd hk hi;have:k=l.length:=by
    have:=congrArg List.length hd;simp at this;omega
   subst this;simp only[aV];exact⟨hi,by rw[cg];exact hend s hi⟩
  |cons y m ih=>
   intro k s hd hk hi;have ak:k<l.length:=by
    have:=congrArg List.length hd;simp at this;omega
   have hy:l[k]?=some y:=by
    have:=congrArg (·[0]?) hd;simpa using this
   have hm:l.drop (k+1)=m:=by
    have:=congrArg List.tail hd;simpa [dD] using this
   have hs:=hstep k y s ak hy hi;rw[cg];simp only[aV];cases hg:g k y s with
   |inl s'=>
    rw[hg]at hs;simp only at hs ⊢;rw[hs.1];exact ih (k+1) s' hm (by omega) hs.2
   |inr r=>
    rw[hg]at hs;exact hs
 exact key l 0 s (by simp) (bP _) h
theorem lD{α:Type}{base:Nat}{clr:List Nat}{b:az}(l:List α)(S:Nat→St)(p:α→Bool)(E:Ex×St)(Q:Ex×St→Prop)
  (hno:∀k y,k<l.length→l[k]?=some y→p y=false→dK base clr b (run code b (S k))=cq code base clr b (S (k+1)))
  (hyes:∀k y,k<l.length→l[k]?=some y→p y=true→∃o,dK base clr b (run code b (S k))=some o∧Q o)
  (hend:dK base clr b (run code b (S l.length))=some E) :
  (l.any p=false∧cq code base clr b (S 0)=some E)∨(l.any p=true∧∃o,cq code base clr b (S 0)=some o∧Q o):=by
 have h:=cT (σ:=Unit) (ρ:=Unit) (base:=base) (clr:=clr) (b:=b) l (fun k _=>S k) (fun _ _=>True) (fun _ y _=>if p y then .inr () else .inl ()) (fun _=>E) (fun _=>Q)
  (fun k y s hk hy _=>by
   cases hp:p y
   ·simpa using hno k y hk hy hp
   simpa using hyes k y hk hy hp) (fun _ _=>hend) () trivial
 have hf:∀(m:List α) k,aV (fun _ y _=>if p y then .inr () else .inl ()) m k ()=if m.any p then .inr () else (.inl ():Unit⊕Unit):=by
  intro m;induction m with
  |nil=>intro k;rfl
  |cons a m ih=>
   intro k;cases hp:p a<;>simp[aV,hp,ih]
 rw[hf]at h;cases hp:l.any p
 ·rw[hp]at h;exact .inl ⟨rfl,h.2⟩
 rw[hp]at h;exact .inr ⟨rfl,h⟩
theorem Pf{α β:Type}{base:Nat}{clr:List Nat}{b:az}(l:List α)(S:Nat→Nat→List β→St)(f:α→List β)(E:Nat→List β→Ex×St)(m:Nat)
  (hm:∀y∈l,(f y).length≤m)
  (hstep:∀k y ep acc,k<l.length→l[k]?=some y→acc.length≤k*m→∃ep',dK base clr b (run code b (S k ep acc))=cq code base clr b (S (k+1) ep' (acc++f y)))
  (hend:∀ep acc,acc.length≤l.length*m→dK base clr b (run code b (S l.length ep acc))=some (E ep acc)) (ep0:Nat) :
  ∃ep,cq code base clr b (S 0 ep0 [])=some (E ep (l.flatMap f)):=by
 have key:∀(r:List α) k ep acc,l.drop k=r→k≤l.length→acc.length≤k*m→∃ep',cq code base clr b (S k ep acc)=some (E ep' (acc++r.flatMap f)):=by
  intro r;induction r with
  |nil=>
   intro k ep acc hd hk ha;have:k=l.length:=by
    have:=congrArg List.length hd;simp at this;omega
   subst this;exact⟨ep,by rw[cg,hend ep acc ha];simp⟩
  |cons y r ih=>
   intro k ep acc hd hk ha;have ak:k<l.length:=by
    have:=congrArg List.length hd;simp at this;omega
   have hy:l[k]?=some y:=by
    have:=congrArg (·[0]?) hd;simpa using this
   have hr:l.drop (k+1)=r:=by
    have:=congrArg List.tail hd;simpa [dD] using this
   obtain⟨ep',hs⟩:=hstep k y ep acc ak hy ha;have hym:y∈l:=aw hy
   obtain⟨e2,h2⟩:=ih (k+1) ep' (acc++f y) hr (by omega) (by
    rw[bV,Nat.succ_mul];have:=hm y hym;omega)
   exact⟨e2,by rw[cg,hs,h2];simp⟩
 have:=key l 0 ep0 [] (by simp) (bP _) (by simp);simpa using this
end Go.AM
namespace Go.AM
theorem ea{α σ:Type}{base:Nat}{clr:List Nat}{b:az}(l:List α)(S:Nat→σ→St)(uL:Nat→σ→Prop)(g:σ→α→σ)(E:σ→Ex×St)
  (hstep:∀k y s,k<l.length→l[k]?=some y→uL k s→dK base clr b (run code b (S k s))=cq code base clr b (S (k+1) (g s y))∧uL (k+1) (g s y))
  (hend:∀s,uL l.length s→dK base clr b (run code b (S l.length s))=some (E s)) (s:σ) (h:uL 0 s) :
  cq code base clr b (S 0 s)=some (E (l.foldl g s))∧uL l.length (l.foldl g s):=by
 have:=cT (ρ:=Empty) (base:=base) (clr:=clr) (b:=b) l S uL (fun _ y s=>.inl (g s y)) E (fun r _=>r.elim) (fun k y s hk hy hi=>hstep k y s hk hy hi) hend s h;have hf:∀(m:List α) k s,aV (ρ:=Empty) (fun _ y s=>.inl (g s y)) m k s=.inl (m.foldl g s):=by
  intro m;induction m with
  |nil=>intro k s;rfl
  |cons a m ih=>intro k s;simp only[aV,eG];exact ih _ _
 rw[hf]at this;exact⟨this.2,this.1⟩
end Go.AM
namespace Go.AM
open P
set_option maxHeartbeats 2000000
def ajn(n m:Int):Int:=if n<m then -1 else if m<n then 1 else 0
theorem HP(n:Int):aK I.qat [.int .i64 n]=some (.bool false):=by
 rw[aA aiw rfl];simp[apT,acT]
theorem SX(n m:Int):aK I.qao [.int .i64 n,.int .i64 m]=some (.int .i64 (ajn n m)):=by
 rw[aA aiP rfl];unfold ajn;by_cases h1:n<m
 ·simp[ao5,R0,HP,h1]
 by_cases h2:m<n
 ·simp[ao5,R0,HP,h1,h2]
 simp[ao5,R0,HP,h1,h2]
theorem dq(base:Nat)(clr:List Nat)(b:az)(s:St):cq code base clr b s=dK base clr b (run code b s):=wr fg base clr b s
end Go.AM
namespace Go.AM
open P
set_option maxHeartbeats 2000000
set_option maxRecDepth 4000
theorem rx{g:aS}(hm:g.mode.isPure=true)(args:List ap)(σ:ay):iH code g args σ=((iH code g (args.map (fS σ)) []).map (·.1)).map (·,σ):=by
 unfold iH;have he:enter g args σ=enter g (args.map (fS σ)) []:=by
  have h1:((args.map (fS σ)).take g.np).map (fS [])=(args.take g.np).map (fS σ):=by
   rw[←List.map_take,cE];exact bx fun x _=>pJ σ [] x
  unfold enter;cases hg:g.mode<;>rw[hg]at hm<;>first|exact absurd hm (by decide)|(simp only[h1])
 rw[he];cases run code g.body (enter g (args.map (fS σ)) []) with
 |none=>rfl
 |some r=>
  obtain⟨e,s⟩:=r;have key:(results s g.res).map (fun v=>iq g.mode σ s v)=(((results s g.res).map fun v=>iq g.mode [] s v).map (·.1)).map (·,σ):=by
   cases results s g.res with
   |none=>rfl
   |some v=>
    cases hg:g.mode<;>rw[hg]at hm<;>first|exact absurd hm (by decide)|rfl
  cases e with
  |ext _=>rfl
  |nrm=>exact key
  |ret=>exact key
theorem jj{f:Nat}{g:aS}(h:code.fns f=.nilfn g)(hm:g.mode.isPure=true)(b:Bool)(xs:List ap)(σ:ay) :
  cA code f [.aa b xs] σ=(aK f [.aa b xs]).map (·,σ):=by
 unfold aK;rw[eB fg h,eB fg h];have hE:gd σ (.aa b xs)=gd [] (.aa b xs):=by simp[gd,rd]
 rw[hE];have hk:∀(x:ap),(∀τ,fS τ x=x)→iH code g [x] σ=((iH code g [x] []).map (·.1)).map (·,σ):=fun x hx=>by
  have:=rx hm [x] σ;simpa only [bG,bh,hx] using this
 have hk0:∀(x:ap),(∀τ,fS τ x=x)→iH code g [x] []=((iH code g [x] []).map (·.1)).map (·,([]:ay)):=fun x hx=>by
  have:=rx hm [x] [];simpa only [bG,bh,hx] using this
 have h1:∀τ,fS τ (.aa b xs)=.aa b xs:=fun τ=>by simp
 have h2:∀t τ,fS τ (.emp t)=.emp t:=fun t τ=>by simp
 cases gd [] (.aa b xs) with
 |false=>simpa using hk _ h1
 |true=>
  simp only[cW];rw[hk _ (h2 true),hk _ (h2 false),hk0 _ (h2 true),hk0 _ (h2 false)];cases iH code g [.emp true] [] with
  |none=>rfl
  |some r=>cases iH code g [.emp false] [] with
   |none=>rfl
   |some q=>
    simp only[dd,bM,xv,Bool.and_true];split<;>rfl
def Plain(v:ap):Prop:=aC v=4∧isAgg v=true∧∀fl top base σ n,fz fl top base σ (n+2) v=v
theorem xN(n:Int):Plain (vf n):=⟨rfl,rfl,fun fl top base σ n=>by simp[vf]⟩
structure Lf (r:List ap):Prop where
 vals:∀v∈r,Plain v
 clone:aK I.qgu [.aa false r]=some (.frs 4 r)
 right:aK I.qgi [.aa false r]=some (.bool true)
theorem ZI(n:Int):Lf [vf n]:=⟨fun v hv=>by rw[ce.1 hv];exact xN n,fA (W6 n),fA (Ug n)⟩
theorem ZJ(n m:Int):Lf [vf n,vf m]:=⟨fun v hv=>by rcases dz.1 hv with rfl|hv;exact xN _;rw[ce.1 hv];exact xN _,fA (V9 n m),fA (WI n m)⟩
theorem TT{r:List ap}(h:∀v∈r,Plain v)(fl top:Bool)(base:Nat)(σ:ay)(n:Nat):r.map (fz fl top base σ (n+2))=r:=by
 conv=>rhs;rw[←List.map_id r]
 exact bx fun v hv=>(h v hv).2.2 fl top base σ n
def gp(rs:List (List ap)):List ap:=rs.map (.aa false)
@[simp] theorem YR(rs:List (List ap)):(gp rs).length=rs.length:=by simp[gp]
theorem S6{rs:List (List ap)}{k:Nat}(h:k<rs.length):(gp rs)[k]?=some (.aa false rs[k]):=by simp[gp,h]
theorem NU{rs:List (List ap)}{k:Nat}(h:k<rs.length):gp (rs.take (k+1))=gp (rs.take k)++[.aa false rs[k]]:=by
 unfold gp;rw[cw h,dy];rfl
@[simp] theorem zj(rs:List (List ap)):(gp rs).map aC=List.replicate rs.length 1:=by
 simp only[gp,cE];rw[jz];exact⟨by simp,fun x hx=>by simp at hx;obtain⟨_,_,rfl⟩:=hx;rfl⟩
theorem vR(rs:List (List ap))(top:Bool)(base:Nat)(σ:ay)(n:Nat):(gp rs).map (fz false top base σ (n+1))=gp rs:=by
 unfold gp;rw[cE];exact bx fun r _=>by simp
theorem Wv{r:List ap}(h:∀v∈r,Plain v)(fl top:Bool)(base:Nat)(σ:ay)(n:Nat):(∀a,a∈r→aC (fz fl top base σ (n+2) a)=aC a)↔True:=
 ⟨fun _=>trivial,fun _ a ha=>by rw[(h a ha).2.2]⟩
theorem uk(rs:List (List ap))(base:Nat)(σ:ay):(gp rs).map (ec base σ)=gp rs:=by
 unfold gp;rw[cE];exact bx fun r _=>by simp[ec,iB]
theorem So(rs:List (List ap))(base:Nat)(σ:ay):(gp rs).map (aC∘ec base σ)=List.replicate rs.length 1:=by
 rw[←List.map_map,uk,zj]
theorem Pi(rs:List (List ap))(id ep:Nat)(σ:ay)(h:σ[id]?=some (.arr 1 ep (gp rs))):kB 1 σ (.sl id ep 0 rs.length)=.frs 1 (gp rs):=by
 have h8:=fun σ'=>vR rs false 0 σ' 19;have h9:(gp rs).take rs.length=gp rs:=av (by simp);have h10:∀σ',(gp rs).map (lz σ')=gp rs:=fun σ'=>h8 σ';simp only[kB,h,h9,h10,Hf];simp
theorem KJ{b:Bool}{rs:List (List ap)}(hn:rs.length≤most)(hr:∀r∈rs,Lf r):aK I.qgc [.aa b (gp rs)]=some (.frs 1 (gp rs)):=by
 rw[aA ah6 rfl];have hloop:=cL (base:=1) (clr:=[3,7]) (b:=CQ) (fun k=>⟨[.aa b (gp rs),.aj,.sl 0 k 0 k,.any,.aa b (gp rs),.int .i64 rs.length,.int .i64 k,.any],[.arr 1 k (gp (rs.take k))]⟩) rs.length
  (.ext 0,⟨[.aa b (gp rs),.aj,.sl 0 rs.length 0 rs.length,.any,.aa b (gp rs),.int .i64 rs.length,.int .i64 rs.length,.bool false],[.arr 1 rs.length (gp rs)]⟩)
  (fun k hk=>by
   have h1:=S6 hk;have h2:=hr rs[k] (aF hk);have hlt:((k:Int)<(rs.length:Int)):=by omega
   have h3:=jj uM rfl false rs[k] [.arr 1 k (gp (rs.take k))];rw[h2.clone]at h3;have h4:min k rs.length=k:=by omega
   have h5:k+1≤most:=by omega
   have h6:=NU hk;have h7:=TT h2.vals;have h7':=Wv h2.vals false false 1;have h9:(gp (rs.take k)).take k=gp (rs.take k):=av (by simp;omega);have h8:=fun top base σ n=>vR (rs.take k) top base σ n;have h10:=uk (rs.take k) 1;have h11:=So (rs.take k) 1;simp[CQ,h1,hlt,h3,h4,h5,h6,h7,h7',h8,h9,h10,h11,append,aX hk hn,aE,aH])
  (by simp[CQ])
 simp[aqP,adH];simp[show gp []=[] from rfl]at hloop;rw[hloop];simp;exact Pi rs 0 _ _ rfl
end Go.AM
namespace Go.AM
structure Aq {α:Type} (c:α→α→Int):Prop where
 anti:∀x y,c x y<0↔0<c y x
 tr:∀x y z,c x y≤0→c y z≤0→c x z≤0
namespace Aq
variable {α:Type} {c d:α→α→Int}
theorem self(h:Aq c)(x:α):c x x=0:=by have:=h.anti x x;omega
theorem lt_le(h:Aq c){x y z:α}(h1:c x y<0)(h2:c y z≤0):c x z<0:=by
 have a1:=h.anti x z;have a2:=h.anti x y;have a3:=h.tr y z x h2;omega
theorem le_lt(h:Aq c){x y z:α}(h1:c x y≤0)(h2:c y z<0):c x z<0:=by
 have a1:=h.anti x z;have a2:=h.anti y z;have a3:=h.tr z x y;omega
theorem zero(h:Aq c){x y:α}:c x y=0↔c y x=0:=by
 have:=h.anti x y;have:=h.anti y x;omega
end Aq
def lex(a b:Int):Int:=if a≠0 then a else b
theorem Aq.lex{α:Type}{c d:α→α→Int}(hc:Aq c)(hd:Aq d):Aq fun x y=>lex (c x y) (d x y) where
 anti x y:=by
  have h1:=hc.anti x y;have h2:=hc.anti y x;have h3:=hd.anti x y;unfold Go.AM.lex;split<;>split<;>omega
 tr x y z h1 h2:=by
  unfold Go.AM.lex at *;have a1:=fun h=>hc.lt_le (x:=x) (y:=y) (z:=z) h;have a2:=fun h h'=>hc.le_lt (x:=x) (y:=y) (z:=z) h h';have a3:=hc.tr x y z;have a4:=hd.tr x y z;have a5:=hc.anti x z;have a6:=hc.tr z y x;have a7:=hc.anti x y;have a8:=hc.anti y z;have a9:=hc.anti y x;have b1:=hc.anti z y;have b2:=hc.anti z x;split at h1<;>split at h2<;>split<;>omega
theorem Aq.on{α β:Type}{c:α→α→Int}(h:Aq c)(f:β→α):Aq fun x y=>c (f x) (f y):=⟨fun x y=>h.anti _ _,fun x y z=>h.tr _ _ _⟩
theorem Aq.neg{α:Type}{c:α→α→Int}(h:Aq c):Aq fun x y=>-c x y where
 anti x y:=by have:=h.anti y x;have:=h.anti x y;omega
 tr x y z h1 h2:=by
  have a1:=h.tr z y x;have a2:=h.anti x y;have a3:=h.anti y z;have a4:=h.anti x z;have a5:=h.anti y x;have a6:=h.anti z y;have a7:=h.anti z x;omega
def sw(n m:Int):Int:=if n<m then -1 else if m<n then 1 else 0
theorem zN:Aq sw where
 anti x y:=by
  unfold sw
  repeat' split
  all_goals omega
 tr x y z h1 h2:=by
  unfold sw at *
  repeat' split at h1
  all_goals repeat' split at h2
  all_goals repeat' split
  all_goals omega
theorem CY{n m:Int}(h:sw n m=0):n=m:=by
 unfold sw at h
 repeat' split at h
 all_goals omega
def yi(a b:List UInt8):Int:=if Op.bytesLess a b then -1 else if !(Op.bytesLess a b ||a==b) then 1 else 0
def oY:List UInt8→List UInt8→Int
 |[],[]=>0
 |[],_::_=>-1
 |_::_,[]=>1
 |a::x,b::y=>lex (sw a.toNat b.toNat) (oY x y)
theorem JJ:∀a b,yi a b=oY a b
 |[],[]=>rfl
 |[],_::_=>rfl
 |_::_,[]=>rfl
 |a::x,b::y=>by
  have ih:=JJ x y;unfold yi at ih ⊢;simp only[oY];unfold Go.AM.lex sw;have h1:(a<b)↔a.toNat < b.toNat:=UInt8.lt_iff_toNat_lt;have h2:(a==b)=decide (a.toNat=b.toNat):=by
   by_cases h:a=b
   ·subst h;simp
   have:a.toNat≠b.toNat:=fun e=>h (mA.1 e);simp[h,this]
  simp only[Op.bytesLess];by_cases c1:a.toNat < b.toNat
  ·simp[h1,c1]
  by_cases c2:b.toNat < a.toNat
  ·have c3:¬a.toNat=b.toNat:=by omega
   have c4:¬a=b:=fun e=>c3 (by rw[e]);simp[h1,h2,c1,c2,c3,c4]
  have c3:a.toNat=b.toNat:=by omega
  have c4:a=b:=mA.1 c3;subst c4;simp[h1];rw[←ih];simp
theorem T7:Aq oY where
 anti:=by
  intro x;induction x with
  |nil=>intro y;cases y<;>simp[oY]
  |cons a x ih=>
   intro y;cases y with
   |nil=>simp[oY]
   |cons b y=>
    have h1:=ih y;have h2:=zN.anti a.toNat b.toNat;have h3:=zN.anti b.toNat a.toNat;simp only[oY];unfold Go.AM.lex;split<;>split<;>omega
 tr:=by
  intro x;induction x with
  |nil=>intro y z _ _;cases z<;>simp[oY]
  |cons a x ih=>
   intro y z h1 h2;cases y with
   |nil=>simp[oY]at h1
   |cons b y=>
    cases z with
    |nil=>simp[oY]at h2
    |cons e z=>
     have a1:=ih y z;simp only[oY]at *;unfold Go.AM.lex sw at *
     repeat' split at h1
     all_goals repeat' split at h2
     all_goals repeat' split
     all_goals first|omega|(exact a1 h1 h2)|skip
theorem YX:Aq yi:=by
 have:yi=oY:=funext fun a=>funext fun b=>JJ a b;rw[this];exact T7
theorem DX:∀{a b:List UInt8},oY a b=0→a=b
 |[],[],_=>rfl
 |[],_::_,h=>by simp[oY]at h
 |_::_,[],h=>by simp[oY]at h
 |a::x,b::y,h=>by
  simp only[oY]at h;unfold Go.AM.lex at h;split at h
  ·exact absurd h (by assumption)
  rename_i h0;have h1:=CY (Decidable.not_not.1 h0);rw[mA.1 (by omega:a.toNat=b.toNat),DX h]
structure bW where
 k:Int
 n:Int
 u:Int
 s:List UInt8
 deriving DecidableEq,Inhabited
abbrev b8:=List bW
abbrev aQ:=List b8
def mI(a b:bW):Int:=lex (sw a.k b.k) (lex (sw a.n b.n) (lex (sw a.u b.u) (yi a.s b.s)))
theorem lH:Aq mI:=(zN.on bW.k).lex ((zN.on bW.n).lex ((zN.on bW.u).lex (YX.on bW.s)))
theorem sX{a b:Int}(h:lex a b=0):a=0∧b=0:=by unfold lex at h;split at h<;>omega
theorem Tm{a b:bW}(h:mI a b=0):a=b:=by
 obtain⟨h1,h⟩:=sX h;obtain⟨h2,h⟩:=sX h;obtain⟨h3,h4⟩:=sX h;cases a;cases b;rw[JJ]at h4;rw[bW.mk.injEq];exact⟨CY h1,CY h2,CY h3,DX h4⟩
theorem yl(a b:Int):-1≤sw a b∧sw a b≤1:=by
 unfold sw
 repeat' split
 all_goals omega
theorem Ou(a b:List UInt8):-1≤yi a b∧yi a b≤1:=by
 unfold yi
 repeat' split
 all_goals omega
theorem pL{a b:Int}(h:-1≤a∧a≤1)(h':-1≤b∧b≤1):-1≤lex a b∧lex a b≤1:=by unfold lex;split<;>omega
theorem xz(a b:bW):-1≤mI a b∧mI a b≤1:=pL (yl _ _) (pL (yl _ _) (pL (yl _ _) (Ou _ _)))
def ez:List bW→List bW→Int
 |[],[]=>0
 |[],_::_=>-1
 |_::_,[]=>1
 |a::x,b::y=>lex (mI a b) (ez x y)
theorem qR:∀a b,-1≤ez a b∧ez a b≤1
 |[],[]=>by simp[ez]
 |[],_::_=>by simp[ez]
 |_::_,[]=>by simp[ez]
 |a::x,b::y=>pL (xz a b) (qR x y)
theorem sU:∀{a b:List bW},ez a b=0→a=b
 |[],[],_=>rfl
 |[],_::_,h=>by simp[ez]at h
 |_::_,[],h=>by simp[ez]at h
 |a::x,b::y,h=>by
  obtain⟨h1,h2⟩:=sX h;rw[Tm h1,sU h2]
theorem pA:Aq ez where
 anti:=by
  intro x;induction x with
  |nil=>intro y;cases y<;>simp[ez]
  |cons a x ih=>
   intro y;cases y with
   |nil=>simp[ez]
   |cons b y=>
    have h1:=ih y;have h2:=lH.anti a b;have h3:=lH.anti b a;simp only[ez];unfold Go.AM.lex;split<;>split<;>omega
 tr:=by
  intro x;induction x with
  |nil=>intro y z _ _;cases z<;>simp[ez]
  |cons a x ih=>
   intro y z h1 h2;cases y with
   |nil=>simp[ez]at h1
   |cons b y=>
    cases z with
    |nil=>simp[ez]at h2
    |cons e z=>
     have a1:=ih y z;have b1:=lH.tr a b e;have b2:=fun h=>lH.lt_le (x:=a) (y:=b) (z:=e) h;have b3:=fun h h'=>lH.le_lt (x:=a) (y:=b) (z:=e) h h';have b4:=lH.tr e b a;have b5:=lH.anti a b;have b6:=lH.anti b e;have b7:=lH.anti a e;have c5:=lH.anti b a;have c6:=lH.anti e b;have c7:=lH.anti e a;simp only[ez]at *;unfold Go.AM.lex at *;split at h1<;>split at h2<;>split<;>first|omega|(exact a1 h1 h2)
section
variable {α:Type} (c:α→α→Int)
def IJ(x:α):List α→List α
 |[]=>[x]
 |y::r=>if c x y≤0 then x::y::r else y::IJ x r
def dL:List α→List α
 |[]=>[]
 |x::r=>IJ c x (dL r)
variable {c}
theorem Bc(x:α):∀l,(IJ c x l).Perm (x::l)
 |[]=>mZ _
 |y::r=>by
  unfold IJ;split
  ·exact mZ _
  exact ((Bc x r).cons y).trans (List.Perm.swap x y r)
theorem kA:∀l:List α,(dL c l).Perm l
 |[]=>mZ _
 |x::r=>(Bc x _).trans ((kA r).cons x)
theorem B1(h:Aq c)(x:α):∀l,l.Pairwise (fun a b=>c a b≤0)→(IJ c x l).Pairwise fun a b=>c a b≤0
 |[],_=>by simp[IJ]
 |y::r,hl=>by
  have hp:=ek.1 hl;unfold IJ;split
  ·rename_i hle;exact ek.2 ⟨fun z hz=>by
    rcases dz.1 hz with rfl|hz
    ·exact hle
    exact h.tr _ _ _ hle (hp.1 z hz),hl⟩
  rename_i hle;refine ek.2 ⟨fun z hz=>?_,B1 h x r hp.2⟩;rcases dz.1 ((Bc x r).mem_iff.1 hz) with rfl|hz
  ·have:=h.anti y z;have:=h.anti z y;omega
  exact hp.1 z hz
theorem tn(h:Aq c):∀l:List α,(dL c l).Pairwise fun a b=>c a b≤0
 |[]=>by simp[dL]
 |x::r=>B1 h x _ (tn h r)
theorem xp(hz:∀a b,c a b=0→a=b)(h:Aq c):∀{l m:List α},l.Pairwise (fun a b=>c a b≤0)→m.Pairwise (fun a b=>c a b≤0)→l.Perm m→l=m
 |[],m,_,_,hp=>(List.nil_perm.1 hp).symm
 |x::l,[],_,_,hp=>absurd (List.perm_nil.1 hp) (by simp)
 |x::l,y::m,h1,h2,hp=>by
  have p1:=ek.1 h1;have p2:=ek.1 h2;have hxy:x=y:=by
   have hx:x∈y::m:=hp.mem_iff.1 (cr ..);have hy:y∈x::l:=hp.mem_iff.2 (cr ..);rcases dz.1 hx with e|hx
   ·exact e
   rcases dz.1 hy with e|hy
   ·exact e.symm
   have a1:=p2.1 x hx;have a2:=p1.1 y hy;have:=h.anti x y;have:=h.anti y x;exact hz x y (by omega)
  subst hxy;rw[xp hz h p1.2 p2.2 (List.Perm.cons_inv hp)]
def J7(limit:Int)(l:List α):List α:=if 0≤limit then l.take limit.toNat else l
end
end Go.AM
namespace Go.AM
open P
set_option maxHeartbeats 2000000
set_option maxRecDepth 4000
def bW.a(v:bW):ap:=.agg [.int .i64 v.k,.int .i64 v.n,.int .u64 v.u,.str v.s]
def da(r:b8):List ap:=r.map bW.a
def cI(b:Bool)(rs:aQ):List ap:=rs.map fun r=>.aa b (da r)
@[simp] theorem abS(r:b8):(da r).length=r.length:=by simp[da]
@[simp] theorem Zb(b:Bool)(rs:aQ):(cI b rs).length=rs.length:=by simp[cI]
theorem pY{r:b8}{k:Nat}(h:k<r.length):(da r)[k]?=some r[k].a:=by simp[da,h]
theorem wO{b:Bool}{rs:aQ}{k:Nat}(h:k<rs.length):(cI b rs)[k]?=some (.aa b (da rs[k])):=by simp[cI,h]
@[simp] theorem aiR(v:bW):aC v.a=4:=rfl
@[simp] theorem aly(v:bW):isAgg v.a=true:=rfl
@[simp] theorem ad6(v:bW)(fl top:Bool)(base:Nat)(σ:ay)(n:Nat):fz fl top base σ (n+2) v.a=v.a:=by simp[bW.a]
def vl(v:bW):bW:=
 if v.k=1 then (if v.n≠0∧v.n≠1 then v else { v with k:=0,n:=0 })
 else if v.k=2 then { v with k:=0,n:=0 }
 else if v.k=0 then v
 else if v.k=3 then (if v.s.length≤40 then { v with k:=0,s:=[] } else v)
 else if v.k=4 then { v with k:=0,n:=0,u:=0 }
 else v
def oC(v:bW):Bool:=vl v == ⟨0,0,0,[]⟩
theorem eo{a b:Int}(h:¬a=b):(a != b)=true:=by simp[h]
theorem bE{a b:Int}(h:¬a=b):(a==b)=false:=by simp[h]
theorem NE(v:bW):aK I.qip [v.a]=some (vl v).a:=by
 rw[aA agU rfl];obtain⟨k,n,u,s⟩:=v;unfold vl bW.a;by_cases h1:k=1
 ·subst h1;by_cases hn:n=0
  ·subst hn;simp[aoi,xn]
  by_cases hn':n=1
  ·subst hn';simp[aoi,xn]
  simp[aoi,xn,eo hn,eo hn',hn,hn']
 by_cases h2:k=2
 ·subst h2;simp[aoi,xn]
 by_cases h0:k=0
 ·subst h0;simp[aoi,xn]
 by_cases h3:k=3
 ·subst h3;by_cases hs:s.length≤40
  ·have hs':((s.length:Int)≤40):=by omega
   simp[aoi,xn,hs,hs']
  have hs':¬((s.length:Int)≤40):=by omega
  simp[aoi,xn,hs,hs']
 by_cases h4:k=4
 ·subst h4;simp[aoi,xn]
 simp[aoi,xn,bE h1,bE h2,bE h0,bE h3,bE h4,h1,h2,h0,h3,h4]
theorem uZ(k n u:Int)(s:List UInt8):(bW.mk k n u s).a=.agg [.int .i64 k,.int .i64 n,.int .u64 u,.str s]:=rfl
theorem nX(v:bW):aK I.qib [v.a]=some (.int .i64 (if oC v then 0 else 120)):=by
 rw[aA agE rfl];have h:=NE v;unfold oC;generalize hb:vl v=w at h;obtain⟨k,n,u,s⟩:=w;by_cases hk:k=0
 ·by_cases hn:n=0
  ·by_cases hu:u=0
   ·by_cases hs:s=[]
    ·subst hk hn hu hs;simp[aov,GT,h,uZ]
    have hs':(s==[])=false:=by simp[hs]
    subst hk hn hu;simp[aov,GT,h,uZ,hs,hs']
   subst hk hn;simp[aov,GT,h,uZ,hu,bE hu]
  subst hk;simp[aov,GT,h,uZ,hn,bE hn]
 simp[aov,GT,h,uZ,hk,bE hk]
theorem Xr(v:bW):aK I.qgj [v.a]=some (.bool (!oC v)):=by
 rw[aA aj2 rfl];have h:=nX v;cases hv:oC v<;>rw[hv]at h<;>simp[aqx,acu,h]
def Cx(p:ap→Bool)(xs:List ap):Int:=if xs.any p then (xs.findIdx p:Int) else -1
theorem qL{p:ap→Bool}{xs:List ap}{k:Nat}(h:k<xs.findIdx p)(hk:k<xs.length):p xs[k]=false:=by
 simpa using eD h
theorem WY{b:Bool}{xs:List ap}{f:ap}{p:ap→Bool}(hn:xs.length≤most)(hx:∀x∈xs,aC x=4∧isAgg x=true)(hfs:fz true false 0 [] 20 f=f)
  (hf:∀x∈xs,dS code f [x] []=some (.bool (p x),[])):aK I.qhr [.aa b xs,f]=some (.int .i64 (Cx p xs)):=by
 rw[aA aia rfl];have hstep:∀k,k<xs.length→p xs[k]! = false→dK 0 [2,3,6,7] pg (run code pg ⟨[.aa b xs,f,.any,.any,.int .i64 xs.length,.int .i64 k,.any,.any],[]⟩) =
   cq code 0 [2,3,6,7] pg ⟨[.aa b xs,f,.any,.any,.int .i64 xs.length,.int .i64 (k+1:Nat),.any,.any],[]⟩:=fun k hk hp=>by
  have h1:xs[k]?=some xs[k]:=by simp[hk]
  have h2:=hx xs[k] (aF hk);have h3:=hf xs[k] (aF hk);rw[show p xs[k]=false by simpa [hk] using hp]at h3;have hlt:((k:Int)<(xs.length:Int)):=by omega
  simp[pg,h1,h2,h3,hlt,aX hk hn,bY]
 by_cases ha:xs.any p=true
 ·have hlt:=cU (d4.1 ha);have hp:p xs[xs.findIdx p]=true:=dZ (w:=hlt);have hloop:=cL (base:=0) (clr:=[2,3,6,7]) (b:=pg) (fun k=>⟨[.aa b xs,f,.any,.any,.int .i64 xs.length,.int .i64 k,.any,.any],[]⟩) (xs.findIdx p)
   (.ret,⟨[.aa b xs,f,.int .i64 (xs.findIdx p),.int .i64 (xs.findIdx p),.int .i64 xs.length,.int .i64 (xs.findIdx p),.bool true,.bool true],[]⟩)
   (fun k hk=>hstep k (by omega) (by rw[getElem!_pos xs k (by omega)];exact qL hk (by omega)))
   (by
    have h1:xs[xs.findIdx p]?=some xs[xs.findIdx p]:=am hlt;have h2:=hx _ (aF hlt);have h3:=hf _ (aF hlt);rw[hp]at h3;have hlt':((xs.findIdx p:Int)<(xs.length:Int)):=by omega
    simp[pg,h1,h2,h3,hlt'])
  simp[apv,Uo,hfs];simp at hloop;rw[hloop];simp[Cx,ha]
 have hall:∀k (hk:k<xs.length),p xs[k]=false:=fun k hk=>by
  have:=bR.1 (eN _▸ha) xs[k] (aF hk);simpa using this
 have hloop:=cL (base:=0) (clr:=[2,3,6,7]) (b:=pg) (fun k=>⟨[.aa b xs,f,.any,.any,.int .i64 xs.length,.int .i64 k,.any,.any],[]⟩) xs.length
  (.ext 0,⟨[.aa b xs,f,.any,.any,.int .i64 xs.length,.int .i64 xs.length,.bool false,.any],[]⟩)
  (fun k hk=>hstep k hk (by rw[getElem!_pos xs k hk];exact hall k hk))
  (by simp[pg])
 simp[apv,Uo,hfs];simp at hloop;rw[hloop];simp[Cx,ha]
end Go.AM
namespace Go.AM
open P
set_option maxHeartbeats 2000000
set_option maxRecDepth 4000
theorem Wa{b:Bool}{xs:List ap}{f:ap}{p:ap→Bool}(hn:xs.length≤most)(hx:∀x∈xs,aC x=2∧isAgg x=true)(hfs:fz true false 0 [] 20 f=f)
  (hf:∀x∈xs,dS code f [x] []=some (.bool (p x),[])):aK I.qhp [.aa b xs,f]=some (.int .i64 (Cx p xs)):=by
 rw[aA acY rfl];have hstep:∀k,k<xs.length→p xs[k]! = false→dK 0 [2,3,6,7] jq (run code jq ⟨[.aa b xs,f,.any,.any,.int .i64 xs.length,.int .i64 k,.any,.any],[]⟩) =
   cq code 0 [2,3,6,7] jq ⟨[.aa b xs,f,.any,.any,.int .i64 xs.length,.int .i64 (k+1:Nat),.any,.any],[]⟩:=fun k hk hp=>by
  have h1:xs[k]?=some xs[k]:=by simp[hk]
  have h2:=hx xs[k] (aF hk);have h3:=hf xs[k] (aF hk);rw[show p xs[k]=false by simpa [hk] using hp]at h3;have hlt:((k:Int)<(xs.length:Int)):=by omega
  simp[jq,h1,h2,h3,hlt,aX hk hn,bY]
 by_cases ha:xs.any p=true
 ·have hlt:=cU (d4.1 ha);have hp:p xs[xs.findIdx p]=true:=dZ (w:=hlt);have hloop:=cL (base:=0) (clr:=[2,3,6,7]) (b:=jq) (fun k=>⟨[.aa b xs,f,.any,.any,.int .i64 xs.length,.int .i64 k,.any,.any],[]⟩) (xs.findIdx p)
   (.ret,⟨[.aa b xs,f,.int .i64 (xs.findIdx p),.int .i64 (xs.findIdx p),.int .i64 xs.length,.int .i64 (xs.findIdx p),.bool true,.bool true],[]⟩)
   (fun k hk=>hstep k (by omega) (by rw[getElem!_pos xs k (by omega)];exact qL hk (by omega)))
   (by
    have h1:xs[xs.findIdx p]?=some xs[xs.findIdx p]:=am hlt;have h2:=hx _ (aF hlt);have h3:=hf _ (aF hlt);rw[hp]at h3;have hlt':((xs.findIdx p:Int)<(xs.length:Int)):=by omega
    simp[jq,h1,h2,h3,hlt'])
  simp[aoJ,MQ,hfs];simp at hloop;rw[hloop];simp[Cx,ha]
 have hall:∀k (hk:k<xs.length),p xs[k]=false:=fun k hk=>by
  have:=bR.1 (eN _▸ha) xs[k] (aF hk);simpa using this
 have hloop:=cL (base:=0) (clr:=[2,3,6,7]) (b:=jq) (fun k=>⟨[.aa b xs,f,.any,.any,.int .i64 xs.length,.int .i64 k,.any,.any],[]⟩) xs.length
  (.ext 0,⟨[.aa b xs,f,.any,.any,.int .i64 xs.length,.int .i64 xs.length,.bool false,.any],[]⟩)
  (fun k hk=>hstep k hk (by rw[getElem!_pos xs k hk];exact hall k hk))
  (by simp[jq])
 simp[aoJ,MQ,hfs];simp at hloop;rw[hloop];simp[Cx,ha]
theorem T2{b:Bool}{xs:List ap}{f:ap}{p:ap→Bool}(hn:xs.length≤most)(hx:∀x∈xs,aC x=1∧isAgg x=false)(hfs:fz true false 0 [] 20 f=f)
  (hf:∀x∈xs,dS code f [x] []=some (.bool (p x),[])):aK I.qhq [.aa b xs,f]=some (.int .i64 (Cx p xs)):=by
 rw[aA abT rfl];have hstep:∀k,k<xs.length→p xs[k]! = false→dK 0 [2,3,6,7] jn (run code jn ⟨[.aa b xs,f,.any,.any,.int .i64 xs.length,.int .i64 k,.any,.any],[]⟩) =
   cq code 0 [2,3,6,7] jn ⟨[.aa b xs,f,.any,.any,.int .i64 xs.length,.int .i64 (k+1:Nat),.any,.any],[]⟩:=fun k hk hp=>by
  have h1:xs[k]?=some xs[k]:=by simp[hk]
  have h2:=hx xs[k] (aF hk);have h3:=hf xs[k] (aF hk);rw[show p xs[k]=false by simpa [hk] using hp]at h3;have hlt:((k:Int)<(xs.length:Int)):=by omega
  simp[jn,h1,h2,h3,hlt,aX hk hn,bY]
 by_cases ha:xs.any p=true
 ·have hlt:=cU (d4.1 ha);have hp:p xs[xs.findIdx p]=true:=dZ (w:=hlt);have hloop:=cL (base:=0) (clr:=[2,3,6,7]) (b:=jn) (fun k=>⟨[.aa b xs,f,.any,.any,.int .i64 xs.length,.int .i64 k,.any,.any],[]⟩) (xs.findIdx p)
   (.ret,⟨[.aa b xs,f,.int .i64 (xs.findIdx p),.int .i64 (xs.findIdx p),.int .i64 xs.length,.int .i64 (xs.findIdx p),.bool true,.bool true],[]⟩)
   (fun k hk=>hstep k (by omega) (by rw[getElem!_pos xs k (by omega)];exact qL hk (by omega)))
   (by
    have h1:xs[xs.findIdx p]?=some xs[xs.findIdx p]:=am hlt;have h2:=hx _ (aF hlt);have h3:=hf _ (aF hlt);rw[hp]at h3;have hlt':((xs.findIdx p:Int)<(xs.length:Int)):=by omega
    simp[jn,h1,h2,h3,hlt'])
  simp[aoD,KW,hfs];simp at hloop;rw[hloop];simp[Cx,ha]
 have hall:∀k (hk:k<xs.length),p xs[k]=false:=fun k hk=>by
  have:=bR.1 (eN _▸ha) xs[k] (aF hk);simpa using this
 have hloop:=cL (base:=0) (clr:=[2,3,6,7]) (b:=jn) (fun k=>⟨[.aa b xs,f,.any,.any,.int .i64 xs.length,.int .i64 k,.any,.any],[]⟩) xs.length
  (.ext 0,⟨[.aa b xs,f,.any,.any,.int .i64 xs.length,.int .i64 xs.length,.bool false,.any],[]⟩)
  (fun k hk=>hstep k hk (by rw[getElem!_pos xs k hk];exact hall k hk))
  (by simp[jn])
 simp[aoD,KW,hfs];simp at hloop;rw[hloop];simp[Cx,ha]
theorem LA{b:Bool}{xs:List ap}{f:ap}{p:ap→Bool}(hn:xs.length≤most)(hx:∀x∈xs,aC x=4∧isAgg x=true)(hfs:fz true false 0 [] 20 f=f)
  (hf:∀x∈xs,dS code f [x] []=some (.bool (p x),[])):aK I.qhf [.aa b xs,f]=some (.bool (xs.any p)):=by
 rw[aA aix rfl];have h:=WY (b:=b) hn hx hfs hf;simp[aqy,adV,h,hfs];unfold Cx;cases xs.any p
 ·simp
 simp
theorem Mm{b:Bool}{xs:List ap}{f:ap}{p:ap→Bool}(hn:xs.length≤most)(hx:∀x∈xs,aC x=2∧isAgg x=true)(hfs:fz true false 0 [] 20 f=f)
  (hf:∀x∈xs,dS code f [x] []=some (.bool (p x),[])):aK I.qhd [.aa b xs,f]=some (.bool (xs.any p)):=by
 rw[aA acw rfl];have h:=Wa (b:=b) hn hx hfs hf;simp[apm,XJ,h,hfs];unfold Cx;cases xs.any p
 ·simp
 simp
theorem BS{b:Bool}{xs:List ap}{f:ap}{p:ap→Bool}(hn:xs.length≤most)(hx:∀x∈xs,aC x=1∧isAgg x=false)(hfs:fz true false 0 [] 20 f=f)
  (hf:∀x∈xs,dS code f [x] []=some (.bool (p x),[])):aK I.qhe [.aa b xs,f]=some (.bool (xs.any p)):=by
 rw[aA aaA rfl];have h:=T2 (b:=b) hn hx hfs hf;simp[apF,Um,h,hfs];unfold Cx;cases xs.any p
 ·simp
 simp
def lc(r:b8):Bool:=decide (r.length≤16)&&r.all oC
def Qf:ap→bW
 |.agg [.int _ k,.int _ n,.int _ u,.str s]=>⟨k,n,u,s⟩
 |_=>default
def nB:ap→b8
 |.aa _ xs=>xs.map Qf
 |_=>[]
@[simp] theorem alF(v:bW):Qf v.a=v:=rfl
@[simp] theorem yO(b:Bool)(r:b8):nB (.aa b (da r))=r:=by simp[nB,da,fZ]
theorem rB{α:Type}(p:α→Bool)(l:List α):(!l.any fun x=>!p x)=l.all p:=by
 induction l with
 |nil=>rfl
 |cons a l ih=>simp[fW,eL,←ih]
theorem qE(b:Bool)(r:b8):aK I.qgi [.aa b (da r)]=some (.bool (lc r)):=by
 rw[aA agw rfl];unfold lc;by_cases h:r.length≤16
 ·have hi:((r.length:Int)≤16):=by omega
  have hc:=fun b=>LA (b:=b) (xs:=da r) (f:=.fn 260 [] []) (p:=fun x=>!oC (Qf x)) (by simp;unfold most;omega) (fun x hx=>by
    obtain⟨v,_,rfl⟩:=aU.1 hx;exact⟨rfl,rfl⟩) (by simp) (fun x hx=>by
    obtain⟨v,hv,rfl⟩:=aU.1 hx;have:=Xr v;simp[this])
  have e:(!(da r).any fun x=>!oC (Qf x))=r.all oC:=by
   rw[←rB,da,my];simp[fZ]
  simp[apR,WB,hi,hc,h,e]
 have hi:¬((r.length:Int)≤16):=by omega
 simp[apR,WB,h,hi]
theorem Gt(b:Bool)(r:b8):aK I.qfs [.aa b (da r)]=some (.int .i64 (if lc r then 0 else 150)):=by
 rw[aA ag8 rfl];have h:=fun b=>qE b r;cases hr:lc r<;>rw[hr]at h<;>simp[aqc,abN,h]
theorem K5(b:Bool)(r:b8):aK I.qbn [.aa b (da r)]=some (.bool (!lc r)):=by
 rw[aA ako rfl];have h:=fun b=>Gt b r;cases hr:lc r<;>rw[hr]at h<;>simp[aq9,aa3,h]
theorem Ch(b c:Bool)(rs:aQ)(hn:rs.length≤8000):aK I.qbm [.aa b (cI c rs)]=some (.bool (rs.all lc)):=by
 rw[aA akW rfl];have hi:((rs.length:Int)≤8000):=by omega
 have hc:=fun b=>BS (b:=b) (xs:=cI c rs) (f:=.fn 111 [] []) (p:=fun x=>!lc (nB x)) (by simp;unfold most;omega) (fun x hx=>by
   obtain⟨r,_,rfl⟩:=aU.1 hx;exact⟨rfl,rfl⟩) (by simp) (fun x hx=>by
   obtain⟨r,hr,rfl⟩:=aU.1 hx;have:=fun b=>K5 b r;simp[this])
 have e:(!(cI c rs).any fun x=>!lc (nB x))=rs.all lc:=by
  rw[←rB,cI,my];simp[fZ]
 simp[arj,aau,hi,hc,e]
theorem Pe(n:Int):aK I.qas [.int .i64 n]=some (.bool false):=by
 rw[aA ahF rfl];simp[aql,acC]
theorem PE(n:Int):aK I.qav [.int .u64 n]=some (.bool false):=by
 rw[aA ahn rfl];simp[arL,acz]
theorem Nk(s:List UInt8):aK I.qau [.str s]=some (.bool false):=by
 rw[aA akJ rfl];simp[aqv,abE,yr]
theorem GK(n m:Int):aK I.qan [.int .i64 n,.int .i64 m]=some (.int .i64 (sw n m)):=by
 rw[aA aiT rfl];unfold sw;by_cases h1:n<m
 ·simp[aoP,QI,Pe,h1]
 by_cases h2:m<n
 ·simp[aoP,QI,Pe,h1,h2]
 simp[aoP,QI,Pe,h1,h2]
theorem Hp(n m:Int):aK I.qao [.int .i64 n,.int .i64 m]=some (.int .i64 (sw n m)):=SX n m
theorem PC(n m:Int):aK I.qaq [.int .u64 n,.int .u64 m]=some (.int .i64 (sw n m)):=by
 rw[aA agR rfl];unfold sw;by_cases h1:n<m
 ·simp[ao7,Rt,PE,h1]
 by_cases h2:m<n
 ·simp[ao7,Rt,PE,h1,h2]
 simp[ao7,Rt,PE,h1,h2]
theorem Oc(a b:List UInt8):aK I.qap [.str a,.str b]=some (.int .i64 (yi a b)):=by
 rw[aA ak9 rfl];unfold yi;by_cases h1:Op.bytesLess a b=true
 ·simp[aoO,Qq,Nk,yr,h1]
 by_cases h2:a=b
 ·subst h2;have h4:Op.bytesLess a a=false:=by simpa using h1
  simp[aoO,Qq,Nk,yr,h4]
 have h3:(a==b)=false:=by simp[h2]
 simp[aoO,Qq,Nk,yr,h1,h3,h2]
theorem Or4(b:Bool)(a c d e:Int):aK I.qar [.aa b [.int .i64 a,.int .i64 c,.int .i64 d,.int .i64 e]]=some (.int .i64 (lex a (lex c (lex d e)))):=by
 rw[aA WH rfl];unfold lex;by_cases ha:a=0
 ·by_cases hc:c=0
  ·by_cases hd:d=0
   ·by_cases he:e=0
    ·subst ha hc hd he;simp[aoe,sY,lK,dq,aE,IntKind.wrap,IntKind.bits,IntKind.signed]
    subst ha hc hd;simp[aoe,sY,lK,dq,aE,IntKind.wrap,IntKind.bits,IntKind.signed,eo he]
   subst ha hc;simp[aoe,sY,lK,dq,aE,IntKind.wrap,IntKind.bits,IntKind.signed,eo hd,hd]
  subst ha;simp[aoe,sY,lK,dq,aE,IntKind.wrap,IntKind.bits,IntKind.signed,eo hc,hc]
 simp[aoe,sY,lK,dq,aE,IntKind.wrap,IntKind.bits,IntKind.signed,eo ha,ha]
theorem BT(v w:bW):aK I.qgo [v.a,w.a]=some (.int .i64 (mI v w)):=by
 rw[aA aiY rfl];simp[aq6,adD,bW.a,GK,Hp,PC,Oc,Or4,mI]
end Go.AM
namespace Go.AM
open P
set_option maxHeartbeats 4000000
set_option maxRecDepth 4000
theorem HE:∀a b:b8,∃d,d≤a.length∧d≤b.length∧(∀k (_:k<d) (ha:k<a.length) (hb:k<b.length),mI a[k] b[k]=0) ∧
  ((d=a.length∧ez a b=if a.length<b.length then -1 else 0)∨(d<a.length∧d=b.length∧ez a b=1)∨(∃(ha:d<a.length) (hb:d<b.length),mI a[d] b[d]≠0∧ez a b=mI a[d] b[d]))
 |[],b=>⟨0,aM _,bP _,fun k h=>absurd h (bX _),.inl ⟨rfl,by cases b<;>simp[ez]⟩⟩
 |a::x,[]=>⟨0,bP _,aM _,fun k h=>absurd h (bX _),.inr (.inl ⟨by simp,rfl,rfl⟩)⟩
 |a::x,b::y=>by
  by_cases h:mI a b=0
  ·obtain⟨d,h1,h2,h3,h4⟩:=HE x y;refine⟨d+1,by simpa using h1,by simpa using h2,fun k hk ha hb=>?_,?_⟩
   ·cases k with
    |zero=>exact h
    |succ k=>exact h3 k (by omega) (by simpa using ha) (by simpa using hb)
   have e:ez (a::x) (b::y)=ez x y:=by simp[ez,lex,h]
   rw[e];rcases h4 with⟨e1,e2⟩|⟨e1,e2,e3⟩|⟨ha,hb,e1,e2⟩
   ·exact .inl ⟨by simp[e1],by simpa using e2⟩
   ·exact .inr (.inl ⟨by simpa using e1,by simp[e2],e3⟩)
   exact .inr (.inr ⟨by simpa using ha,by simpa using hb,by simpa using e1,by simpa using e2⟩)
  exact⟨0,bP _,bP _,fun k h=>absurd h (bX _),.inr (.inr ⟨by simp,by simp,h,by simp[ez,lex,h]⟩)⟩
theorem KB(b b':Bool)(r q:b8)(hr:r.length≤most):aK I.qgz [.aa b (da r),.aa b' (da q),.fn I.qgo [] []]=some (.int .i64 (ez r q)):=by
 rw[aA agH rfl];obtain⟨d,h1,h2,h3,h4⟩:=HE r q;have hstep:∀k,k<d→dK 0 [3,4,5,6,7,11,12,13] nD (run code nD ⟨[.aa b (da r),.aa b' (da q),.fn 143 [] [],.any,.any,.any,.any,.any,.aa b (da r),.int .i64 r.length,.int .i64 k,.any,.any,.any,.any],[]⟩) =
   cq code 0 [3,4,5,6,7,11,12,13] nD ⟨[.aa b (da r),.aa b' (da q),.fn 143 [] [],.any,.any,.any,.any,.any,.aa b (da r),.int .i64 r.length,.int .i64 (k+1:Nat),.any,.any,.any,.any],[]⟩:=fun k hk=>by
  have ha:k<r.length:=by omega
  have hb:k<q.length:=by omega
  have e1:=pY ha;have e2:=pY hb;have e3:=BT r[k] q[k];rw[h3 k hk ha hb]at e3;have i1:((k:Int)<(r.length:Int)):=by omega
  have i2:¬((q.length:Int)≤(k:Int)):=by omega
  simp[nD,e1,e2,e3,i1,i2,aX ha hr,aE]
 rcases h4 with⟨e1,e2⟩|⟨e1,e2,e3⟩|⟨ha,hb,e1,e2⟩
 ·have hloop:=cL (base:=0) (clr:=[3,4,5,6,7,11,12,13]) (b:=nD) (fun k=>⟨[.aa b (da r),.aa b' (da q),.fn 143 [] [],.any,.any,.any,.any,.any,.aa b (da r),.int .i64 r.length,.int .i64 k,.any,.any,.any,.any],[]⟩) d _ hstep (by
   subst e1;simp[nD];rfl)
  simp[aoR,P4];simp at hloop;rw[hloop,e2];by_cases hlt:r.length<q.length
  ·have i1:((r.length:Int)<(q.length:Int)):=by omega
   simp[hlt,i1]
  have i1:¬((r.length:Int)<(q.length:Int)):=by omega
  simp[hlt,i1]
 ·have hloop:=cL (base:=0) (clr:=[3,4,5,6,7,11,12,13]) (b:=nD) (fun k=>⟨[.aa b (da r),.aa b' (da q),.fn 143 [] [],.any,.any,.any,.any,.any,.aa b (da r),.int .i64 r.length,.int .i64 k,.any,.any,.any,.any],[]⟩) d _ hstep (by
   have a1:=pY e1;have i1:((d:Int)<(r.length:Int)):=by omega
   have i2:((q.length:Int)≤(d:Int)):=by omega
   simp[nD,a1,i1,i2];rfl)
  simp[aoR,P4];simp at hloop;rw[hloop,e3];simp
 have hloop:=cL (base:=0) (clr:=[3,4,5,6,7,11,12,13]) (b:=nD) (fun k=>⟨[.aa b (da r),.aa b' (da q),.fn 143 [] [],.any,.any,.any,.any,.any,.aa b (da r),.int .i64 r.length,.int .i64 k,.any,.any,.any,.any],[]⟩) d _ hstep (by
  have a1:=pY ha;have a2:=pY hb;have a3:=BT r[d] q[d];have i1:((d:Int)<(r.length:Int)):=by omega
  have i2:¬((q.length:Int)≤(d:Int)):=by omega
  simp[nD,a1,a2,a3,i1,i2,eo e1];rfl)
 simp[aoR,P4];simp at hloop;rw[hloop,e2];simp
theorem yn(b b':Bool)(r q:b8)(hr:r.length≤most):aK I.qgh [.aa b (da r),.aa b' (da q)]=some (.int .i64 (ez r q)):=by
 rw[aA acb rfl];have:=fun b b'=>KB b b' r q hr;simp[aqX,abQ,this]
theorem yP(b b':Bool)(r q:b8)(hr:lc r=true)(hq:lc q=true):aK I.qft [.aa b (da r),.aa b' (da q)]=some (.int .i64 (ez r q)):=by
 rw[aA aiK rfl];have hl:r.length≤most:=by
  unfold lc at hr;simp at hr;unfold most;omega
 have h1:=fun b b'=>yn b b' r q hl;have h2:=fun b=>qE b r;have h3:=fun b=>qE b q;rw[hr]at h2;rw[hq]at h3;simp[ap2,adR,h1,h2,h3]
theorem tW(v w:bW)(hv:oC v=true)(hw:oC w=true):aK I.qbx [v.a,w.a]=some (.int .i64 (mI v w)):=by
 rw[aA ajd rfl];have h:=fun b b'=>yP b b' [v] [w] (by simp[lc,hv]) (by simp[lc,hw]);have e:ez [v] [w]=mI v w:=by
  simp only[ez];unfold lex;split
  ·rfl
  omega
 rw[e]at h;simp only[da,bG,bh]at h;simp[aqB,acA,h]
end Go.AM
namespace Go.AM
open P
set_option maxHeartbeats 4000000
set_option maxRecDepth 4000
def jl(o:Int×Bool):ap:=.agg [.int .i64 o.1,.bool o.2]
def gV(os:List (Int×Bool)):List ap:=os.map jl
@[simp] theorem Yx(os:List (Int×Bool)):(gV os).length=os.length:=by simp[gV]
theorem Hr{os:List (Int×Bool)}{k:Nat}(h:k<os.length):(gV os)[k]?=some (.agg [.int .i64 os[k].1,.bool os[k].2]):=by simp[gV,h,jl]
def jY(r:b8)(i:Int):bW:=r.getD i.toNat default
def Ac(o:Int×Bool)(a b:b8):Int:=if o.2 then -mI (jY a o.1) (jY b o.1) else mI (jY a o.1) (jY b o.1)
def yg:List (Int×Bool)→b8→b8→Int
 |[],a,b=>ez a b
 |o::os,a,b=>lex (Ac o a b) (yg os a b)
theorem Zv(o:Int×Bool):Aq (Ac o):=by
 have h:=lH.on (fun a:b8=>jY a o.1);unfold Ac;cases o.2
 ·exact h
 exact h.neg
theorem We:∀os,Aq (yg os)
 |[]=>pA
 |o::os=>(Zv o).lex (We os)
theorem LB:∀{os:List (Int×Bool)} {a b:b8},yg os a b=0→a=b
 |[],_,_,h=>sU h
 |_::_,_,_,h=>LB (sX h).2
theorem OL(o:Int×Bool)(a b:b8):-1≤Ac o a b∧Ac o a b≤1:=by
 unfold Ac;have:=xz (jY a o.1) (jY b o.1);split<;>omega
theorem G2:∀os a b,-1≤yg os a b∧yg os a b≤1
 |[],a,b=>qR a b
 |o::os,a,b=>pL (OL o a b) (G2 os a b)
theorem Lj(a b:b8):∀os:List (Int×Bool),∃d,d≤os.length∧(∀k (_:k<d) (hk:k<os.length),Ac os[k] a b=0) ∧
  ((d=os.length∧yg os a b=ez a b)∨(∃h:d<os.length,Ac os[d] a b≠0∧yg os a b=Ac os[d] a b))
 |[]=>⟨0,aM _,fun k h=>absurd h (bX _),.inl ⟨rfl,rfl⟩⟩
 |o::os=>by
  by_cases h:Ac o a b=0
  ·obtain⟨d,h1,h2,h3⟩:=Lj a b os;refine⟨d+1,by simpa using h1,fun k hk hk'=>?_,?_⟩
   ·cases k with
    |zero=>exact h
    |succ k=>exact h2 k (by omega) (by simpa using hk')
   have e:yg (o::os) a b=yg os a b:=by simp[yg,lex,h]
   rw[e];rcases h3 with⟨e1,e2⟩|⟨ha,e1,e2⟩
   ·exact .inl ⟨by simp[e1],e2⟩
   exact .inr ⟨by simpa using ha,by simpa using e1,by simpa using e2⟩
  exact⟨0,bP _,fun k h=>absurd h (bX _),.inr ⟨by simp,h,by simp[yg,lex,h]⟩⟩
def uW(os:List (Int×Bool))(r:b8):Bool:=os.all fun o=>decide (0≤o.1)&&decide (o.1<r.length)
theorem zK{os:List (Int×Bool)}{r:b8}(h:uW os r=true){k:Nat}(hk:k<os.length):0≤os[k].1∧os[k].1<r.length:=by
 have:=aG.1 h os[k] (aF hk);simpa using this
theorem ze{r:b8}{i:Int}(h:0≤i∧i<r.length):(da r)[i.toNat]?=some (jY r i).a:=by
 have hl:i.toNat < r.length:=by omega
 rw[pY hl];simp[jY,List.getD,hl]
theorem CT{r:b8}(h:lc r=true){i:Int}(hi:0≤i∧i<r.length):oC (jY r i)=true:=by
 have hl:i.toNat < r.length:=by omega
 unfold lc at h;simp only[aq,aG]at h;have:jY r i=r[i.toNat]:=by simp[jY,List.getD,hl]
 rw[this];exact h.2 _ (aF hl)
theorem aio:IntKind.i64.wrap 0=0:=rfl
theorem aag(b b' bo:Bool)(os:List (Int×Bool))(r q:b8)(hn:os.length≤most)(hr:lc r=true)(hq:lc q=true)(hor:uW os r=true)(hoq:uW os q=true) :
  aK I.qbf [.aa b (da r),.aa b' (da q),.cptr false (.aa bo (gV os)) 0]=some (.int .i64 (yg os r q)):=by
 rw[aA acV rfl];obtain⟨d,h1,h3,h4⟩:=Lj r q os;have hC:=fun b b'=>yP b b' r q hr hq;have hstep:∀k,k<d→dK 0 [3,4,5,9,10,11] nA (run code nA ⟨[.aa b (da r),.aa b' (da q),.cptr false (.aa bo (gV os)) 0,.any,.any,.any,.aa bo (gV os),.int .i64 os.length,.int .i64 k,.any,.any,.any],[]⟩) =
   cq code 0 [3,4,5,9,10,11] nA ⟨[.aa b (da r),.aa b' (da q),.cptr false (.aa bo (gV os)) 0,.any,.any,.any,.aa bo (gV os),.int .i64 os.length,.int .i64 (k+1:Nat),.any,.any,.any],[]⟩:=fun k hk=>by
  have ha:k<os.length:=by omega
  have e1:=Hr ha;have c1:=zK hor ha;have c2:=zK hoq ha;have e2:=ze c1;have e3:=ze c2;have e4:=tW _ _ (CT hr c1) (CT hq c2);have e5:=h3 k hk ha;unfold Ac at e5;have i1:((k:Int)<(os.length:Int)):=by omega
  have i2:¬(os[k].1<0):=by omega
  have i3:mI (jY r os[k].1) (jY q os[k].1)=0:=by split at e5<;>omega
  rw[i3]at e4;have i4:=c1.1;cases hd:os[k].2<;>simp[nA,e1,hd,e2,e3,e4,i1,i2,i4,aX ha hn,aE,aio]
 rcases h4 with⟨e1,e2⟩|⟨ha,e1,e2⟩
 ·have hloop:=cL (base:=0) (clr:=[3,4,5,9,10,11]) (b:=nA) (fun k=>⟨[.aa b (da r),.aa b' (da q),.cptr false (.aa bo (gV os)) 0,.any,.any,.any,.aa bo (gV os),.int .i64 os.length,.int .i64 k,.any,.any,.any],[]⟩) d _ hstep (by
   subst e1;simp[nA];rfl)
  simp[aoT,RQ];simp at hloop;rw[hloop,e2];simp[hC]
 have c1:=zK hor ha;have c2:=zK hoq ha;have a1:=Hr ha;have a2:=ze c1;have a3:=ze c2;have a4:=tW _ _ (CT hr c1) (CT hq c2);have i1:((d:Int)<(os.length:Int)):=by omega
 have i4:=c1.1;have i5:=xz (jY r os[d].1) (jY q os[d].1);have e3:=e1;unfold Ac at e3;cases hd:os[d].2 with
 |false=>
  rw[hd]at e3;have e3:¬mI (jY r os[d].1) (jY q os[d].1)=0:=by simpa using e3
  have hloop:=cL (base:=0) (clr:=[3,4,5,9,10,11]) (b:=nA) (fun k=>⟨[.aa b (da r),.aa b' (da q),.cptr false (.aa bo (gV os)) 0,.any,.any,.any,.aa bo (gV os),.int .i64 os.length,.int .i64 k,.any,.any,.any],[]⟩) d _ hstep (by
   simp[nA,a1,hd,a2,a3,a4,i1,i4,eo e3];rfl)
  simp[aoT,RQ];simp at hloop;rw[hloop,e2];simp[Ac,hd]
 |true=>
  rw[hd]at e3;have e3:¬-mI (jY r os[d].1) (jY q os[d].1)=0:=by simpa using e3
  have hw:IntKind.i64.wrap (-mI (jY r os[d].1) (jY q os[d].1))=-mI (jY r os[d].1) (jY q os[d].1):=fj (by omega);have hw':IntKind.i64.wrap (0-mI (jY r os[d].1) (jY q os[d].1))=-mI (jY r os[d].1) (jY q os[d].1):=by rw[Int.zero_sub];exact hw
  have hloop:=cL (base:=0) (clr:=[3,4,5,9,10,11]) (b:=nA) (fun k=>⟨[.aa b (da r),.aa b' (da q),.cptr false (.aa bo (gV os)) 0,.any,.any,.any,.aa bo (gV os),.int .i64 os.length,.int .i64 k,.any,.any,.any],[]⟩) d _ hstep (by
   simp[nA,a1,hd,a2,a3,a4,i1,i4,hw,hw',eo e3];rfl)
  simp[aoT,RQ];simp at hloop;rw[hloop,e2];simp[Ac,hd]
end Go.AM
namespace Go.AM
open P
set_option maxHeartbeats 4000000
set_option maxRecDepth 4000
def Uh:ap→Int×Bool
 |.agg [.int _ c,.bool d]=>(c,d)
 |_=>(0,false)
@[simp] theorem alL(o:Int×Bool):Uh (jl o)=o:=rfl
def inR(r:b8)(c:Int):Bool:=decide (0≤c)&&decide (c<r.length)
theorem SU(t b:Bool)(o:Int×Bool)(r:b8):aK I.qbi [jl o,.cptr t (.aa b (da r)) 0]=some (.bool (!inR r o.1)):=by
 rw[aA ahY rfl];unfold inR jl;obtain⟨c,d⟩:=o;by_cases h1:c<0
 ·have h2:¬(0≤c):=by omega
  cases t<;>simp[ao4,QF,h1,h2]
 have h2:0≤c:=by omega
 by_cases h3:c<r.length
 ·have h4:¬((r.length:Int)≤c):=by omega
  cases t<;>simp[ao4,QF,h1,h2,h3,h4]
 have h4:((r.length:Int)≤c):=by omega
 cases t<;>simp[ao4,QF,h1,h2,h3,h4]
theorem Wq(b bo:Bool)(os:List (Int×Bool))(r:b8)(hn:os.length≤most):aK I.qbh [.aa b (da r),.aa bo (gV os)]=some (.bool (uW os r)):=by
 rw[aA ahV rfl]
 have hc:=fun bo=>Mm (b:=bo) (xs:=gV os) (f:=.fn 109 [] [.cptr true (.aa b (da r)) 0]) (p:=fun x=>!inR r (Uh x).1) (by simpa using hn) (fun x hx=>by
   obtain⟨o,_,rfl⟩:=aU.1 hx;exact⟨rfl,rfl⟩) (by simp) (fun x hx=>by
   obtain⟨o,_,rfl⟩:=aU.1 hx;have:=SU true b o r;have e:fz true false 0 [] 20 (jl o)=jl o:=by simp[jl]
   simp[this,e])
 have e:(!(gV os).any fun x=>!inR r (Uh x).1)=uW os r:=by
  show _=os.all fun o=>inR r o.1;rw[←rB,gV,my];rfl
 simp[arV,abB,hc,e]
theorem OH(t b bo:Bool)(os:List (Int×Bool))(r:b8)(hn:os.length≤most):aK I.qba [.aa b (da r),.cptr t (.aa bo (gV os)) 0]=some (.bool (!uW os r)):=by
 rw[aA aln rfl];have h:=fun b bo=>Wq b bo os r hn;cases hr:uW os r<;>rw[hr]at h<;>cases t<;>simp[aqj,adm,h]
@[simp] theorem aak(r:b8)(fl top:Bool)(base:Nat)(σ:ay)(n:Nat):(da r).map (fz fl top base σ (n+2))=da r:=by
 unfold da;rw[cE];exact bx fun v _=>ad6 v fl top base σ n
@[simp] theorem acp(r:b8):(da r).map aC=List.replicate r.length 4:=by
 unfold da;rw[cE,jz];exact⟨by simp,fun x hx=>by simp at hx;exact hx.2.symm▸rfl⟩
theorem W4(r:b8):((da r).all fun y=>aC y==4)=true:=by
 rw[aG];intro x hx;obtain⟨v,_,rfl⟩:=aU.1 hx;rfl
theorem AR(r:b8)(id ep:Nat)(σ:ay)(h:σ[id]?=some (.arr 4 ep (da r))):kB 4 σ (.sl id ep 0 r.length)=.frs 4 (da r):=by
 have h9:(da r).take r.length=da r:=av (by simp);have h10:∀σ',(da r).map (lz σ')=da r:=fun σ'=>aak r false false 0 σ' 18;simp only[kB,h,h9,h10,Hf];simp
theorem Lm:∀b,aK I.qgu [.aa b []]=some (.frs 4 [])
 |true=>fA (n:=20) (σ:=[]) (by kernel_rfl)
 |false=>fA (n:=20) (σ:=[]) (by kernel_rfl)
theorem DT(b:Bool)(r:b8)(hn:r.length≤most):aK I.qgu [.aa b (da r)]=some (.frs 4 (da r)):=by
 cases r with
 |nil=>exact Lm b
 |cons v r=>
  have hall:=W4 (v::r);have hl:(da (v::r)).length=r.length+1:=by simp
  have hne:gd [] (.aa b (da (v::r)))=false:=rfl;unfold aK;rw[eB fg uM,hne];simp only[bC,cz];unfold iH;have hn':r.length+1≤most:=by simpa using hn
  have hnil:lj false [] (.aa b (da (v::r)))=some (.bool false):=rfl;have hf:=AR (v::r) 0 0 [.arr 4 0 (da (v::r))] rfl;have hx:da (v::r)≠[]:=by simp[da]
  have hy:∀x,x∈da (v::r)→aC x=4:=fun x hx=>by simpa using aG.1 hall x hx
  have ht:(da (v::r)).take (r.length+1)=da (v::r):=av (by simp);simp only[bj]at hf;generalize da (v::r)=xs at *;simp[apE,XC,enter,kF,append,hall,hl,hn',-lj,hnil,hx];rw[if_pos hy];simp[kF];exact hf
end Go.AM
namespace Go.AM
class Nc {α:Type} (f:α→ap) (n:outParam Nat) (g:outParam Bool):Prop where
 nc:∀y,aC (f y)=n
 ag:∀y,isAgg (f y)=g
class Fx {α:Type} (f:α→ap):Prop where
 fx:∀fl top base σ n y,fz fl top base σ (n+3) (f y)=f y
class Ft {α:Type} (f:α→ap):Prop where
 ft:∀fl top base σ n y,(fl ||top)=true→fz fl top base σ (n+3) (f y)=f y
abbrev i64(n:Int):ap:=ar n
instance:Nc (fun n=>ap.int .i64 n) 1 false:=⟨fun _=>rfl,fun _=>rfl⟩
instance:Nc (ap.int .i64) 1 false:=⟨fun _=>rfl,fun _=>rfl⟩
instance:Fx (ap.int .i64):=⟨fun _ _ _ _ _ _=>rfl⟩
instance:Nc bW.a 4 true:=⟨fun _=>rfl,fun _=>rfl⟩
instance:Fx bW.a:=⟨fun fl top base σ n y=>ad6 y fl top base σ (n+1)⟩
instance {α:Type} (f:α→ap) [Fx f]:Ft f:=⟨fun fl top base σ n y _=>Fx.fx fl top base σ n y⟩
section
variable {α:Type} {f:α→ap} {m:Nat} {g:Bool}
@[simp] theorem alx[Fx f](fl top:Bool)(base:Nat)(σ:ay)(n:Nat)(l:List α):List.map (fz fl top base σ (n+3)∘f) l=List.map f l:=
 bx fun y _=>Fx.fx fl top base σ n y
@[simp] theorem alh[Ft f](top:Bool)(base:Nat)(σ:ay)(n:Nat)(l:List α):List.map (fz true top base σ (n+3)∘f) l=List.map f l:=
 bx fun y _=>Ft.ft true top base σ n y rfl
@[simp] theorem aaU[Ft f](base:Nat)(σ:ay)(l:List α):List.map (ec base σ∘f) l=List.map f l:=
 bx fun y _=>Ft.ft false true base σ 17 y rfl
@[simp] theorem alP[Nc f m g](l:List α):List.map (aC∘f) l=List.replicate l.length m:=by
 rw[jz]
 exact⟨by simp,fun x hx=>by
  obtain⟨y,_,rfl⟩:=aU.1 hx;exact Nc.nc y⟩
theorem vH[Nc f m g](l:List α):((l.map f).all fun y=>aC y==m)=true:=by
 rw[aG];intro x hx;obtain⟨y,_,rfl⟩:=aU.1 hx;simp[Nc.nc y]
@[simp] theorem lF(l:List α)(f:α→ap):List.take l.length (List.map f l)=List.map f l:=av (by simp)
end
end Go.AM
namespace Go.AM
structure dI (α:Type) where
 b:Bool
 l:List α
abbrev dI.c{α:Type}(f:α→ap)(s:dI α):ap:=.aa s.b (s.l.map f)
end Go.AM
namespace Go.AM
open P
theorem aW(a b:az)(s:St)(c:Bool):De a b s (.bool c)=if c=true then run code a s else run code b s:=by cases c<;>rfl
theorem bK(env:List ap)(x:cP)(b:Bool)(o:Ee)(is:List cj)(ls:List ap)(σ:ay)(c:Bool) :
  C7 env (P.g x b o) is ls σ (some c)=if c=true then yI env is ls (step code env ls σ o) else lS code env is (ls++[.tup []]) σ:=by cases c<;>rfl
theorem Y3{α:Type}[BEq α](a b:α):(a != b)=!(a==b):=rfl
end Go.AM
namespace Go.AM
open P
set_option maxHeartbeats 2000000
set_option maxRecDepth 4000
def amS(two:Bool)(p:Int×Int):List ap:=if two then [vf p.1,vf p.2] else [vf p.1]
def ab6(two:Bool)(r:List ap):Prop:=∃p:Int×Int,(two=false→p.2=0)∧r=amS two p
theorem ab6.ok{two:Bool}{r:List ap}(h:ab6 two r):Lf r:=by
 obtain⟨p,_,rfl⟩:=h;cases two
 ·exact ZI p.1
 exact ZJ p.1 p.2
theorem q7{α:Type}{F:Nat→α→Prop}(hm:∀n m x,n≤m→F n x→F m x):∀l:List α,(∀x∈l,∃n,F n x)→∃n,∀x∈l,F n x
 |[],_=>⟨0,fun _ h=>by cases h⟩
 |x::l,h=>by
  obtain⟨n,hn⟩:=h x (cr ..);obtain⟨m,hm'⟩:=q7 hm l fun y hy=>h y (aO _ hy);refine⟨max n m,fun y hy=>?_⟩;rcases dz.1 hy with rfl|hy
  ·exact hm _ _ _ (mC ..) hn
  exact hm _ _ _ (ma ..) (hm' y hy)
end Go.AM
namespace Go.AM
open P
set_option maxHeartbeats 4000000
set_option maxRecDepth 4000
theorem Ao{α:Type}{le:ap→ap→Bool}{c:α→α→Int}{f:α→ap}{a:α}:∀{l:List α},(∀b∈l,le (f a) (f b)=decide (c a b≤0))→gw le (f a) (l.map f)=(IJ c a l).map f
 |[],_=>rfl
 |b::r,h=>by
  have h1:=h b (cr ..);simp only[bG,gw,IJ,h1];by_cases hc:c a b≤0
  ·simp[hc]
  simp[hc,Ao fun x hx=>h x (aO _ hx)]
theorem ux{α:Type}{le:ap→ap→Bool}{c:α→α→Int}{f:α→ap}:∀{l:List α},(∀a∈l,∀b∈l,le (f a) (f b)=decide (c a b≤0))→eU le (l.map f)=(dL c l).map f
 |[],_=>rfl
 |a::r,h=>by
  simp only[bG,eU,dL];rw[ux fun x hx y hy=>h x (aO _ hx) y (aO _ hy)];exact Ao fun b hb=>h a (cr ..) b (aO _ ((kA r).mem_iff.1 hb))
abbrev byF(os:List (Int×Bool)):ap:=.fn 198 [] [.cptr false (.aa false (gV os)) 0]
theorem alj(os:List (Int×Bool)):aK I.qbe [.aa false (gV os)]=some (byF os):=by
 rw[aA agT rfl];simp[arD,adw]
theorem XA(os:List (Int×Bool))(r q:b8)(hn:os.length≤most)(hr:lc r=true)(hq:lc q=true)(hor:uW os r=true)(hoq:uW os q=true) :
  cA code 198 [.aa false (da r),.aa false (da q),.cptr false (.aa false (gV os)) 0] []=some (.int .i64 (yg os r q),[]):=by
 have:=cG (f:=I.qbf) acV rfl [.aa false (da r),.aa false (da q),.cptr false (.aa false (gV os)) 0] [];simp only[bG,bh,po,Qx,WT]at this;rw[aag false false false os r q hn hr hq hor hoq]at this;exact this
theorem TB{os:List (Int×Bool)}{rs:aQ}(hn:rs.length≤most)(ho:os.length≤most)(hok:∀r∈rs,lc r=true∧uW os r=true){σ:ay}{id ep:Nat}(h:σ[id]?=some (.arr 1 ep (cI false rs))) :
  cA code 67 [.sl id ep 0 rs.length,byF os] σ=some (.any,σ.set id (.arr 1 ep (cI false (dL (yg os) rs)))):=by
 have hk:∀x∈cI false rs,∃r,r∈rs∧x=.aa false (da r):=fun x hx=>by
  obtain⟨r,h1,h2⟩:=aU.1 hx;exact⟨r,h1,h2.symm⟩
 obtain⟨n,hf⟩:=q7 (F:=fun n (x:ap)=>∀y∈cI false rs,dl code n 198 [x,y,.cptr false (.aa false (gV os)) 0] []=some (.int .i64 (yg os (nB x) (nB y)),[]))
  (fun n m x hnm h y hy=>(fw fg _ _ _).le hnm (h y hy)) (cI false rs) (fun x hx=>by
   obtain⟨n,hn⟩:=q7 (F:=fun n (y:ap)=>dl code n 198 [x,y,.cptr false (.aa false (gV os)) 0] []=some (.int .i64 (yg os (nB x) (nB y)),[]))
    (fun n m y hnm h=>(fw fg _ _ _).le hnm h) (cI false rs) (fun y hy=>by
     obtain⟨r,hr,rfl⟩:=hk x hx;obtain⟨q,hq,rfl⟩:=hk y hy;rw[yO,yO];exact (mH (fw fg _ _ _) _).1 (XA os r q ho (hok r hr).1 (hok q hq).1 (hok r hr).2 (hok q hq).2))
   exact⟨n,fun y hy=>hn y hy⟩)
 have hc:∀r q,r∈rs→q∈rs→iO (dl code n) (byF os) (.aa false (da r)) (.aa false (da q))=some (yg os r q):=fun r q hr hq=>by
  have:=hf (.aa false (da r)) (aU.2 ⟨r,hr,rfl⟩) (.aa false (da q)) (aU.2 ⟨q,hq,rfl⟩);unfold iO qV;simp at this;simp[this]
 have hW:=We os;have hO:sP (iO (dl code n) (byF os)) (cI false rs)=true:=by
  rw[lI];refine⟨fun x hx y hy=>?_,fun x hx y hy a b e1 e2=>?_,fun x hx y hy e=>?_,fun x hx=>?_,fun x hx y hy z hz a b c e1 e2 e3 h1 h2=>?_⟩
  ·obtain⟨r,hr,rfl⟩:=hk x hx;obtain⟨q,hq,rfl⟩:=hk y hy;have:=G2 os r q;exact⟨_,hc r q hr hq,by omega,by omega⟩
  ·obtain⟨r,hr,rfl⟩:=hk x hx;obtain⟨q,hq,rfl⟩:=hk y hy;rw[hc r q hr hq]at e1;rw[hc q r hq hr]at e2;cases e1;cases e2;exact hW.anti r q
  ·obtain⟨r,hr,rfl⟩:=hk x hx;obtain⟨q,hq,rfl⟩:=hk y hy;rw[hc r q hr hq]at e;rw[LB (cB e)]
  ·obtain⟨r,hr,rfl⟩:=hk x hx;rw[hc r r hr hr,hW.self]
  obtain⟨r,hr,rfl⟩:=hk x hx;obtain⟨q,hq,rfl⟩:=hk y hy;obtain⟨s,hs,rfl⟩:=hk z hz;rw[hc r q hr hq]at e1;rw[hc q s hq hs]at e2;rw[hc r s hr hs]at e3;cases e1;cases e2;cases e3;exact hW.lt_le h1 (Int.le_of_lt h2)
 refine nZ fg (k:=1) (n:=n) rfl ?_;have hp:code.prims 1 (dl code n)=mn (dl code n):=rfl;rw[hp];have h9:(cI false rs).take rs.length=cI false rs:=av (by simp);have h10:((cI false rs).all fun x=>same (fS (σ.set id .dead) x) x&&aC x==1&&!isAgg x&&!js x)=true:=by
  rw[aG];intro x hx;obtain⟨r,hr,rfl⟩:=hk x hx;simp[js]
 simp only[mn,h,gW,h9];have h11:fS (σ.set id .dead) (byF os)=byF os:=by simp
 have h13:eU (mg (iO (dl code n) (byF os))) (cI false rs)=cI false (dL (yg os) rs):=by
  unfold cI;refine ux fun r hr q hq=>?_;unfold mg;rw[hc r q hr hq]
 rw[if_pos ⟨by trivial,by simp,hn,h10,by rw[h11];exact hO,by rw[h11];rfl⟩,h11,h13];have h12:(cI false rs).drop (0+rs.length)=[]:=jd (by simp);rw[h12];simp
theorem CB(rs:aQ):cI false rs=gp (rs.map da):=by simp[cI,gp,fZ]
theorem Fb{rs:aQ}{k:Nat}(h:k<rs.length):cI false (rs.take (k+1))=cI false (rs.take k)++[.aa false (da rs[k])]:=by
 unfold cI;rw[cw h,dy];rfl
theorem Ag(rs:aQ)(top:Bool)(base:Nat)(σ:ay)(n:Nat):(cI false rs).map (fz false top base σ (n+1))=cI false rs:=by
 rw[CB];exact vR _ top base σ n
theorem zd(rs:aQ)(base:Nat)(σ:ay):(cI false rs).map (ec base σ)=cI false rs:=by
 rw[CB];exact uk _ base σ
theorem Lo(rs:aQ)(base:Nat)(σ:ay):(cI false rs).map (aC∘ec base σ)=List.replicate rs.length 1:=by
 rw[CB,So];simp
theorem we(rs:aQ)(fl top:Bool)(base:Nat)(σ:ay)(n:Nat):(∀a,a∈cI false rs→aC (fz fl top base σ (n+1) a)=aC a)↔True:=
 ⟨fun _=>trivial,fun _ a ha=>by
  obtain⟨r,_,rfl⟩:=aU.1 ha;simp⟩
@[simp] theorem ZZ(rs:aQ):(cI false rs).map aC=List.replicate rs.length 1:=by
 rw[CB,zj];simp
theorem RY(r:b8)(fl top:Bool)(base:Nat)(σ:ay)(n:Nat):(∀a,a∈da r→aC (fz fl top base σ (n+2) a)=aC a)↔True:=
 ⟨fun _=>trivial,fun _ a ha=>by
  obtain⟨v,_,rfl⟩:=aU.1 ha;simp⟩
theorem OS(b c:Bool)(os:List (Int×Bool))(o8:Int)(rs:aQ)(hn:rs.length≤most)(hr:∀r∈rs,r.length≤most) :
  cq code 1 [5,9] Aj ⟨[.aa b (cI c rs),.aa false (gV os),.int .i64 o8,.aj,.sl 0 0 0 0,.any,.aa b (cI c rs),.int .i64 rs.length,.int .i64 0,.any,.any],[.arr 1 0 []]⟩ =
   some (.ext 0,⟨[.aa b (cI c rs),.aa false (gV os),.int .i64 o8,.aj,.sl 0 rs.length 0 rs.length,.any,.aa b (cI c rs),.int .i64 rs.length,.int .i64 rs.length,.bool false,.any],[.arr 1 rs.length (cI false rs)]⟩):=by
 have:=cL (base:=1) (clr:=[5,9]) (b:=Aj) (fun k=>⟨[.aa b (cI c rs),.aa false (gV os),.int .i64 o8,.aj,.sl 0 k 0 k,.any,.aa b (cI c rs),.int .i64 rs.length,.int .i64 k,.any,.any],[.arr 1 k (cI false (rs.take k))]⟩) rs.length
  (.ext 0,⟨[.aa b (cI c rs),.aa false (gV os),.int .i64 o8,.aj,.sl 0 rs.length 0 rs.length,.any,.aa b (cI c rs),.int .i64 rs.length,.int .i64 rs.length,.bool false,.any],[.arr 1 rs.length (cI false rs)]⟩)
  (fun k hk=>by
   have h1:=wO (b:=c) hk;have hlt:((k:Int)<(rs.length:Int)):=by omega
   have h3:=jj uM rfl c (da rs[k]) [.arr 1 k (cI false (rs.take k))];rw[DT c rs[k] (hr _ (aF hk))]at h3;have h4:min k rs.length=k:=by omega
   have h5:k+1≤most:=by omega
   have h6:=Fb hk;have h9:(cI false (rs.take k)).take k=cI false (rs.take k):=av (by simp;omega);have h8:=fun top base σ n=>Ag (rs.take k) top base σ n;have h10:=zd (rs.take k) 1;have h11:=Lo (rs.take k) 1;have h12:(da rs[k]).take rs[k].length=da rs[k]:=av (by simp);have h13:=RY rs[k];simp[Aj,h1,hlt,h3,h4,h5,h6,h8,h9,h10,h11,h12,h13,append,aX hk hn,aE,aH])
  (by simp[Aj])
 simpa [show cI false []=[] from rfl] using this
end Go.AM
namespace Go.AM
open P
set_option maxHeartbeats 4000000
set_option maxRecDepth 4000
theorem gj{α:Type}(c:α→α→Int)(l:List α):(dL c l).length=l.length:=(kA l).length_eq
theorem OV(b:Bool)(rs:aQ)(k:Nat):(cI b rs).take k=cI b (rs.take k):=by simp[cI,d6]
theorem zv(b c:Bool)(os:List (Int×Bool))(o8:Int)(rs:aQ)(hn:rs.length≤most)(ho:os.length≤most)(hok:∀r∈rs,lc r=true∧uW os r=true) :
  aK I.qbw [.aa b (cI c rs),.aa false (gV os),.int .i64 o8]=some (.aa false (cI false (J7 o8 (dL (yg os) rs)))):=by
 rw[aA akM rfl];have h1:=OS b c os o8 rs hn fun r hr=>by
  have:=(hok r hr).1;unfold lc at this;simp at this;unfold most;omega
 have h2:=alj os;have h3:=TB hn ho hok (σ:=[.arr 1 rs.length (cI false rs)]) (id:=0) (ep:=rs.length) rfl;have h7:=gj (yg os) rs;have h8:=fun rs top base σ n=>Ag rs top base σ n;have h9:(cI false (dL (yg os) rs)).take rs.length=cI false (dL (yg os) rs):=av (by simp[h7]);unfold byF at h2 h3;unfold J7;by_cases hl:0≤o8
 ·by_cases hk:o8<rs.length
  ·have i1:o8.toNat≤rs.length:=by omega
   simp[aoV,RT,h1,h2,h3,hl,hk,h7,h8,i1,OV,we]
  have h6:(dL (yg os) rs).take o8.toNat=dL (yg os) rs:=av (by omega);simp[aoV,RT,h1,h2,h3,hl,hk,h7,h8,h9,h6,we]
 simp[aoV,RT,h1,h2,h3,hl,h7,h8,h9,we]
def Rp(os:List (Int×Bool))(o8:Int)(rs:aQ):Bool:=rs.all lc&&decide (os.length≤3)&&decide (-1≤o8)&&rs.all (uW os)
theorem Tf(b c:Bool)(os:List (Int×Bool))(o8:Int)(rs:aQ)(hn:rs.length≤8000) :
  aK I.qaz [.aa b (cI c rs),.aa false (gV os),.int .i64 o8]=some (.tup (if Rp os o8 rs then [.aa false (cI false (J7 o8 (dL (yg os) rs))),.int .i64 0] else [.aa false [],.int .i64 2])):=by
 rw[aA akU rfl];have hm:rs.length≤most:=by unfold most;omega
 have h1:=fun b=>Ch b c rs hn;unfold Rp;cases hr:rs.all lc with
 |false=>
  rw[hr]at h1;simp[aos,G3,h1]
 |true=>
  rw[hr]at h1;by_cases ho:os.length≤3
  ·have io:¬((3:Int)<os.length):=by omega
   have hom:os.length≤most:=by unfold most;omega
   by_cases hl:-1≤o8
   ·have il:¬(o8 < -1):=by omega
    have hc:=fun b=>BS (b:=b) (xs:=cI c rs) (f:=.fn 43 [] [.cptr true (.aa false (gV os)) 0]) (p:=fun x=>!uW os (nB x)) (by simpa using hm) (fun x hx=>by
      obtain⟨r,_,rfl⟩:=aU.1 hx;exact⟨rfl,rfl⟩) (by simp) (fun x hx=>by
      obtain⟨r,_,rfl⟩:=aU.1 hx;have:=OH true c false os r hom;cases c<;>simp[this])
    have e:((cI c rs).any fun x=>!uW os (nB x))=!rs.all (uW os):=by
     rw[←rB,Bool.not_not,cI,my];simp[fZ]
    rw[e]at hc;cases hh:rs.all (uW os) with
    |false=>
     rw[hh]at hc;simp[aos,G3,h1,io,il,hc,ho,hl]
    |true=>
     rw[hh]at hc;have hs:=fun b=>zv b c os o8 rs hm hom fun r hx=>⟨aG.1 hr r hx,aG.1 hh r hx⟩;simp[aos,G3,h1,io,il,hc,ho,hl,hs]
   have il:o8 < -1:=by omega
   simp[aos,G3,h1,io,il,ho,hl]
  have io:((3:Int)<os.length):=by omega
  simp[aos,G3,h1,io,ho]
theorem VC(v:bW):eqa true [0,0,0,2] v.a v.a=some (.bool false):=by simp[bW.a]
theorem NV(b b':Bool)(r:b8)(hn:r.length≤most):aK I.qhl [.aa b (da r),.aa b' (da r)]=some (.bool true):=by
 rw[aA abl rfl];have hloop:=cL (base:=0) (clr:=[2,3,7,8]) (b:=rz) (fun k=>⟨[.aa b (da r),.aa b' (da r),.any,.any,.bool false,.int .i64 r.length,.int .i64 k,.any,.any],[]⟩) r.length
  (.ext 0,⟨[.aa b (da r),.aa b' (da r),.any,.any,.bool false,.int .i64 r.length,.int .i64 r.length,.bool false,.any],[]⟩)
  (fun k hk=>by
   have h1:=pY hk;have hlt:((k:Int)<(r.length:Int)):=by omega
   have h2:=VC r[k];simp[rz,h1,hlt,-eqa,h2,aX hk hn,bY])
  (by simp[rz])
 simp at hloop;simp[aoL,LG,hloop]
theorem OI(b b':Bool)(r:b8)(hn:r.length≤most):aK I.qgd [.aa b (da r),.aa b' (da r)]=some (.bool true):=by
 rw[aA ada rfl];have:=fun b b'=>NV b b' r hn;simp[apO,Vm,this]
theorem S2(b b' c c':Bool)(rs:aQ)(hn:rs.length≤most)(hr:∀r∈rs,r.length≤most):aK I.qfy [.aa b (cI c rs),.aa b' (cI c' rs)]=some (.bool true):=by
 rw[aA ajU rfl];have h:∀b b',aK I.qhj [.aa b (cI c rs),.aa b' (cI c' rs),.fn 116 [] []]=some (.bool true):=fun b b'=>by
  rw[aA ain rfl];have hloop:=cL (base:=0) (clr:=[3,4,5,6,11,12]) (b:=CF) (fun k=>⟨[.aa b (cI c rs),.aa b' (cI c' rs),.fn 116 [] [],.any,.any,.any,.any,.bool false,.aa b (cI c rs),.int .i64 rs.length,.int .i64 k,.any,.any],[]⟩) rs.length
   (.ext 0,⟨[.aa b (cI c rs),.aa b' (cI c' rs),.fn 116 [] [],.any,.any,.any,.any,.bool false,.aa b (cI c rs),.int .i64 rs.length,.int .i64 rs.length,.bool false,.any],[]⟩)
   (fun k hk=>by
    have h1:=wO (b:=c) hk;have h2:=wO (b:=c') hk;have h3:=fun b b'=>OI b b' rs[k] (hr _ (aF hk));have hlt:((k:Int)<(rs.length:Int)):=by omega
    simp[CF,h1,h2,h3,hlt,aX hk hn,bY])
   (by simp[CF])
  simp at hloop;simp[arc,aaC,hloop]
 simp[ari,acR,h]
theorem DM(b b' c c':Bool)(rs:aQ)(hn:rs.length≤most)(hr:∀r∈rs,r.length≤most):aK I.qt [.aa b (cI c rs),.aa b' (cI c' rs)]=some (.bool true):=by
 rw[aA amh rfl];have:=fun b b'=>S2 b b' c c' rs hn hr;simp[aq2,akd,this]
end Go.AM
namespace Go.AM
open P
set_option maxHeartbeats 4000000
set_option maxRecDepth 4000
def zG(res:List RI)(r:Option (Ex×St)):Option (ap×ay):=r.bind fun r=>match r.1 with
 |.ext _=>none
 |_=>(results r.2 res).map fun v=>(v,r.2.st)
@[simp] theorem Zr(res:List RI)(s:St):zG res (some (.ret,s))=(results s res).map fun v=>(v,s.st):=rfl
@[simp] theorem Zq(res:List RI)(s:St):zG res (some (.nrm,s))=(results s res).map fun v=>(v,s.st):=rfl
theorem bp{f:Nat}{g:aS}(h:code.fns f=.fn g)(hm:g.mode=.keep)(args:List ap)(σ:ay) :
  cA code f args σ=zG g.res (run code g.body ⟨args.take g.np++List.replicate (g.nenv-g.np) .any,σ⟩):=by
 rw[zx fg h];have he:enter g args σ=⟨args.take g.np++List.replicate (g.nenv-g.np) .any,σ⟩:=by unfold enter;rw[hm]
 rw[he];unfold zG;congr 1;funext r;obtain⟨e,s⟩:=r;unfold kF iq;rw[hm];cases e<;>rfl
theorem GO(r:b8)(k:Nat):(da r).take k=da (r.take k):=by simp[da,d6]
theorem Fg(r:b8):∀a,a∈da r→aC a=4:=fun a ha=>by
 obtain⟨o,_,rfl⟩:=aU.1 ha;rfl
theorem Mp(b:Bool)(r:b8):aK I.qaa [.aa b (da r),.int .i64 17]=some (.frs 4 (da (r.take 17))):=by
 rw[aA agz rfl];by_cases h:17<r.length
 ·have hi:((17:Int)<r.length):=by omega
  have h1:min 17 r.length=17:=by omega
  have h2:r.take 17≠[]:=g9 (by simp;omega);have h3:da (r.take 17)≠[]:=g9 (by simp;omega);have h4:(17:Nat)≤r.length:=by omega
  have h5:(da (r.take 17)).take 17=da (r.take 17):=av (by simp;omega);have h7:=fun a ha=>Fg r a ha;have h8:=fun a ha=>Fg (r.take 17) a ha;have hf:=AR (r.take 17) 0 1 [.arr 4 1 (da (r.take 17))] rfl;rw[show (r.take 17).length=17 by simp;omega]at hf;simp[apb,Qn,hi,append,GO,h1,h2,h3,h4,h5,if_pos h7,if_pos h8,most,hf]
 have hi:¬((17:Int)<r.length):=by omega
 have h0:r.take 17=r:=av (by omega);have h6:r.take r.length=r:=av (by omega);have h7:=fun a ha=>Fg r a ha;rw[h0];by_cases he:r=[]
 ·subst he;simp[apb,Qn,append,da,kB]
 have h3:da r≠[]:=by simpa [da] using he
 have h5:(da r).take r.length=da r:=av (by simp);have h9:r.length≤most:=by unfold most;omega
 have hf:=AR r 0 1 [.arr 4 1 (da r)] rfl;simp[apb,Qn,hi,append,GO,he,h3,h5,h6,if_pos h7,h9,hf]
end Go.AM
