/- Part of the proof. -/
import Derived.Test.YtchifcbclnonbaaGreatDoorAm01
import Derived.Test.YtchifcbclnonbaaGreatDoorCards
import Derived.Test.YtchifcbclnonbaaGreatDoorAm07
set_option linter.unusedVariables false
set_option linter.unusedSimpArgs false
set_option linter.unusedSectionVars false
namespace Go.Proofs
open Go.Shelf Go.Lib
theorem Tryz.caseX:CaseExtra Tryz.prog Tryz.upR:={ n13:=by kernel_rfl,y13:=by kernel_rfl,c21:=by kernel_rfl,c51:=by kernel_rfl,c206:=by kernel_rfl,c208:=by kernel_rfl }
theorem Tryz.u8X:U8Extra Tryz.prog Tryz.upR:={ n3:=by kernel_rfl,n4:=by kernel_rfl,y3:=by kernel_rfl,y4:=by kernel_rfl,c5:=by kernel_rfl,c119:=by kernel_rfl,c138:=by kernel_rfl }
theorem Tryz.case_eq:YtchifcbclnonbaaGreatDoor.Rows.laid_unicode_CaseRanges=caseData:=by kernel_rfl
theorem Tryz.first_eq:YtchifcbclnonbaaGreatDoor.Rows.laid_unicode_utf8_first=firstData:=by kernel_rfl
theorem Tryz.acc_eq:YtchifcbclnonbaaGreatDoor.Rows.laid_unicode_utf8_acceptRanges=acceptData:=by kernel_rfl
theorem Tryz.tabs_laid(W:World)(h:laidMet Tryz.prog YtchifcbclnonbaaGreatDoor.Rows.lowerDoesRow.laid W)(g13 g3 g4:Nat)(n1:Tryz.prog.globalNamed "unicode.CaseRanges" = some g13)(n2:Tryz.prog.globalNamed "unicode/utf8.first" = some g3)(n3:Tryz.prog.globalNamed "unicode/utf8.acceptRanges" = some g4):CaseVar g13 caseA W∧Utf8Tabs g3 g4 W:=by
 have e1:Tryz.prog.globalNamed "unicode.CaseRanges" = some 3:=by kernel_rfl
 have e2:Tryz.prog.globalNamed "unicode/utf8.first" = some 5:=by kernel_rfl
 have e3:Tryz.prog.globalNamed "unicode/utf8.acceptRanges" = some 6:=by kernel_rfl
 cases Option.some.inj (e1.symm.trans n1);cases Option.some.inj (e2.symm.trans n2);cases Option.some.inj (e3.symm.trans n3);have r1:=laidMet.reads (n:="unicode.CaseRanges") (d:=YtchifcbclnonbaaGreatDoor.Rows.laid_unicode_CaseRanges) h (by simp[YtchifcbclnonbaaGreatDoor.Rows.lowerDoesRow]);have r2:=laidMet.reads (n:="unicode/utf8.first") (d:=YtchifcbclnonbaaGreatDoor.Rows.laid_unicode_utf8_first) h (by simp[YtchifcbclnonbaaGreatDoor.Rows.lowerDoesRow]);have r3:=laidMet.reads (n:="unicode/utf8.acceptRanges") (d:=YtchifcbclnonbaaGreatDoor.Rows.laid_unicode_utf8_acceptRanges) h (by simp[YtchifcbclnonbaaGreatDoor.Rows.lowerDoesRow]);rw[Tryz.case_eq]at r1;rw[Tryz.first_eq]at r2;rw[Tryz.acc_eq]at r3;exact⟨caseVar_of_reads Tryz.lays274 Tryz.underlying390 Tryz.caseX r1,utf8Tabs_of_reads Tryz.lays260 Tryz.u8X r2 r3⟩
end Go.Proofs
namespace Go.AM
section
variable {P:Code}
theorem aiM(env ls:List ap)(σ:aw)(x:cB):step P env ls σ (.mov x)=(some (x.eval env ls,σ)):=by
 unfold step;simp only[aY];exact bm _
theorem adA(env ls:List ap)(σ:aw)(c:cB)(a:cB)(b:cB):step P env ls σ (.pick c a b)=((QY (a.eval env ls) (b.eval env ls) (c.eval env ls)).map (·,σ)):=by
 unfold step;simp only[aY];exact bm _
theorem aid(env ls:List ap)(σ:aw)(k:Nat)(x:cB):step P env ls σ (.box k x)=(let v:=x.eval env ls;if aC v=k then some (.ptr σ.length 0 0 0,σ++[.arr k 0 [v]]) else none):=by
 unfold step;simp only[aY];exact bm _
theorem XT(env ls:List ap)(σ:aw)(zero:List ap)(parts:List (Nat×Nat×cB)):step P env ls σ (.build zero parts)=((fill zero (parts.map fun p=>(p.1,p.2.1,p.2.2.eval env ls))).map fun cs=>(.agg cs,σ)):=by
 unfold step;simp only[aY];exact bm _
theorem XK(env ls:List ap)(σ:aw)(k:Nat):step P env ls σ (.mknil k)=(some (.sl σ.length 0 0 0,σ++[.arr k 0 []])):=by
 unfold step;simp only[aY];exact bm _
theorem ae6(env ls:List ap)(σ:aw)(k:Nat)(xs:List cB):step P env ls σ (.mkl k xs)=(let vs:=xs.map (·.eval env ls);if vs.all (fun v=>aC v==k) then some (.lst vs,σ) else none):=by
 unfold step;simp only[aY];exact bm _
theorem adl(env ls:List ap)(σ:aw)(k:Nat)(xs:List cB):step P env ls σ (.mksl k xs)=(let vs:=xs.map (·.eval env ls)
  if vs=[] then some (.ai,σ) else
  if vs.all (fun v=>aC v==k) then some (.sl σ.length 0 0 vs.length,σ++[.arr k 0 vs]) else none):=by
 unfold step;simp only[aY];exact bm _
theorem YH(env ls:List ap)(σ:aw)(k:Nat)(zero:ap)(n:Nat)(parts:List (Nat×cB)):step P env ls σ (.mkslz k zero n parts)=(let vs:=IU (List.replicate n zero) (parts.map fun p=>(p.1,p.2.eval env ls))
  if vs.all (fun v=>aC v==k) then some (.sl σ.length 0 0 n,σ++[.arr k 0 vs]) else none):=by
 unfold step;simp only[aY];exact bm _
theorem acK(env ls:List ap)(σ:aw)(k:Nat)(zero:ap)(n:cB)(c:cB):step P env ls σ (.make k zero n c)=((oP (n.eval env ls)).bind fun m=>(oP (c.eval env ls)).bind fun d=>
   if m=d∧aC zero=k∧m≤aV then some (.sl σ.length 0 0 m,σ++[.arr k 0 (List.replicate m zero)]) else none):=by
 unfold step;simp only[aY];exact bm _
theorem adX(env ls:List ap)(σ:aw)(a:Bool)(s:Nat)(x:cB):step P env ls σ (.load a s x)=((loadAt a s (x.eval env ls) σ).map (·,σ)):=by
 unfold step;simp only[aY];exact bm _
theorem ZH(env ls:List ap)(σ:aw)(s:Nat)(x:cB)(v:cB):step P env ls σ (.store s x v)=((storeAt s (x.eval env ls) (v.eval env ls) σ).map (.any,·)):=by
 unfold step;simp only[aY];exact bm _
theorem af7(env ls:List ap)(σ:aw)(off:Nat)(x:cB):step P env ls σ (.fld off x)=((GM σ off (x.eval env ls)).map (·,σ)):=by
 unfold step;simp only[aY];exact bm _
theorem acP(env ls:List ap)(σ:aw)(a:Bool)(s:Nat)(off:Nat)(x:cB):step P env ls σ (.fldv a s off x)=((Fw a s off (x.eval env ls)).map (·,σ)):=by
 unfold step;simp only[aY];exact bm _
theorem ace(env ls:List ap)(σ:aw)(k:Nat)(x:cB)(i:cB):step P env ls σ (.idxs k x i)=((oP (i.eval env ls)).bind fun n=>(Ab σ k n (x.eval env ls)).map (·,σ)):=by
 unfold step;simp only[aY];exact bm _
theorem ac4(env ls:List ap)(σ:aw)(m:Nat)(s:Nat)(x:cB)(i:cB):step P env ls σ (.idxa m s x i)=((oP (i.eval env ls)).bind fun n=>if n<m then (GM σ (n*s) (x.eval env ls)).map (·,σ) else none):=by
 unfold step;simp only[aY];exact bm _
theorem ad1(env ls:List ap)(σ:aw)(a:Bool)(m:Nat)(s:Nat)(x:cB)(i:cB):step P env ls σ (.idxv a m s x i)=((oP (i.eval env ls)).bind fun n=>if n<m then (Fw a s (n*s) (x.eval env ls)).map (·,σ) else none):=by
 unfold step;simp only[aY];exact bm _
theorem adI(env ls:List ap)(σ:aw)(x:cB)(i:cB):step P env ls σ (.idxt x i)=((oP (i.eval env ls)).bind fun n=>(Mf n (x.eval env ls)).map (·,σ)):=by
 unfold step;simp only[aY];exact bm _
theorem afG(env ls:List ap)(σ:aw)(op:BinOp)(x:cB)(y:cB):step P env ls σ (.bin op x y)=((bin op (x.eval env ls) (y.eval env ls)).map (·,σ)):=by
 unfold step;simp only[aY];exact bm _
theorem agr(env ls:List ap)(σ:aw)(n:Bool)(x:cB)(y:cB):step P env ls σ (.eqb n x y)=((eqb n (x.eval env ls) (y.eval env ls)).map (·,σ)):=by
 unfold step;simp only[aY];exact bm _
theorem ajc(env ls:List ap)(σ:aw)(n:Bool)(ks:List Nat)(x:cB)(y:cB):step P env ls σ (.eqa n ks x y)=((eqa n ks (x.eval env ls) (y.eval env ls)).map (·,σ)):=by
 unfold step;simp only[aY];exact bm _
theorem ZQ(env ls:List ap)(σ:aw)(f n:Bool)(x:cB):step P env ls σ (.isnil f n x)=(if (if f then WI (x.eval env ls) else LO (x.eval env ls)) then (isnil n (x.eval env ls)).map (·,σ) else none):=by
 unfold step;simp only[aY];exact bm _
theorem adQ(env ls:List ap)(σ:aw)(n:Bool)(x:cB):step P env ls σ (.nils n x)=((sj n σ (x.eval env ls)).map (·,σ)):=by
 unfold step;simp only[aY];exact bm _
theorem ajy(env ls:List ap)(σ:aw)(op:UnOp)(x:cB):step P env ls σ (.una op x)=((una op (x.eval env ls)).map (·,σ)):=by
 unfold step;simp only[aY];exact bm _
theorem ada(env ls:List ap)(σ:aw)(k:IntKind)(x:cB):step P env ls σ (.conv k x)=((P2 k (x.eval env ls)).map (·,σ)):=by
 unfold step;simp only[aY];exact bm _
theorem Yk(env ls:List ap)(σ:aw)(k:Nat)(x:cB)(lo:Option cB)(hi:Option cB):step P env ls σ (.slice k x lo hi)=(let v:=x.eval env ls
  (qN σ v).bind fun n=>(We env ls 0 lo).bind fun l=>(We env ls n hi).bind fun h=>(aslice σ k v l h).map (·,σ)):=by
 unfold step;simp only[aY];exact bm _
theorem Vu(env ls:List ap)(σ:aw)(x:cB)(lo:Option cB)(hi:Option cB):step P env ls σ (.slicet x lo hi)=(let v:=x.eval env ls
  (G4 v).bind fun n=>(We env ls 0 lo).bind fun l=>(We env ls n hi).bind fun h=>(Ea v l h).map (·,σ)):=by
 unfold step;simp only[aY];exact bm _
theorem WZ(env ls:List ap)(σ:aw)(x:cB):step P env ls σ (.slice0 x)=((qN σ (x.eval env ls)).map fun _=>(.ai,σ)):=by
 unfold step;simp only[aY];exact bm _
theorem Vc(env ls:List ap)(σ:aw)(n:Nat)(x:cB):step P env ls σ (.aslice n x)=((V8 σ n (x.eval env ls)).map (·,σ)):=by
 unfold step;simp only[aY];exact bm _
theorem ahT(env ls:List ap)(σ:aw)(x:cB):step P env ls σ (.len x)=((qN σ (x.eval env ls)).map fun (n:Nat)=>(.int .i64 (n:Int),σ)):=by
 unfold step;simp only[aY];exact bm _
theorem ac6(env ls:List ap)(σ:aw)(x:cB):step P env ls σ (.lent x)=((G4 (x.eval env ls)).map fun (n:Nat)=>(.int .i64 (n:Int),σ)):=by
 unfold step;simp only[aY];exact bm _
theorem aje(env ls:List ap)(σ:aw)(x:cB):step P env ls σ (.cap x)=((ZN (x.eval env ls)).map (·,σ)):=by
 unfold step;simp only[aY];exact bm _
theorem ajU(env ls:List ap)(σ:aw)(k:Nat)(x:cB)(y:cB):step P env ls σ (.app k x y)=((rd σ (y.eval env ls)).bind fun ys=>append k (x.eval env ls) ys σ):=by
 unfold step;simp only[aY];exact bm _
theorem adg(env ls:List ap)(σ:aw)(k:Nat)(zero:ap)(x:cB)(n:cB):step P env ls σ (.appz k zero x n)=((oP (n.eval env ls)).bind fun m=>if aC zero=k∧m≤aV then append k (x.eval env ls) (List.replicate m zero) σ else none):=by
 unfold step;simp only[aY];exact bm _
theorem acr(env ls:List ap)(σ:aw)(k:Nat)(x:cB)(y:cB):step P env ls σ (.copy k x y)=((HI σ (ZS (x.eval env ls)) (y.eval env ls)).bind fun ys=>(Mx σ k ys (x.eval env ls)).map fun σ'=>(.int .i64 (ys.length:Int),σ')):=by
 unfold step;simp only[aY];exact bm _
theorem ad8(env ls:List ap)(σ:aw)(x:cB)(xs:List cB):step P env ls σ (.mins x xs)=((uQ true (x.eval env ls) (xs.map (·.eval env ls))).map (·,σ)):=by
 unfold step;simp only[aY];exact bm _
theorem acs(env ls:List ap)(σ:aw)(x:cB)(xs:List cB):step P env ls σ (.maxs x xs)=((uQ false (x.eval env ls) (xs.map (·.eval env ls))).map (·,σ)):=by
 unfold step;simp only[aY];exact bm _
theorem adx(env ls:List ap)(σ:aw)(f:Nat)(first:List cB)(cap:List cB):step P env ls σ (.mkfn f first cap)=(some (.fn f (first.map (·.eval env ls)) (cap.map (·.eval env ls)),σ)):=by
 unfold step;simp only[aY];exact bm _
theorem ajD(env ls:List ap)(σ:aw)(i:Nat)(x:cB):step P env ls σ (.ext i x)=((Uu i (x.eval env ls)).map (·,σ)):=by
 unfold step;simp only[aY];exact bm _
theorem YO(env ls:List ap)(σ:aw)(x:cB):step P env ls σ (.nilck x)=((Jc σ (x.eval env ls)).map (·,σ)):=by
 unfold step;simp only[aY];exact bm _
theorem Yr(env ls:List ap)(σ:aw)  : step P env ls σ (.mkmap)=(some (.mp σ.length,σ++[.map []])):=by
 unfold step;simp only[aY];exact bm _
theorem acm(env ls:List ap)(σ:aw)(m:cB)(k:cB)(v:cB):step P env ls σ (.mput m k v)=((Ln σ (k.eval env ls) (v.eval env ls) (m.eval env ls)).map (.any,·)):=by
 unfold step;simp only[aY];exact bm _
theorem adE(env ls:List ap)(σ:aw)(zero:ap)(ok:Bool)(m:cB)(k:cB):step P env ls σ (.look zero ok m k)=(if tF (k.eval env ls) then (wj σ (m.eval env ls)).bind fun es=>(lookup (k.eval env ls) es).map fun r=>(if ok then .tup [r.getD zero,.bool r.isSome] else r.getD zero,σ) else none):=by
 unfold step;simp only[aY];exact bm _
theorem adZ(env ls:List ap)(σ:aw)(m:cB):step P env ls σ (.mlen m)=((wj σ (m.eval env ls)).map fun es=>(.int .i64 (es.length:Int),σ)):=by
 unfold step;simp only[aY];exact bm _
theorem aiu(env ls:List ap)(σ:aw)(zero:ap)(x:cB):step P env ls σ (.clr zero x)=((WS σ zero (x.eval env ls)).map (.any,·)):=by
 unfold step;simp only[aY];exact bm _
theorem adp(env ls:List ap)(σ:aw)(x:cB):step P env ls σ (.rngs x)=OE σ (x.eval env ls):=by
 unfold step;simp only[aY];exact bm _
theorem Y1(env ls:List ap)(σ:aw)(x:cB):step P env ls σ (.nexts x)=vM σ (x.eval env ls):=by
 unfold step;simp only[aY];exact bm _
theorem X4(env ls:List ap)(σ:aw)(ks:List Nat)(zero:ap)(ok:Bool)(m k:cB):step P env ls σ (.lookk ks zero ok m k)=(if gW ks (k.eval env ls) then (wj σ (m.eval env ls)).bind fun es=>(lV ks (k.eval env ls) es).map fun r=>(if ok then .tup [r.getD zero,.bool r.isSome] else r.getD zero,σ) else none):=by
 unfold step;simp only[aY];exact bm _
theorem XS(env ls:List ap)(σ:aw)(ks:List Nat)(m k v:cB):step P env ls σ (.mputk ks m k v)=((FB ks σ (k.eval env ls) (v.eval env ls) (m.eval env ls)).map (.any,·)):=by
 unfold step;simp only[aY];exact bm _
theorem afa(env ls:List ap)(σ:aw)(x:cB):step P env ls σ (.b2s x)=((SY σ (x.eval env ls)).map (·,σ)):=by
 unfold step;simp only[aY];exact bm _
theorem ahu(env ls:List ap)(σ:aw)  : step P env ls σ (.bad)=(none):=by
 unfold step;simp only[aY];exact bm _
end
end Go.AM
namespace Go.AM
def AC.isPure:AC→Bool
 |.pure|.fresh _=>true
 |_=>false
theorem Y9(σ τ:aw):∀(n:Nat) (v:ap),fz true false 0 τ n (fz true false 0 σ n v)=fz true false 0 σ n v:=by
 intro n;induction n with
 |zero=>intro v;rfl
 |succ n ih=>
  intro v;have hl:∀l:List ap,(l.map (fz true false 0 σ n)).map (fz true false 0 τ n)=l.map (fz true false 0 σ n):=fun l=>by
   rw[bD];exact aU fun x _=>ih x
  cases v with
  |agg cs=>simp only[fz];rw[hl]
  |tup cs=>simp only[fz];rw[hl]
  |fn f a c=>simp only[fz];rw[hl,hl]
  |aa b xs=>cases b<;>simp[fz]
  |cptr b x o=>
   cases b
   ·simp[fz]
   by_cases h:aC (fz true false 0 σ n x)=aC x
   ·simp[fz,iF,h,ih]
   simp[fz,iF,h]
  |imap b xs=>cases b<;>simp[fz]
  |lst xs=>
   by_cases h:(xs.map (fz true false 0 σ n)).map aC=xs.map aC
   ·simp only[fz,kU,if_pos h];rfl
   simp only[fz,kU,if_neg h]
  |sl id ep off len=>
   simp only[fz,cF,bQ];cases sliceAt σ id ep off len with
   |none=>simp[fz]
   |some l=>
    by_cases h:(l.map (fz true false 0 σ n)).map aC=l.map aC
    ·simp only[Option.elim,kU,if_pos h,fz];rfl
    simp only[Option.elim,kU,if_neg h,fz]
  |ptr id ep i off=>
   simp only[fz,cF,bQ];cases rS σ id ep i with
   |none=>simp[fz]
   |some x=>
    by_cases h:aC (fz true false 0 σ n x)=aC x
    ·simp[fz,iF,h,ih]
    simp[fz,iF,h]
  |asl id ep i off m=>simp[fz]
  |mp id=>
   simp only[fz,cF,bQ];cases gj σ id<;>simp[fz]
  |yld l s e=>
   simp[fz]
  |_=>simp[fz]
theorem pg(σ τ:aw)(v:ap):iC τ (iC σ v)=iC σ v:=Y9 σ τ dp v
section
variable {P:Code} (hP:P.Good)
include hP
theorem Lx{f:Nat}{g:aM}(h:P.fns f=.fn g)(hm:g.mode.isPure=true)(args:List ap)(σ:aw) :
  db P f args σ=((db P f (args.map (iC σ)) []).map (·.1)).map (·,σ):=by
 rw[vZ hP h,vZ hP h];have he:enter g args σ=enter g (args.map (iC σ)) []:=by
  have h1:((args.map (iC σ)).take g.np).map (iC [])=(args.take g.np).map (iC σ):=by
   rw[←List.map_take,bD];exact aU fun x _=>pg σ [] x
  unfold enter;cases hg:g.mode<;>rw[hg]at hm<;>first|exact absurd hm (by decide)|(simp only[h1])
 rw[he];cases run P g.body (enter g (args.map (iC σ)) []) with
 |none=>rfl
 |some r=>
  obtain⟨e,s⟩:=r;have key:(results s g.res).map (fun v=>gq g.mode σ s v)=(((results s g.res).map fun v=>gq g.mode [] s v).map (·.1)).map (·,σ):=by
   cases results s g.res with
   |none=>rfl
   |some v=>
    cases hg:g.mode<;>rw[hg]at hm<;>first|exact absurd hm (by decide)|rfl
  cases e with
  |ext _=>rfl
  |nrm=>exact key
  |ret=>exact key
theorem Ts{f:Nat}{g:aM}(h:P.fns f=.fn g)(hm:g.mode.isPure=true)(args:List ap) :
  (db P f args []).map (·.1)=(run P g.body ⟨(args.take g.np).map (iC [])++List.replicate (g.nenv-g.np) .any,[]⟩).bind fun r=>match r.1 with
   |.ext _=>none
   |_=>(results r.2 g.res).map fun v=>(gq g.mode [] r.2 v).1:=by
 rw[vZ hP h];have he:enter g args []=⟨(args.take g.np).map (iC [])++List.replicate (g.nenv-g.np) .any,[]⟩:=by
  unfold enter;cases hg:g.mode<;>rw[hg]at hm<;>first|exact absurd hm (by decide)|rfl
 rw[he];cases run P g.body _ with
 |none=>rfl
 |some r=>
  obtain⟨e,s⟩:=r;cases e with
  |ext _=>rfl
  |nrm=>show ((results s g.res).map _).map _=_;rw[Option.map_map];rfl
  |ret=>show ((results s g.res).map _).map _=_;rw[Option.map_map];rfl
end
end Go.AM
section
set_option maxRecDepth 8000
namespace Go.AM
abbrev cY(n:Nat)(g:aM):Prop:=code.fns n=.fn g
theorem gz:code.Good:=NY
noncomputable def bI(f:Nat)(args:List ap):Option ap:=(db code f args []).map (·.1)
theorem mY{f:Nat}{g:aM}(h:code.fns f=.fn g)(hm:g.mode.isPure=true)(args:List ap)(σ:aw) :
  db code f args σ=(bI f (args.map (iC σ))).map (·,σ):=Lx gz h hm args σ
abbrev bF(f:Nat):Prop:=∀(args:List ap) (σ:aw),db code f args σ=(bI f (args.map (iC σ))).map (·,σ)
theorem UM{f:Nat}{g:aM}(h:code.fns f=.fn g)(hm:g.mode.isPure=true)(args:List ap) :
  bI f args=(run code g.body ⟨(args.take g.np).map (iC [])++List.replicate (g.nenv-g.np) .any,[]⟩).bind fun r=>match r.1 with
   |.ext _=>none
   |_=>(results r.2 g.res).map fun v=>(gq g.mode [] r.2 v).1:=Ts gz h hm args
theorem aff:cY 1 P.aps:=rfl
theorem ajv:cY 2 P.anV:=rfl
theorem ag3:cY 3 P.apy:=rfl
theorem afh:cY 5 P.apH:=rfl
theorem aiG:cY 6 P.aoX:=rfl
theorem aj9:cY 7 P.aom:=rfl
theorem aeY:cY 9 P.apP:=rfl
theorem agK:cY 10 P.ao9:=rfl
theorem afg:cY 11 P.anW:=rfl
theorem W9:code.fns 12=.nilfn P.apv:=rfl
theorem afL:cY 13 P.apj:=rfl
theorem agv:cY 16 P.apZ:=rfl
theorem ahr:cY 17 P.aoC:=rfl
theorem ajM:cY 20 P.apE:=rfl
theorem ai0:cY 21 P.apg:=rfl
theorem afx:cY 22 P.apk:=rfl
theorem ae3:cY 26 P.apM:=rfl
theorem akC:cY 27 P.an1:=rfl
theorem akA:cY 28 P.anQ:=rfl
theorem agP:cY 29 P.aoN:=rfl
theorem ai9:cY 30 P.apw:=rfl
theorem ajB:cY 31 P.anU:=rfl
theorem ajF:cY 32 P.anS:=rfl
theorem aiC:cY 33 P.anO:=rfl
theorem ae2:cY 34 P.apQ:=rfl
theorem ag5:cY 36 P.api:=rfl
theorem akp:cY 37 P.aoZ:=rfl
theorem ajW:cY 38 P.apW:=rfl
theorem agu:cY 39 P.apa:=rfl
theorem agY:cY 40 P.ap3:=rfl
theorem afR:cY 41 P.aof:=rfl
theorem afJ:cY 42 P.apo:=rfl
theorem aic:cY 48 P.aoB:=rfl
theorem ai8:cY 49 P.aoO:=rfl
theorem ahp:cY 50 P.apu:=rfl
theorem ahf:cY 52 P.apO:=rfl
theorem ahe:cY 53 P.aoh:=rfl
theorem ahJ:cY 54 P.aoL:=rfl
theorem aau:code.fns 64=.nilfn P.apU:=rfl
theorem ag2:cY 69 P.aoa:=rfl
theorem abS:code.fns 70=.nilfn P.apm:=rfl
theorem aaY:code.fns 71=.nilfn P.ao3:=rfl
theorem abd:code.fns 72=.nilfn P.ap5:=rfl
theorem akw:cY 74 P.ap6:=rfl
theorem ajr:cY 75 P.aoT:=rfl
theorem agE:cY 76 P.aph:=rfl
theorem Ub:cY 77 P.an8:=rfl
theorem ajY:cY 78 P.ape:=rfl
theorem aar:cY 79 P.aoY:=rfl
theorem ahR:cY 80 P.an6:=rfl
theorem abi:cY 85 P.aoQ:=rfl
theorem ajn:cY 86 P.ao0:=rfl
theorem agR:cY 87 P.apd:=rfl
theorem aeW:cY 88 P.ao1:=rfl
theorem agh:cY 91 P.ao5:=rfl
theorem ahs:cY 92 P.apA:=rfl
theorem abl:cY 104 P.aou:=rfl
theorem aiT:cY 105 P.apn:=rfl
theorem aai:cY 106 P.aoz:=rfl
@[simp] theorem afF:bF 106:=mY aai rfl
theorem aa8:cY 118 P.aoF:=rfl
theorem ajN:cY 119 P.apb:=rfl
theorem aaS:cY 158 P.aoE:=rfl
theorem aiR:cY 159 P.an3:=rfl
theorem ahF:cY 160 P.apK:=rfl
theorem ahx:cY 161 P.aoG:=rfl
theorem aaL:cY 171 P.anZ:=rfl
theorem ahQ:cY 172 P.aoH:=rfl
theorem aaN:cY 173 P.aog:=rfl
theorem ai6:cY 174 P.ao2:=rfl
theorem amp:cY 175 P.aoP:=rfl
theorem alN:cY 176 P.ao8:=rfl
theorem al2:cY 177 P.apt:=rfl
theorem af8:cY 178 P.apC:=rfl
theorem ajm:cY 179 P.aoK:=rfl
theorem afu:cY 180 P.anT:=rfl
theorem afz:cY 181 P.aoS:=rfl
theorem abI:cY 182 P.aoM:=rfl
theorem abL:cY 183 P.aoV:=rfl
theorem agA:cY 184 P.aoo:=rfl
theorem ajI:cY 186 P.aoy:=rfl
theorem ag0:cY 187 P.anK:=rfl
theorem ahK:cY 188 P.ap4:=rfl
theorem ahz:cY 191 P.apY:=rfl
theorem af1:cY 199 P.apN:=rfl
theorem aaW:cY 200 P.an2:=rfl
@[simp] theorem ahw:bF 200:=mY aaW rfl
theorem ajH:cY 201 P.apL:=rfl
theorem Uq:cY 202 P.aoI:=rfl
@[simp] theorem ajg:bF 202:=mY Uq rfl
theorem agi:cY 203 P.apI:=rfl
theorem ajf:cY 216 P.apl:=rfl
theorem aga:cY 217 P.ap2:=rfl
theorem aki:cY 218 P.aoe:=rfl
theorem ajG:cY 219 P.apr:=rfl
theorem ahW:cY 220 P.an9:=rfl
theorem ah8:cY 221 P.aow:=rfl
theorem agm:cY 222 P.apT:=rfl
theorem aan:cY 223 P.apV:=rfl
theorem ajQ:cY 224 P.aos:=rfl
theorem akl:cY 225 P.aon:=rfl
theorem ahV:cY 226 P.aoD:=rfl
theorem ae5:cY 227 P.anX:=rfl
theorem ajz:cY 228 P.apf:=rfl
theorem ahZ:cY 229 P.aoA:=rfl
theorem aiY:cY 230 P.aot:=rfl
theorem agI:cY 231 P.aok:=rfl
theorem Qf:cY 232 P.anJ:=rfl
theorem aaC:cY 233 P.aoi:=rfl
theorem akr:cY 234 P.ao4:=rfl
theorem aix:cY 235 P.apz:=rfl
theorem ako:cY 236 P.apG:=rfl
theorem aeK:cY 237 P.aoj:=rfl
theorem ahE:cY 238 P.anY:=rfl
theorem afK:cY 239 P.apR:=rfl
theorem ait:cY 240 P.apq:=rfl
theorem ajd:cY 241 P.aov:=rfl
theorem afn:cY 242 P.aox:=rfl
theorem ajA:cY 243 P.aol:=rfl
theorem aht:cY 244 P.aop:=rfl
theorem Ar:cY 245 P.anI:=rfl
theorem aiy:cY 246 P.anL:=rfl
theorem ae4:cY 247 P.anF:=rfl
theorem ai1:cY 248 P.apB:=rfl
theorem ahh:cY 249 P.ap0:=rfl
theorem aiE:cY 250 P.apX:=rfl
theorem akk:cY 251 P.apD:=rfl
theorem ai7:cY 252 P.apF:=rfl
theorem afC:cY 253 P.ao6:=rfl
theorem afD:cY 254 P.aoq:=rfl
theorem afU:cY 255 P.apJ:=rfl
theorem ai5:cY 256 P.ap1:=rfl
theorem ahP:cY 257 P.anR:=rfl
theorem aiB:cY 258 P.aod:=rfl
theorem afd:cY 259 P.anP:=rfl
theorem agC:cY 260 P.an0:=rfl
theorem ahX:cY 261 P.apS:=rfl
theorem agz:cY 262 P.aoJ:=rfl
theorem akq:cY 263 P.an5:=rfl
theorem aeX:cY 264 P.anN:=rfl
theorem afl:cY 265 P.aoc:=rfl
theorem ahj:cY 266 P.aoR:=rfl
theorem ahC:cY 267 P.an4:=rfl
theorem ahO:cY 268 P.apx:=rfl
theorem akz:cY 269 P.anM:=rfl
theorem afi:cY 270 P.aoW:=rfl
theorem aas:cY 271 P.aoU:=rfl
theorem agH:cY 272 P.apc:=rfl
theorem afS:cY 273 P.aor:=rfl
theorem af5:cY 274 P.aob:=rfl
theorem agf:cY 277 P.an7:=rfl
theorem ahy:cY 278 P.ao7:=rfl
theorem zR:code.fns 8=.prim 4:=rfl
theorem vG:code.fns 43=.prim 2:=rfl
@[simp] theorem ak3:bF 1∧bF 2∧bF 3∧bF 5∧bF 6∧bF 7∧bF 9∧bF 10∧bF 11∧bF 13∧bF 16∧bF 17∧bF 21∧bF 22∧bF 26∧bF 27∧bF 28∧bF 29∧bF 30∧bF 32∧bF 33∧bF 34∧bF 36∧bF 37∧bF 38∧bF 39∧bF 40∧bF 41∧bF 42∧bF 49∧bF 50∧bF 52∧bF 53∧bF 54∧bF 69∧bF 74∧bF 75∧bF 76∧bF 85∧bF 86:=by and_intros<;>exact mY rfl rfl
@[simp] theorem aia:bF 87∧bF 88∧bF 92∧bF 104∧bF 119∧bF 120∧bF 121∧bF 122∧bF 134∧bF 160∧bF 161∧bF 162∧bF 171∧bF 172∧bF 174∧bF 175∧bF 176∧bF 177∧bF 178∧bF 183∧bF 184∧bF 185∧bF 186∧bF 187∧bF 188∧bF 191∧bF 198∧bF 199∧bF 203∧bF 216∧bF 217∧bF 218∧bF 219∧bF 220∧bF 221∧bF 222∧bF 223∧bF 224∧bF 225∧bF 227:=by and_intros<;>exact mY rfl rfl
@[simp] theorem agF:bF 228∧bF 230∧bF 231∧bF 234∧bF 235∧bF 236∧bF 237∧bF 238∧bF 239∧bF 240∧bF 246∧bF 247∧bF 248∧bF 249∧bF 250∧bF 251∧bF 252∧bF 253∧bF 254∧bF 255∧bF 256∧bF 257∧bF 258∧bF 259∧bF 260∧bF 261∧bF 262∧bF 263∧bF 264∧bF 265∧bF 266∧bF 267∧bF 268∧bF 269∧bF 270∧bF 272∧bF 273∧bF 274∧bF 277∧bF 278:=by and_intros<;>exact mY rfl rfl
end Go.AM
end
namespace Go.AM
noncomputable def Dq(b:av)(r:Option (Ex×St)):Option (Ex×St):=r.bind fun r=>match r.1 with
 |.nrm=>run code b r.2
 |e=>some (e,r.2)
noncomputable def zV(env:List ap)(is:List bC)(ls:List ap)(q:Option (ap×aw)):Option (List ap×aw):=
 q.bind fun q=>mo code env is (ls++[q.1]) q.2
noncomputable def DJ(env:List ap)(i:bC)(is:List bC)(ls:List ap)(σ:aw)(t:Option Bool):Option (List ap×aw):=
 match t with
 |some true=>zV env is ls (step code env ls σ i.op)
 |some false=>mo code env is (ls++[.tup []]) σ
 |none=>none
def RK(env:List ap)(os:List (Nat×cB))(r:Option (List ap×aw)):Option (Ex×St):=
 r.map fun r=>(.nrm,⟨qm env env r.1 os,r.2⟩)
def AN(id:Nat)(r:Option (Ex×St)):Option (Ex×St):=r.map fun r=>match r.1 with
 |.ext j=>if j=id then (.nrm,r.2) else r
 |_=>r
noncomputable def Dv(a b:av)(s:St)(c:ap):Option (Ex×St):=match c with
 |.bool true=>run code a s
 |.bool false=>run code b s
 |_=>none
noncomputable def dE(base:Nat)(clr:List Nat)(b:av)(r:Option (Ex×St)):Option (Ex×St):=r.bind fun r=>match r.1 with
 |.nrm=>cc code base clr b (aT base clr r.2)
 |e=>some (e,r.2)
def QC(l:Nat)(env:List ap)(r:Option (ap×aw)):Option (Ex×St):=r.bind fun r=>tH l env r.2
noncomputable def LF(env:List ap)(b:av)(r:Option aw):Option (Ex×St):=r.bind fun σ=>run code b ⟨env,σ⟩
noncomputable def Qt(env:List ap)(is:List bC)(ls:List ap)(ss:List aw)(q:Option (ap×aw)):Option (List ap×List aw×aw):=
 q.bind fun q=>yM code env is (ls++[q.1]) ss q.2
noncomputable def U7(env:List ap)(i:bC)(is:List bC)(ls:List ap)(ss:List aw)(σ:aw)(t:Option Bool):Option (List ap×List aw×aw):=
 match t with
 |some true=>Qt env is ls (ss++[σ]) (step code env ls σ i.op)
 |some false=>yM code env is (ls++[.tup []]) (ss++[σ]) σ
 |none=>none
noncomputable def Q4(env:List ap)(os:List (Nat×cB))(is:List bC)(chk:List (Nat×Nat))(r:Option (List ap×List aw×aw)):Option (Ex×St):=
 r.bind fun r=>(qv code env r.1 is (r.2.1++[r.2.2]) chk).map fun _=>(.nrm,⟨qm env env r.1 os,r.2.2⟩)
noncomputable def DB(env ls:List ap)(is:List bC)(ss:List aw)(n:Nat)(τ:aw)(l:List (Nat×Nat))(q:Option (ap×aw)):Option Unit:=
 q.bind fun q=>if same q.1 (lU ls n)&&oL q.2 τ then qv code env ls is ss l else none
noncomputable def Wl(env ls:List ap)(is:List bC)(ss:List aw)(n:Nat)(l:List (Nat×Nat))(i:Option bC)(t:Option aw):Option Unit:=
 match i,t with
 |some i,some τ=>DB env ls is ss n τ l (step code env (ls.take n) τ i.op)
 |_,_=>none
def jF(m:AC)(res:List K0)(r:Option (Ex×St)):Option ap:=r.bind fun r=>match r.1 with
 |.ext _=>none
 |_=>(results r.2 res).map fun v=>(gq m [] r.2 v).1
@[simp ↓] theorem zW(a b:av)(s:St):run code (.seq a b) s=Dq b (run code a s):=Zk gz a b s
@[simp ↓] theorem alh(s:St):run code .skip s=some (.nrm,s):=Ve gz s
@[simp ↓] theorem alx(id:Nat)(s:St):run code (.exit id) s=some (.ext id,s):=W3 gz id s
@[simp ↓] theorem amJ(s:St):run code .ret s=some (.ret,s):=YK gz s
@[simp ↓] theorem amH(is:List bC)(os:List (Nat×cB))(env:List ap)(σ:aw):run code (.reg is os) ⟨env,σ⟩=RK env os (mo code env is [] σ):=Zr gz is os _
@[simp ↓] theorem amk(c:cB)(a b:av)(env:List ap)(σ:aw):run code (.cond c a b) ⟨env,σ⟩=Dv a b ⟨env,σ⟩ (c.eval env []):=by
 rw[UI gz];rfl
@[simp ↓] theorem amG(id:Nat)(b:av)(s:St):run code (.blk id b) s=AN id (run code b s):=XP gz id b s
@[simp ↓] theorem akP(b:av)(s:St):run code (.scope b) s=run code b s:=Sp gz b s
@[simp ↓] theorem alO(clr:List Nat)(b:av)(env:List ap)(σ:aw):run code (.loop clr b) ⟨env,σ⟩=cc code σ.length clr b ⟨clear env clr,σ⟩:=Xg gz clr b _
@[simp ↓] theorem amR(k:Nat)(f:cB)(site:Nat)(env:List ap)(σ:aw):run code (.rng k f site) ⟨env,σ⟩=if env.length=k then QC σ.length env (IB code (f.eval env []) [.yld σ.length site env] (σ++[.pend false none])) else none:=Yl gz k f site _
@[simp ↓] theorem alv(i off k:Nat)(b:av)(env:List ap)(σ:aw):run code (.lift i off k b) ⟨env,σ⟩=LF env b (EV (lU env i) off k σ):=UE gz i off k b _
@[simp ↓] theorem alW(is:List bC)(os:List (Nat×cB))(chk:List (Nat×Nat))(env:List ap)(σ:aw):run code (.regd is os chk) ⟨env,σ⟩=Q4 env os is chk (yM code env is [] [] σ):=Vm gz is os chk _
@[simp ↓] theorem amI(env ls:List ap)(ss:List aw)(σ:aw):yM code env [] ls ss σ=some (ls,ss,σ):=Xk gz env ls ss σ
@[simp ↓] theorem T_i(env ls:List ap)(ss:List aw)(σ:aw)(o:F4)(is:List bC):yM code env (P.i o::is) ls ss σ=Qt env is ls (ss++[σ]) (step code env ls σ o):=HN gz env _ is ls ss σ
@[simp ↓] theorem T_g(env ls:List ap)(ss:List aw)(σ:aw)(x:cB)(b:Bool)(o:F4)(is:List bC) :
  yM code env (P.g x b o::is) ls ss σ=U7 env (P.g x b o) is ls ss σ (wanted env ls (some (x,b))):=HN gz env _ is ls ss σ
@[simp] theorem akM(env:List ap)(x:cB)(b:Bool)(o:F4)(is:List bC)(ls:List ap)(ss:List aw)(σ:aw) :
  U7 env (P.g x b o) is ls ss σ (some true)=Qt env is ls (ss++[σ]) (step code env ls σ o):=rfl
@[simp] theorem akU(env:List ap)(i:bC)(is:List bC)(ls:List ap)(ss:List aw)(σ:aw) :
  U7 env i is ls ss σ (some false)=yM code env is (ls++[.tup []]) (ss++[σ]) σ:=rfl
@[simp] theorem acX(env:List ap)(is:List bC)(ls:List ap)(ss:List aw)(v:ap)(σ:aw):Qt env is ls ss (some (v,σ))=yM code env is (ls++[v]) ss σ:=rfl
@[simp] theorem ZZ(env:List ap)(os:List (Nat×cB))(is:List bC)(chk:List (Nat×Nat))(ls:List ap)(ss:List aw)(σ:aw) :
  Q4 env os is chk (some (ls,ss,σ))=(qv code env ls is (ss++[σ]) chk).map fun _=>(.nrm,⟨qm env env ls os,σ⟩):=rfl
@[simp ↓] theorem amM(env ls:List ap)(is:List bC)(ss:List aw):qv code env ls is ss []=some ():=Pe gz env ls is ss
@[simp ↓] theorem alG(env ls:List ap)(is:List bC)(ss:List aw)(n j:Nat)(l:List (Nat×Nat)):qv code env ls is ss ((n,j)::l)=Wl env ls is ss n l is[n]? ss[j]?:=by
 rw[Lj gz];unfold Wl DB;cases is[n]?<;>cases ss[j]?<;>rfl
@[simp] theorem aeh(env ls:List ap)(is:List bC)(ss:List aw)(n:Nat)(l:List (Nat×Nat))(o:F4)(τ:aw):Wl env ls is ss n l (some (P.i o)) (some τ)=DB env ls is ss n τ l (step code env (ls.take n) τ o):=rfl
@[simp] theorem ZM(env ls:List ap)(is:List bC)(ss:List aw)(n:Nat)(τ:aw)(l:List (Nat×Nat))(v:ap)(σ:aw):DB env ls is ss n τ l (some (v,σ))=if same v (lU ls n)&&oL σ τ then qv code env ls is ss l else none:=rfl
@[simp] theorem XC(env:List ap)(b:av)(σ:aw):LF env b (some σ)=run code b ⟨env,σ⟩:=rfl
@[simp] theorem amT(f:Nat)(a c args:List ap)(σ:aw):IB code (.fn f a c) args σ=db code f (a++args++c) σ:=rfl
attribute [simp] ro ib yC
@[simp ↓] theorem amF(env ls:List ap)(σ:aw):mo code env [] ls σ=some (ls,σ):=OK gz env ls σ
@[simp ↓] theorem O_i(env ls:List ap)(σ:aw)(o:F4)(is:List bC):mo code env (P.i o::is) ls σ=zV env is ls (step code env ls σ o):=CJ gz env _ is ls σ
@[simp ↓] theorem O_g(env ls:List ap)(σ:aw)(x:cB)(b:Bool)(o:F4)(is:List bC) :
  mo code env (P.g x b o::is) ls σ=DJ env (P.g x b o) is ls σ (wanted env ls (some (x,b))):=CJ gz env _ is ls σ
@[simp] theorem alf(env:List ap)(x:cB)(b:Bool)(o:F4)(is:List bC)(ls:List ap)(σ:aw) :
  DJ env (P.g x b o) is ls σ (some true)=zV env is ls (step code env ls σ o):=rfl
@[simp] theorem amd(env:List ap)(i:bC)(is:List bC)(ls:List ap)(σ:aw) :
  DJ env i is ls σ (some false)=mo code env is (ls++[.tup []]) σ:=rfl
@[simp] theorem fD(b:av)(s:St):Dq b (some (.nrm,s))=run code b s:=rfl
@[simp] theorem aa2(b:av)(s:St)(id:Nat):Dq b (some (.ext id,s))=some (.ext id,s):=rfl
@[simp] theorem MV(b:av)(s:St):Dq b (some (.ret,s))=some (.ret,s):=rfl
@[simp] theorem Yc(env:List ap)(is:List bC)(ls:List ap)(v:ap)(σ:aw):zV env is ls (some (v,σ))=mo code env is (ls++[v]) σ:=rfl
@[simp] theorem Ym(env:List ap)(os:List (Nat×cB))(ls:List ap)(σ:aw):RK env os (some (ls,σ))=some (.nrm,⟨qm env env ls os,σ⟩):=rfl
@[simp] theorem abe(id:Nat)(s:St):AN id (some (.nrm,s))=some (.nrm,s):=rfl
@[simp] theorem aad(id:Nat)(s:St):AN id (some (.ret,s))=some (.ret,s):=rfl
@[simp] theorem abH(id j:Nat)(s:St):AN id (some (.ext j,s))=some (if j=id then (.nrm,s) else (.ext j,s)):=by
 simp[AN]
@[simp] theorem alo(a b:av)(s:St):Dv a b s (.bool true)=run code a s:=rfl
@[simp] theorem alk(a b:av)(s:St):Dv a b s (.bool false)=run code b s:=rfl
@[simp] theorem mA(m:AC)(res:List K0)(s:St):jF m res (some (.ret,s))=(results s res).map fun v=>(gq m [] s v).1:=rfl
@[simp] theorem XH(m:AC)(res:List K0)(s:St):jF m res (some (.nrm,s))=(results s res).map fun v=>(gq m [] s v).1:=rfl
theorem aQ{f:Nat}{g:aM}(h:code.fns f=.fn g)(hm:g.mode.isPure=true)(args:List ap) :
  bI f args=jF g.mode g.res (run code g.body ⟨(args.take g.np).map (iC [])++List.replicate (g.nenv-g.np) .any,[]⟩):=UM h hm args
@[simp ↓] theorem alw(env ls:List ap)(σ:aw)(f:Nat)(args:List cB)(mat:Bool) :
  step code env ls σ (.call f args mat)=(db code f (args.map (·.eval env ls)) σ).map (mater mat):=Te gz env ls σ f args mat
@[simp ↓] theorem akH(env ls:List ap)(σ:aw)(f:cB)(args:List cB) :
  step code env ls σ (.callv f args)=(mr code (f.eval env ls) (args.map (·.eval env ls)) σ).map (mater false):=O0 gz env ls σ f args
@[simp] theorem adN(f:Nat)(a c args:List ap)(σ:aw):mr code (.fn f a c) args σ=db code f (a++args++c) σ:=rfl
attribute [simp ↓] aiM adA aid XT XK ae6 adl YH acK adX ZH af7 acP ace ac4 ad1 adI afG agr ajc ZQ ajy ada Yk Vu WZ Vc ahT ac6 aje ajU adg adQ acr ad8 acs adx ajD YO Yr acm adE adZ aiu adp Y1 X4 XS afa ahu
attribute [simp] WI LO wR SY tF gW uf me lV xQ FB OE vM d7 tm sj ip EV Ba zz HI ZS eqb eqa isnil neg V8 Mx G4 Ea aslice Fw GM Ab Jc P2 Uu Mf wj Ln WS QY ZN fresh zA sliceAt rS T0 gj ue AI cB.eval lU qm clear wanted bin IQ shift una qN oP rd loadAt storeAt results wZ Kj gq We kP lE HT IU fill uQ
@[simp] theorem acL(cs:List ap):aC (.agg cs)=cs.length:=rfl
@[simp] theorem ac9(k:IntKind)(n:Int):aC (.int k n)=1:=rfl
@[simp] theorem aaz(b:Bool):aC (.bool b)=1:=rfl
@[simp] theorem aed(s:List UInt8):aC (.str s)=1:=rfl
@[simp] theorem acB(b:Bool)(xs:List ap):aC (.aa b xs)=1:=rfl
@[simp] theorem ad2(xs:List ap):aC (.lst xs)=1:=rfl
@[simp] theorem ab8:aC .ai=1:=rfl
@[simp] theorem aab:aC .nilp=1:=rfl
@[simp] theorem aa9:aC .nilf=1:=rfl
@[simp] theorem Z9:aC .nilm=1:=rfl
@[simp] theorem aes(a b c d:Nat):aC (.sl a b c d)=1:=rfl
@[simp] theorem ad9(a b c d:Nat):aC (.ptr a b c d)=1:=rfl
@[simp] theorem aaK(b:Bool)(x:ap)(o:Nat):aC (.cptr b x o)=1:=rfl
@[simp] theorem aeD(f:Nat)(a c:List ap):aC (.fn f a c)=1:=rfl
@[simp] theorem aew(i:Nat):aC (.mp i)=1:=rfl
@[simp] theorem aae(b:Bool)(e:List (ap×ap)):aC (.imap b e)=1:=rfl
@[simp] theorem aeG(cs:List ap):isAgg (.agg cs)=true:=rfl
@[simp] theorem aez(k:IntKind)(n:Int):isAgg (.int k n)=false:=rfl
@[simp] theorem acF(b:Bool):isAgg (.bool b)=false:=rfl
@[simp] theorem aeH(s:List UInt8):isAgg (.str s)=false:=rfl
@[simp] theorem aet(b:Bool)(xs:List ap):isAgg (.aa b xs)=false:=rfl
@[simp] theorem aeB(xs:List ap):isAgg (.lst xs)=false:=rfl
@[simp] theorem aeb:isAgg .ai=false:=rfl
@[simp] theorem adb:isAgg .nilp=false:=rfl
@[simp] theorem acb:isAgg .nilf=false:=rfl
@[simp] theorem ac3:isAgg .nilm=false:=rfl
@[simp] theorem afN(a b c d:Nat):isAgg (.sl a b c d)=false:=rfl
@[simp] theorem aem(a b c d:Nat):isAgg (.ptr a b c d)=false:=rfl
@[simp] theorem acn(b:Bool)(x:ap)(o:Nat):isAgg (.cptr b x o)=false:=rfl
@[simp] theorem ajs(f:Nat)(a c:List ap):isAgg (.fn f a c)=false:=rfl
@[simp] theorem ahU(i:Nat):isAgg (.mp i)=false:=rfl
@[simp] theorem adw(b:Bool)(e:List (ap×ap)):isAgg (.imap b e)=false:=rfl
@[simp] theorem aaw(cs:List ap):cellsOf (.agg cs)=cs:=rfl
@[simp] theorem abs(k:IntKind)(n:Int):cellsOf (.int k n)=[.int k n]:=rfl
@[simp] theorem Yu(b:Bool):cellsOf (.bool b)=[.bool b]:=rfl
@[simp] theorem ab3(s:List UInt8):cellsOf (.str s)=[.str s]:=rfl
@[simp] theorem abZ(b:Bool)(xs:List ap):cellsOf (.aa b xs)=[.aa b xs]:=rfl
@[simp] theorem ac7(a b c d:Nat):cellsOf (.sl a b c d)=[.sl a b c d]:=rfl
@[simp] theorem YE:cellsOf .ai=[.ai]:=rfl
@[simp] theorem acy(f:Nat)(a c:List ap):cellsOf (.fn f a c)=[.fn f a c]:=rfl
@[simp] theorem abj(a b c d:Nat):cellsOf (.ptr a b c d)=[.ptr a b c d]:=rfl
@[simp] theorem YW(b:Bool)(x:ap)(o:Nat):cellsOf (.cptr b x o)=[.cptr b x o]:=rfl
section
variable (fl top:Bool) (base:Nat) (σ:aw) (n:Nat)
@[simp] theorem aln(k:IntKind)(m:Int):fz fl top base σ (n+1) (.int k m)=.int k m:=by simp[fz]
@[simp] theorem akX(b:Bool):fz fl top base σ (n+1) (.bool b)=.bool b:=by simp[fz]
@[simp] theorem alJ(s:List UInt8):fz fl top base σ (n+1) (.str s)=.str s:=by simp[fz]
@[simp] theorem ak2:fz fl top base σ (n+1) .ai=if !fl&&top then .ai else .aa false []:=by simp[fz]
@[simp] theorem akL:fz fl top base σ (n+1) .nilp=.nilp:=by simp[fz]
@[simp] theorem alq:fz fl top base σ (n+1) .any=.any:=by simp[fz]
@[simp] theorem alM(b:Bool):fz fl top base σ (n+1) (.emp b)=.emp b:=by simp[fz]
@[simp] theorem alp(cs:List ap):fz fl top base σ (n+1) (.agg cs)=.agg (cs.map (fz fl top base σ n)):=by simp[fz]
@[simp] theorem alS(cs:List ap):fz fl top base σ (n+1) (.tup cs)=.tup (cs.map (fz fl top base σ n)):=by simp[fz]
@[simp] theorem amy(cs:List ap):fz fl top base σ (n+1) (.lst cs)=kU fl cs (cs.map (fz fl false base σ n)):=by simp[fz]
@[simp] theorem amO(f:Nat)(a c:List ap):fz fl top base σ (n+1) (.fn f a c)=.fn f (a.map (fz fl top base σ n)) (c.map (fz fl top base σ n)):=by simp[fz]
@[simp] theorem akY(xs:List ap):fz fl top base σ (n+1) (.aa false xs)=.aa false xs:=by simp[fz]
@[simp] theorem akZ(b:Bool)(xs:List ap):fz true top base σ (n+1) (.aa b xs)=.aa b xs:=by simp[fz]
@[simp] theorem akJ(b:Bool)(xs:List ap):fz fl true base σ (n+1) (.aa b xs)=.aa b xs:=by simp[fz]
@[simp] theorem aiP(x:ap)(o:Nat):fz fl top base σ (n+1) (.cptr false x o)=.cptr false x o:=by simp[fz]
@[simp] theorem aj7(x:ap)(o:Nat):fz true top base σ (n+1) (.cptr true x o)=iF true x (fz true false base σ n x) o:=by simp[fz]
@[simp] theorem aiL(x:ap)(o:Nat):fz false true base σ (n+1) (.cptr true x o)=iF true x (fz false true base σ n x) o:=by simp[fz]
@[simp] theorem amL(id ep off len:Nat):fz fl top base σ (n+1) (.sl id ep off len)=if id<base then (if top then .sl id ep off len else .any) else (sliceAt σ id ep off len).elim .any fun l=>kU fl l (l.map (fz fl false base σ n)):=by simp only[fz]
@[simp] theorem al9(id ep i off:Nat):fz fl top base σ (n+1) (.ptr id ep i off)=if id<base then (if top then .ptr id ep i off else .any) else (rS σ id ep i).elim .any fun x=>iF fl x (fz fl false base σ n x) off:=by simp only[fz]
@[simp] theorem amE(id:Nat):fz fl top base σ (n+1) (.mp id)=if id<base then (if top then .mp id else .any) else (gj σ id).elim .any fun es=>.imap fl (es.map fun e=>(e.1,fz fl false base σ n e.2)):=by simp only[fz]
end
attribute [simp] kU iF Ri Q5
@[simp] theorem aey(σ:aw)(v:ap):oV σ v=fz false false 0 σ 20 v:=rfl
@[simp] theorem Dd(σ:aw)(v:ap):iC σ v=fz true false 0 σ 20 v:=rfl
@[simp] theorem aen(b:Nat)(σ:aw)(v:ap):bG b σ v=fz false true b σ 20 v:=rfl
@[simp] theorem XF(k:IntKind)(n:Int)(σ:aw):mater false (.int k n,σ)=(.int k n,σ):=rfl
attribute [simp] mater ti
theorem dT{n:Int}(h:-9223372036854775808≤n∧n<9223372036854775808):IntKind.i64.wrap n=n:=by
 simp[IntKind.wrap,IntKind.bits,IntKind.signed];omega
end Go.AM
namespace Go.AM
theorem da{base:Nat}{clr:List Nat}{b:av}(I:Nat→St)(n:Nat)(r:Ex×St)
  (step:∀k,k<n→dE base clr b (run code b (I k))=cc code base clr b (I (k+1))) (last:dE base clr b (run code b (I n))=some r) :
  cc code base clr b (I 0)=some r:=by
 have key:∀m k,k+m=n→cc code base clr b (I k)=some r:=by
  intro m;induction m with
  |zero=>
   intro k hk;obtain rfl:k=n:=by omega
   rw[nr gz];exact last
  |succ m ih=>
   intro k hk;rw[nr gz];exact (step k (by omega)).trans (ih (k+1) (by omega))
 exact key n 0 (by omega)
@[simp] theorem Yj(base:Nat)(clr:List Nat)(b:av)(s:St):dE base clr b (some (.nrm,s))=cc code base clr b (aT base clr s):=rfl
@[simp] theorem XV(base:Nat)(clr:List Nat)(b:av)(s:St)(i:Nat):dE base clr b (some (.ext i,s))=some (.ext i,s):=rfl
@[simp] theorem Y2(base:Nat)(clr:List Nat)(b:av)(s:St):dE base clr b (some (.ret,s))=some (.ret,s):=rfl
theorem bX{base:Nat}{clr:List Nat}{env:List ap}{σ:aw}(h:σ.length=base):aT base clr ⟨env,σ⟩=⟨clear env clr,σ⟩:=by
 unfold aT;rw[if_pos h]
theorem bJ{k n:Nat}(h1:k<n)(h2:n≤aV):IntKind.i64.wrap ((k:Int)+1)=((k+1:Nat):Int):=by
 rw[dT (by unfold aV at h2;omega)];omega
end Go.AM
namespace Go.AM
def dm{α σ ρ:Type}(g:Nat→α→σ→σ⊕ρ):List α→Nat→σ→σ⊕ρ
 |[],_,s=>.inl s
 |a::l,k,s=>match g k a s with
  |.inl s'=>dm g l (k+1) s'
  |.inr r=>.inr r
theorem gx(base:Nat)(clr:List Nat)(b:av)(s:St):cc code base clr b s=dE base clr b (run code b s):=nr gz base clr b s
theorem eL{α σ ρ:Type}{base:Nat}{clr:List Nat}{b:av}(l:List α)(S:Nat→σ→St)(vE:Nat→σ→Prop)(g:Nat→α→σ→σ⊕ρ)(E:σ→Ex×St)(Q:ρ→Ex×St→Prop)
  (hstep:∀k y s,k<l.length→l[k]?=some y→vE k s→match g k y s with
   |.inl s'=>dE base clr b (run code b (S k s))=cc code base clr b (S (k+1) s')∧vE (k+1) s'
   |.inr r=>∃o,dE base clr b (run code b (S k s))=some o∧Q r o)
  (hend:∀s,vE l.length s→dE base clr b (run code b (S l.length s))=some (E s)) (s:σ) (h:vE 0 s) :
  match dm g l 0 s with
   |.inl s'=>vE l.length s'∧cc code base clr b (S 0 s)=some (E s')
   |.inr r=>∃o,cc code base clr b (S 0 s)=some o∧Q r o:=by
 have key:∀(m:List α) k s,l.drop k=m→k≤l.length→vE k s→match dm g m k s with
   |.inl s'=>vE l.length s'∧cc code base clr b (S k s)=some (E s')
   |.inr r=>∃o,cc code base clr b (S k s)=some o∧Q r o:=by
  intro m;induction m with
  |nil=>
   intro k s hd hk hi;have:k=l.length:=by
    have:=congrArg List.length hd;simp at this;omega
   subst this;simp only[dm];exact⟨hi,by rw[gx];exact hend s hi⟩
  |cons y m ih=>
   intro k s hd hk hi;have aj:k<l.length:=by
    have:=congrArg List.length hd;simp at this;omega
   have hy:l[k]?=some y:=by
    have:=congrArg (·[0]?) hd;simpa using this
   have hm:l.drop (k+1)=m:=by
    have:=congrArg List.tail hd;simpa [fY] using this
   have hs:=hstep k y s aj hy hi;rw[gx];simp only[dm];cases hg:g k y s with
   |inl s'=>
    rw[hg]at hs;simp only at hs ⊢;rw[hs.1];exact ih (k+1) s' hm (by omega) hs.2
   |inr r=>
    rw[hg]at hs;exact hs
 exact key l 0 s (by simp) (cd _) h
theorem gf{α:Type}{base:Nat}{clr:List Nat}{b:av}(l:List α)(S:Nat→St)(p:α→Bool)(E:Ex×St)(Q:Ex×St→Prop)
  (hno:∀k y,k<l.length→l[k]?=some y→p y=false→dE base clr b (run code b (S k))=cc code base clr b (S (k+1)))
  (hyes:∀k y,k<l.length→l[k]?=some y→p y=true→∃o,dE base clr b (run code b (S k))=some o∧Q o)
  (hend:dE base clr b (run code b (S l.length))=some E) :
  (l.any p=false∧cc code base clr b (S 0)=some E)∨(l.any p=true∧∃o,cc code base clr b (S 0)=some o∧Q o):=by
 have h:=eL (σ:=Unit) (ρ:=Unit) (base:=base) (clr:=clr) (b:=b) l (fun k _=>S k) (fun _ _=>True) (fun _ y _=>if p y then .inr () else .inl ()) (fun _=>E) (fun _=>Q)
  (fun k y s hk hy _=>by
   cases hp:p y
   ·simpa using hno k y hk hy hp
   simpa using hyes k y hk hy hp) (fun _ _=>hend) () trivial
 have hf:∀(m:List α) k,dm (fun _ y _=>if p y then .inr () else .inl ()) m k ()=if m.any p then .inr () else (.inl ():Unit⊕Unit):=by
  intro m;induction m with
  |nil=>intro k;rfl
  |cons a m ih=>
   intro k;cases hp:p a<;>simp[dm,hp,ih]
 rw[hf]at h;cases hp:l.any p
 ·rw[hp]at h;exact .inl ⟨rfl,h.2⟩
 rw[hp]at h;exact .inr ⟨rfl,h⟩
theorem Nq{α β:Type}{base:Nat}{clr:List Nat}{b:av}(l:List α)(S:Nat→Nat→List β→St)(f:α→List β)(E:Nat→List β→Ex×St)(m:Nat)
  (hm:∀y∈l,(f y).length≤m)
  (hstep:∀k y ep acc,k<l.length→l[k]?=some y→acc.length≤k*m→∃ep',dE base clr b (run code b (S k ep acc))=cc code base clr b (S (k+1) ep' (acc++f y)))
  (hend:∀ep acc,acc.length≤l.length*m→dE base clr b (run code b (S l.length ep acc))=some (E ep acc)) (ep0:Nat) :
  ∃ep,cc code base clr b (S 0 ep0 [])=some (E ep (l.flatMap f)):=by
 have key:∀(r:List α) k ep acc,l.drop k=r→k≤l.length→acc.length≤k*m→∃ep',cc code base clr b (S k ep acc)=some (E ep' (acc++r.flatMap f)):=by
  intro r;induction r with
  |nil=>
   intro k ep acc hd hk ha;have:k=l.length:=by
    have:=congrArg List.length hd;simp at this;omega
   subst this;exact⟨ep,by rw[gx,hend ep acc ha];simp⟩
  |cons y r ih=>
   intro k ep acc hd hk ha;have aj:k<l.length:=by
    have:=congrArg List.length hd;simp at this;omega
   have hy:l[k]?=some y:=by
    have:=congrArg (·[0]?) hd;simpa using this
   have hr:l.drop (k+1)=r:=by
    have:=congrArg List.tail hd;simpa [fY] using this
   obtain⟨ep',hs⟩:=hstep k y ep acc aj hy ha;have hym:y∈l:=aD hy
   obtain⟨e2,h2⟩:=ih (k+1) ep' (acc++f y) hr (by omega) (by
    rw[dD,Nat.succ_mul];have:=hm y hym;omega)
   exact⟨e2,by rw[gx,hs,h2];simp⟩
 have:=key l 0 ep0 [] (by simp) (cd _) (by simp);simpa using this
end Go.AM
namespace Go.AM
theorem eh{α σ:Type}{base:Nat}{clr:List Nat}{b:av}(l:List α)(S:Nat→σ→St)(vE:Nat→σ→Prop)(g:σ→α→σ)(E:σ→Ex×St)
  (hstep:∀k y s,k<l.length→l[k]?=some y→vE k s→dE base clr b (run code b (S k s))=cc code base clr b (S (k+1) (g s y))∧vE (k+1) (g s y))
  (hend:∀s,vE l.length s→dE base clr b (run code b (S l.length s))=some (E s)) (s:σ) (h:vE 0 s) :
  cc code base clr b (S 0 s)=some (E (l.foldl g s))∧vE l.length (l.foldl g s):=by
 have:=eL (ρ:=Empty) (base:=base) (clr:=clr) (b:=b) l S vE (fun _ y s=>.inl (g s y)) E (fun r _=>r.elim) (fun k y s hk hy hi=>hstep k y s hk hy hi) hend s h;have hf:∀(m:List α) k s,dm (ρ:=Empty) (fun _ y s=>.inl (g s y)) m k s=.inl (m.foldl g s):=by
  intro m;induction m with
  |nil=>intro k s;rfl
  |cons a m ih=>intro k s;simp only[dm,dh];exact ih _ _
 rw[hf]at this;exact⟨this.2,this.1⟩
end Go.AM
namespace Go.AM
open P
set_option maxHeartbeats 1000000
end Go.AM
namespace Go.AM
theorem Vr{n f:Nat}{args:List ap}{σ:aw}{r:ap×aw}(h:dG code n f args σ=some r):db code f args σ=some r:=EP (ku gz f args σ) h
theorem gM{n f:Nat}{args:List ap}{v:ap}{σ:aw}(h:dG code n f args []=some (v,σ)):bI f args=some v:=by
 unfold bI;rw[Vr h];rfl
end Go.AM
namespace Go.AM
open P
set_option maxHeartbeats 2000000
theorem jC(base:Nat)(clr:List Nat)(b:av)(s:St):cc code base clr b s=dE base clr b (run code b s):=nr gz base clr b s
end Go.AM
namespace Go.AM
open P
set_option maxHeartbeats 2000000
set_option maxRecDepth 4000
theorem sU{g:aM}(hm:g.mode.isPure=true)(args:List ap)(σ:aw):kw code g args σ=((kw code g (args.map (iC σ)) []).map (·.1)).map (·,σ):=by
 unfold kw;have he:enter g args σ=enter g (args.map (iC σ)) []:=by
  have h1:((args.map (iC σ)).take g.np).map (iC [])=(args.take g.np).map (iC σ):=by
   rw[←List.map_take,bD];exact aU fun x _=>pg σ [] x
  unfold enter;cases hg:g.mode<;>rw[hg]at hm<;>first|exact absurd hm (by decide)|(simp only[h1])
 rw[he];cases run code g.body (enter g (args.map (iC σ)) []) with
 |none=>rfl
 |some r=>
  obtain⟨e,s⟩:=r;have key:(results s g.res).map (fun v=>gq g.mode σ s v)=(((results s g.res).map fun v=>gq g.mode [] s v).map (·.1)).map (·,σ):=by
   cases results s g.res with
   |none=>rfl
   |some v=>
    cases hg:g.mode<;>rw[hg]at hm<;>first|exact absurd hm (by decide)|rfl
  cases e with
  |ext _=>rfl
  |nrm=>exact key
  |ret=>exact key
theorem rj{f:Nat}{g:aM}(h:code.fns f=.nilfn g)(hm:g.mode.isPure=true)(b:Bool)(xs:List ap)(σ:aw) :
  db code f [.aa b xs] σ=(bI f [.aa b xs]).map (·,σ):=by
 unfold bI;rw[iV gz h,iV gz h];have hE:ip σ (.aa b xs)=ip [] (.aa b xs):=by simp[ip,rd]
 rw[hE];have hk:∀(x:ap),(∀τ,iC τ x=x)→kw code g [x] σ=((kw code g [x] []).map (·.1)).map (·,σ):=fun x hx=>by
  have:=sU hm [x] σ;simpa only [cH,cE,hx] using this
 have hk0:∀(x:ap),(∀τ,iC τ x=x)→kw code g [x] []=((kw code g [x] []).map (·.1)).map (·,([]:aw)):=fun x hx=>by
  have:=sU hm [x] [];simpa only [cH,cE,hx] using this
 have h1:∀τ,iC τ (.aa b xs)=.aa b xs:=fun τ=>by simp
 have h2:∀t τ,iC τ (.emp t)=.emp t:=fun t τ=>by simp
 cases ip [] (.aa b xs) with
 |false=>simpa using hk _ h1
 |true=>
  simp only[bU];rw[hk _ (h2 true),hk _ (h2 false),hk0 _ (h2 true),hk0 _ (h2 false)];cases kw code g [.emp true] [] with
  |none=>rfl
  |some r=>cases kw code g [.emp false] [] with
   |none=>rfl
   |some q=>
    simp only[cL,dk,yC,fv];split<;>rfl
def Plain(v:ap):Prop:=aC v=4∧isAgg v=true∧∀fl top base σ n,fz fl top base σ (n+2) v=v
structure amP (r:List ap):Prop where
 vals:∀v∈r,Plain v
 clone:bI I.slices_Clone_api_Row_api_Value [.aa false r]=some (.frs 4 r)
 right:bI I.row_right [.aa false r]=some (.bool true)
def abQ(rs:List (List ap)):List ap:=rs.map (.aa false)
@[simp] theorem X9(rs:List (List ap)):(abQ rs).map aC=List.replicate rs.length 1:=by
 simp only[abQ,bD];rw[jk];exact⟨by simp,fun x hx=>by simp at hx;obtain⟨_,_,rfl⟩:=hx;rfl⟩
end Go.AM
namespace Go.AM
structure OF {α:Type} (c:α→α→Int):Prop where
 anti:∀x y,c x y<0↔0<c y x
 tr:∀x y z,c x y≤0→c y z≤0→c x z≤0
namespace OF
variable {α:Type} {c d:α→α→Int}
theorem lt_le(h:OF c){x y z:α}(h1:c x y<0)(h2:c y z≤0):c x z<0:=by
 have a1:=h.anti x z;have a2:=h.anti x y;have a3:=h.tr y z x h2;omega
theorem le_lt(h:OF c){x y z:α}(h1:c x y≤0)(h2:c y z<0):c x z<0:=by
 have a1:=h.anti x z;have a2:=h.anti y z;have a3:=h.tr z x y;omega
theorem zero(h:OF c){x y:α}:c x y=0↔c y x=0:=by
 have:=h.anti x y;have:=h.anti y x;omega
end OF
def lex(a b:Int):Int:=if a≠0 then a else b
theorem OF.lex{α:Type}{c d:α→α→Int}(hc:OF c)(hd:OF d):OF fun x y=>lex (c x y) (d x y) where
 anti x y:=by
  have h1:=hc.anti x y;have h2:=hc.anti y x;have h3:=hd.anti x y;unfold Go.AM.lex;split<;>split<;>omega
 tr x y z h1 h2:=by
  unfold Go.AM.lex at *;have a1:=fun h=>hc.lt_le (x:=x) (y:=y) (z:=z) h;have a2:=fun h h'=>hc.le_lt (x:=x) (y:=y) (z:=z) h h';have a3:=hc.tr x y z;have a4:=hd.tr x y z;have a5:=hc.anti x z;have a6:=hc.tr z y x;have a7:=hc.anti x y;have a8:=hc.anti y z;have a9:=hc.anti y x;have b1:=hc.anti z y;have b2:=hc.anti z x;split at h1<;>split at h2<;>split<;>omega
theorem OF.on{α β:Type}{c:α→α→Int}(h:OF c)(f:β→α):OF fun x y=>c (f x) (f y):=⟨fun x y=>h.anti _ _,fun x y z=>h.tr _ _ _⟩
theorem OF.neg{α:Type}{c:α→α→Int}(h:OF c):OF fun x y=>-c x y where
 anti x y:=by have:=h.anti y x;have:=h.anti x y;omega
 tr x y z h1 h2:=by
  have a1:=h.tr z y x;have a2:=h.anti x y;have a3:=h.anti y z;have a4:=h.anti x z;have a5:=h.anti y x;have a6:=h.anti z y;have a7:=h.anti z x;omega
structure nQ where
 k:Int
 n:Int
 u:Int
 s:List UInt8
 deriving DecidableEq,Inhabited
section
variable {α:Type} (c:α→α→Int)
variable {c}
abbrev MD:=List nQ
abbrev WR:=List MD
end
end Go.AM
namespace Go.AM
open P
set_option maxHeartbeats 2000000
set_option maxRecDepth 4000
def nQ.a(v:nQ):ap:=.agg [.int .i64 v.k,.int .i64 v.n,.int .u64 v.u,.str v.s]
def akc(r:MD):List ap:=r.map nQ.a
@[simp] theorem ajP(v:nQ):aC v.a=4:=rfl
@[simp] theorem akT(v:nQ):isAgg v.a=true:=rfl
@[simp] theorem alV(v:nQ)(fl top:Bool)(base:Nat)(σ:aw)(n:Nat):fz fl top base σ (n+2) v.a=v.a:=by simp[nQ.a]
def Fp(v:nQ):nQ:=
 if v.k=1 then (if v.n≠0∧v.n≠1 then v else { v with k:=0,n:=0 })
 else if v.k=2 then { v with k:=0,n:=0 }
 else if v.k=0 then v
 else if v.k=3 then (if v.s.length≤40 then { v with k:=0,s:=[] } else v)
 else if v.k=4 then { v with k:=0,n:=0,u:=0 }
 else v
def Z4(v:nQ):Bool:=Fp v == ⟨0,0,0,[]⟩
theorem df{a b:Int}(h:¬a=b):(a != b)=true:=by simp[h]
theorem aP{a b:Int}(h:¬a=b):(a==b)=false:=by simp[h]
theorem O9(v:nQ):bI I.qil [v.a]=some (Fp v).a:=by
 rw[aQ akA rfl];obtain⟨k,n,u,s⟩:=v;unfold Fp nQ.a;by_cases h1:k=1
 ·subst h1;by_cases hn:n=0
  ·subst hn;simp[anQ,ye]
  by_cases hn':n=1
  ·subst hn';simp[anQ,ye]
  simp[anQ,ye,df hn,df hn',hn,hn']
 by_cases h2:k=2
 ·subst h2;simp[anQ,ye]
 by_cases h0:k=0
 ·subst h0;simp[anQ,ye]
 by_cases h3:k=3
 ·subst h3;by_cases hs:s.length≤40
  ·have hs':((s.length:Int)≤40):=by omega
   simp[anQ,ye,hs,hs']
  have hs':¬((s.length:Int)≤40):=by omega
  simp[anQ,ye,hs,hs']
 by_cases h4:k=4
 ·subst h4;simp[anQ,ye]
 simp[anQ,ye,aP h1,aP h2,aP h0,aP h3,aP h4,h1,h2,h0,h3,h4]
theorem SL(k n u:Int)(s:List UInt8):(nQ.mk k n u s).a=.agg [.int .i64 k,.int .i64 n,.int .u64 u,.str s]:=rfl
theorem OX(v:nQ):bI I.qij [v.a]=some (.int .i64 (if Z4 v then 0 else 120)):=by
 rw[aQ akC rfl];have h:=O9 v;unfold Z4;generalize hb:Fp v=w at h;obtain⟨k,n,u,s⟩:=w;by_cases hk:k=0
 ·by_cases hn:n=0
  ·by_cases hu:u=0
   ·by_cases hs:s=[]
    ·subst hk hn hu hs;simp[an1,Hf,h,SL]
    have hs':(s==[])=false:=by simp[hs]
    subst hk hn hu;simp[an1,Hf,h,SL,hs,hs']
   subst hk hn;simp[an1,Hf,h,SL,hu,aP hu]
  subst hk;simp[an1,Hf,h,SL,hn,aP hn]
 simp[an1,Hf,h,SL,hk,aP hk]
end Go.AM
namespace Go.AM
open P
set_option maxHeartbeats 2000000
set_option maxRecDepth 4000
def akg:ap→nQ
 |.agg [.int _ k,.int _ n,.int _ u,.str s]=>⟨k,n,u,s⟩
 |_=>default
@[simp] theorem ak6(v:nQ):akg v.a=v:=rfl
end Go.AM
namespace Go.AM
open P
set_option maxHeartbeats 4000000
set_option maxRecDepth 4000
end Go.AM
namespace Go.AM
open P
set_option maxHeartbeats 4000000
set_option maxRecDepth 4000
def fU(o:Int×Bool):ap:=.agg [.int .i64 o.1,.bool o.2]
end Go.AM
namespace Go.AM
open P
set_option maxHeartbeats 4000000
set_option maxRecDepth 4000
def aiS:ap→Int×Bool
 |.agg [.int _ c,.bool d]=>(c,d)
 |_=>(0,false)
@[simp] theorem akS(o:Int×Bool):aiS (fU o)=o:=rfl
@[simp] theorem aaG(r:MD):(akc r).map aC=List.replicate r.length 4:=by
 unfold akc;rw[bD,jk];exact⟨by simp,fun x hx=>by simp at hx;exact hx.2.symm▸rfl⟩
end Go.AM
namespace Go.AM
class Nc {α:Type} (f:α→ap) (n:outParam Nat) (g:outParam Bool):Prop where
 nc:∀y,aC (f y)=n
 ag:∀y,isAgg (f y)=g
class Fx {α:Type} (f:α→ap):Prop where
 fx:∀fl top base σ n y,fz fl top base σ (n+3) (f y)=f y
class Ft {α:Type} (f:α→ap):Prop where
 ft:∀fl top base σ n y,(fl ||top)=true→fz fl top base σ (n+3) (f y)=f y
abbrev i64(n:Int):ap:=aL n
instance:Nc (fun n=>ap.int .i64 n) 1 false:=⟨fun _=>rfl,fun _=>rfl⟩
instance:Nc (ap.int .i64) 1 false:=⟨fun _=>rfl,fun _=>rfl⟩
instance:Fx (ap.int .i64):=⟨fun _ _ _ _ _ _=>rfl⟩
instance:Nc nQ.a 4 true:=⟨fun _=>rfl,fun _=>rfl⟩
instance:Fx nQ.a:=⟨fun fl top base σ n y=>alV y fl top base σ (n+1)⟩
instance {α:Type} (f:α→ap) [Fx f]:Ft f:=⟨fun fl top base σ n y _=>Fx.fx fl top base σ n y⟩
section
variable {α:Type} {f:α→ap} {m:Nat} {g:Bool}
@[simp] theorem ak9[Fx f](fl top:Bool)(base:Nat)(σ:aw)(n:Nat)(l:List α):List.map (fz fl top base σ (n+3)∘f) l=List.map f l:=
 aU fun y _=>Fx.fx fl top base σ n y
@[simp] theorem ahS[Ft f](top:Bool)(base:Nat)(σ:aw)(n:Nat)(l:List α):List.map (fz true top base σ (n+3)∘f) l=List.map f l:=
 aU fun y _=>Ft.ft true top base σ n y rfl
@[simp] theorem abr[Ft f](base:Nat)(σ:aw)(l:List α):List.map (bG base σ∘f) l=List.map f l:=
 aU fun y _=>Ft.ft false true base σ 17 y rfl
@[simp] theorem akQ[Nc f m g](l:List α):List.map (aC∘f) l=List.replicate l.length m:=by
 rw[jk]
 exact⟨by simp,fun x hx=>by
  obtain⟨y,_,rfl⟩:=bK.1 hx;exact Nc.nc y⟩
theorem Ej[Nc f m g](l:List α):((l.map f).all fun y=>aC y==m)=true:=by
 rw[aI];intro x hx;obtain⟨y,_,rfl⟩:=bK.1 hx;simp[Nc.nc y]
@[simp] theorem ma(l:List α)(f:α→ap):List.take l.length (List.map f l)=List.map f l:=ay (by simp)
end
end Go.AM
namespace Go.AM
structure jp (α:Type) where
 b:Bool
 l:List α
abbrev jp.c{α:Type}(f:α→ap)(s:jp α):ap:=.aa s.b (s.l.map f)
end Go.AM
namespace Go.AM
open P
theorem aF(a b:av)(s:St)(c:Bool):Dv a b s (.bool c)=if c=true then run code a s else run code b s:=by cases c<;>rfl
theorem br(env:List ap)(x:cB)(b:Bool)(o:F4)(is:List bC)(ls:List ap)(σ:aw)(c:Bool) :
  DJ env (P.g x b o) is ls σ (some c)=if c=true then zV env is ls (step code env ls σ o) else mo code env is (ls++[.tup []]) σ:=by cases c<;>rfl
end Go.AM
namespace Go.AM
open P
set_option maxHeartbeats 2000000
set_option maxRecDepth 4000
end Go.AM
namespace Go.AM
open P
set_option maxHeartbeats 4000000
set_option maxRecDepth 4000
end Go.AM
namespace Go.AM
open P
set_option maxHeartbeats 4000000
set_option maxRecDepth 4000
end Go.AM
namespace Go.AM
open P
set_option maxHeartbeats 4000000
set_option maxRecDepth 4000
def Aa(res:List K0)(r:Option (Ex×St)):Option (ap×aw):=r.bind fun r=>match r.1 with
 |.ext _=>none
 |_=>(results r.2 res).map fun v=>(v,r.2.st)
@[simp] theorem XR(res:List K0)(s:St):Aa res (some (.ret,s))=(results s res).map fun v=>(v,s.st):=rfl
@[simp] theorem Y7(res:List K0)(s:St):Aa res (some (.nrm,s))=(results s res).map fun v=>(v,s.st):=rfl
theorem dq{f:Nat}{g:aM}(h:code.fns f=.fn g)(hm:g.mode=.keep)(args:List ap)(σ:aw) :
  db code f args σ=Aa g.res (run code g.body ⟨args.take g.np++List.replicate (g.nenv-g.np) .any,σ⟩):=by
 rw[vZ gz h];have he:enter g args σ=⟨args.take g.np++List.replicate (g.nenv-g.np) .any,σ⟩:=by unfold enter;rw[hm]
 rw[he];unfold Aa;congr 1;funext r;obtain⟨e,s⟩:=r;unfold oM gq;rw[hm];cases e<;>rfl
end Go.AM
namespace Go.AM
open P
set_option maxHeartbeats 4000000
set_option maxRecDepth 8000
theorem kR{α:Type}{f:α→ap}{m:Nat}{g:Bool}[Nc f m g][Fx f](l:List α)(id ep:Nat)(σ:aw)(h:σ[id]?=some (.arr m ep (l.map f))):py m σ (.sl id ep 0 l.length)=.frs m (l.map f):=by
 have h9:(l.map f).take l.length=l.map f:=ay (by simp);have h10:∀σ',(l.map f).map (oV σ')=l.map f:=fun σ'=>by
  rw[bD];exact aU fun y _=>Fx.fx false false 0 σ' 17 y
 simp only[py,h,h9,h10,Q5];simp
theorem tI{n:Int}(h1:-9223372036854775808≤n)(h2:n<9223372036854775808):IntKind.i64.wrap n=n:=dT ⟨h1,h2⟩
abbrev EM(f:ap):Prop:=∀σ,fz true false 0 σ 20 f=f
def Ll{α:Type}(p:α→Bool)(l:List α):Int:=if l.any p then ((l.findIdx p:Nat):Int) else -1
theorem GI{α:Type}{enc:α→ap}{b:Bool}{l:List α}{f:ap}{p:α→Bool}(hn:l.length≤aV)(he:∀y,aC (enc y)=1∧isAgg (enc y)=false)(hs:EM f)
  (h:∀y∈l,mr code f [enc y] []=some (.bool (p y),[])):bI I.qib [.aa b (l.map enc),f]=some (aL (Ll p l)):=by
 rw[aQ ajr rfl];have hs0:=hs [];have hstep:∀k,k<l.length→∀y,l[k]?=some y→p y=false→dE 0 [2,3,6,7] qV (run code qV ⟨[.aa b (l.map enc),f,.any,.any,aL l.length,aL k,.any,.any],[]⟩) =
   cc code 0 [2,3,6,7] qV ⟨[.aa b (l.map enc),f,.any,.any,aL l.length,aL (k+1:Nat),.any,.any],[]⟩:=fun k hk y hy hp=>by
  have h2:=he y;have h3:=h y (aD hy);rw[hp]at h3;have aj:((k:Int)<(l.length:Int)):=by omega
  simp[qV,hy,h2,h3,aj,bJ hk hn,bX]
 unfold Ll;by_cases ha:l.any p=true
 ·have aj:=dW (dJ.1 ha);have hp:p l[l.findIdx p]=true:=fQ (w:=aj);have hloop:=da (base:=0) (clr:=[2,3,6,7]) (b:=qV) (fun k=>⟨[.aa b (l.map enc),f,.any,.any,aL l.length,aL k,.any,.any],[]⟩) (l.findIdx p)
   (.ret,⟨[.aa b (l.map enc),f,aL (l.findIdx p),aL (l.findIdx p),aL l.length,aL (l.findIdx p),.bool true,.bool true],[]⟩)
   (fun k hk=>hstep k (by omega) _ (aq (by omega)) (by simpa using eO hk))
   (by
    have h1:l[l.findIdx p]?=some l[l.findIdx p]:=aq aj;have h2:=he l[l.findIdx p];have h3:=h _ (aO aj);rw[hp]at h3;have hlt':((l.findIdx p:Int)<(l.length:Int)):=by omega
    simp[qV,h1,h2,h3,hlt'])
  simp at hloop;simp[aoT,WV,hs0,hloop,ha]
 have hall:∀y∈l,p y=false:=fun y hy=>by simpa using dX.1 (jw _▸ha) y hy
 have hloop:=da (base:=0) (clr:=[2,3,6,7]) (b:=qV) (fun k=>⟨[.aa b (l.map enc),f,.any,.any,aL l.length,aL k,.any,.any],[]⟩) l.length
  (.ext 0,⟨[.aa b (l.map enc),f,.any,.any,aL l.length,aL l.length,.bool false,.any],[]⟩)
  (fun k hk=>hstep k hk _ (aq hk) (hall _ (aO hk)))
  (by simp[qV])
 simp at hloop;simp[aoT,WV,hs0,hloop,ha]
theorem oT{α:Type}{enc:α→ap}{b:Bool}{l:List α}{f:ap}{p:α→Bool}(hn:l.length≤aV)(he:∀y,aC (enc y)=1∧isAgg (enc y)=false)(hs:EM f)
  (h:∀y∈l,mr code f [enc y] []=some (.bool (p y),[])):bI I.qhq [.aa b (l.map enc),f]=some (.bool (l.any p)):=by
 rw[aQ akw rfl];have h:=GI (b:=b) hn he hs h;have hs0:=hs [];unfold Ll at h;cases ha:l.any p<;>rw[ha]at h<;>simp[ap6,abz,hs0,h]
theorem vH{α:Type}{enc:α→ap}{b:Bool}{l:List α}{f:ap}{p:α→Bool}(hn:l.length≤aV)(he:∀y,aC (enc y)=2∧isAgg (enc y)=true)(hs:EM f)
  (h:∀y∈l,mr code f [enc y] []=some (.bool (p y),[])):bI I.qhx [.aa b (l.map enc),f]=some (aL (Ll p l)):=by
 rw[aQ ahx rfl];have hs0:=hs [];have hstep:∀k,k<l.length→∀y,l[k]?=some y→p y=false→dE 0 [2,3,6,7] qO (run code qO ⟨[.aa b (l.map enc),f,.any,.any,aL l.length,aL k,.any,.any],[]⟩) =
   cc code 0 [2,3,6,7] qO ⟨[.aa b (l.map enc),f,.any,.any,aL l.length,aL (k+1:Nat),.any,.any],[]⟩:=fun k hk y hy hp=>by
  have h2:=he y;have h3:=h y (aD hy);rw[hp]at h3;have aj:((k:Int)<(l.length:Int)):=by omega
  simp[qO,hy,h2,h3,aj,bJ hk hn,bX]
 unfold Ll;by_cases ha:l.any p=true
 ·have aj:=dW (dJ.1 ha);have hp:p l[l.findIdx p]=true:=fQ (w:=aj);have hloop:=da (base:=0) (clr:=[2,3,6,7]) (b:=qO) (fun k=>⟨[.aa b (l.map enc),f,.any,.any,aL l.length,aL k,.any,.any],[]⟩) (l.findIdx p)
   (.ret,⟨[.aa b (l.map enc),f,aL (l.findIdx p),aL (l.findIdx p),aL l.length,aL (l.findIdx p),.bool true,.bool true],[]⟩)
   (fun k hk=>hstep k (by omega) _ (aq (by omega)) (by simpa using eO hk))
   (by
    have h1:l[l.findIdx p]?=some l[l.findIdx p]:=aq aj;have h2:=he l[l.findIdx p];have h3:=h _ (aO aj);rw[hp]at h3;have hlt':((l.findIdx p:Int)<(l.length:Int)):=by omega
    simp[qO,h1,h2,h3,hlt'])
  simp at hloop;simp[aoG,UZ,hs0,hloop,ha]
 have hall:∀y∈l,p y=false:=fun y hy=>by simpa using dX.1 (jw _▸ha) y hy
 have hloop:=da (base:=0) (clr:=[2,3,6,7]) (b:=qO) (fun k=>⟨[.aa b (l.map enc),f,.any,.any,aL l.length,aL k,.any,.any],[]⟩) l.length
  (.ext 0,⟨[.aa b (l.map enc),f,.any,.any,aL l.length,aL l.length,.bool false,.any],[]⟩)
  (fun k hk=>hstep k hk _ (aq hk) (hall _ (aO hk)))
  (by simp[qO])
 simp at hloop;simp[aoG,UZ,hs0,hloop,ha]
theorem tz{α:Type}{enc:α→ap}{b:Bool}{l:List α}{f:ap}{p:α→Bool}(hn:l.length≤aV)(he:∀y,aC (enc y)=2∧isAgg (enc y)=true)(hs:EM f)
  (h:∀y∈l,mr code f [enc y] []=some (.bool (p y),[])):bI I.qhm [.aa b (l.map enc),f]=some (.bool (l.any p)):=by
 rw[aQ ahF rfl];have h:=vH (b:=b) hn he hs h;have hs0:=hs [];unfold Ll at h;cases ha:l.any p<;>rw[ha]at h<;>simp[apK,ab7,hs0,h]
theorem xL{α:Type}{enc:α→ap}[Nc enc 1 false][Fx enc](b:Bool)(l:List α)(hn:l.length≤aV):bI I.qhh [.aa b (l.map enc)]=some (.frs 1 (l.map enc)):=by
 cases l with
 |nil=>cases b<;>exact gM (n:=20) (σ:=[]) (by kernel_rfl)
 |cons v r=>
  have hall:=Ej (f:=enc) (v::r);have hl:((v::r).map enc).length=r.length+1:=by simp
  have hne:ip [] (.aa b ((v::r).map enc))=false:=rfl;unfold bI;rw[iV gz W9,hne];simp only[aH,bQ];unfold kw;have hn':r.length+1≤aV:=by simpa using hn
  have hnil:sj false [] (.aa b ((v::r).map enc))=some (.bool false):=rfl;have hf:=kR (f:=enc) (v::r) 0 0 [.arr 1 0 ((v::r).map enc)] rfl;have hx:(v::r).map enc≠[]:=by simp
  have hy:∀x,x∈(v::r).map enc→aC x=1:=fun x hx=>by simpa using aI.1 hall x hx
  have ht:((v::r).map enc).take (r.length+1)=(v::r).map enc:=ay (by simp);simp only[cn]at hf;generalize (v::r).map enc=xs at *;simp[apv,aaB,enter,oM,append,hall,hl,hn',-sj,hnil,hx];rw[if_pos hy];simp[oM];exact hf
@[simp] theorem nI{α:Type}{enc:α→ap}[Nc enc 1 false][Fx enc](b:Bool)(l:List α)(hn:l.length≤aV)(σ:aw):db code I.qhh [.aa b (l.map enc)] σ=some (.frs 1 (l.map enc),σ):=by
 rw[rj W9 rfl,xL b l hn];rfl
theorem Fl{α:Type}{enc:α→ap}[Nc enc 1 false][Fx enc](b:Bool)(ls:List (jp α))(hn:(ls.flatMap (·.l)).length≤aV)(hl:ls.length≤aV) :
  bI I.qhj [.aa b (ls.map (jp.c enc))]=some (.aa false ((ls.flatMap (·.l)).map enc)):=by
 rw[aQ ahj rfl];have hsum0:∀(r:List (jp α)) (k:Nat),ls.drop k=r→(ls.flatMap (·.l)).length=((ls.take k).flatMap (·.l)).length+(r.flatMap (·.l)).length:=fun r k h=>by
  have:=congrArg (fun x=>(x.flatMap (fun (s:jp α)=>s.l)).length) (mB k ls);simp only[List.flatMap_append,dD,h]at this;omega
 generalize hF:ls.flatMap (·.l)=F at *;have hn':F.length≤68719476736:=hn;have hsum:=hsum0;have h1:∀(r:List (jp α)) (k:Nat),ls.drop k=r→k≤ls.length→cc code 0 [3,9,10] DY ⟨[.aa b (ls.map (jp.c enc)),.ai,aL (((ls.take k).flatMap (·.l)).length:Nat),.any,.any,.any,.aa b (ls.map (jp.c enc)),aL ls.length,aL k,.any,.any,.any,.any,.any,.any],[]⟩ =
   some (.ext 0,⟨[.aa b (ls.map (jp.c enc)),.ai,aL (F.length:Nat),.any,.any,.any,.aa b (ls.map (jp.c enc)),aL ls.length,aL ls.length,.bool false,.any,.any,.any,.any,.any],[]⟩):=by
  intro r;induction r with
  |nil=>
   intro k hd hk;have:k=ls.length:=by
    have:=congrArg List.length hd;simp at this;omega
   subst this;rw[gx,dv,hF];simp[DY]
  |cons y r ih=>
   intro k hd hk;have aj:k<ls.length:=by
    have:=congrArg List.length hd;simp at this;omega
   have hy:ls[k]?=some y:=by
    have:=congrArg (·[0]?) hd;simpa using this
   have hr:ls.drop (k+1)=r:=by
    have:=congrArg List.tail hd;simpa [fY] using this
   have hi:((k:Int)<(ls.length:Int)):=by omega
   have hs1:=hsum r (k+1) hr;have ht:((ls.take (k+1)).flatMap (·.l)).length=((ls.take k).flatMap (·.l)).length+y.l.length:=by
    rw[fo,hy];simp
   have ih:=ih (k+1) hr (by omega);rw[ht]at ih hs1;generalize ((ls.take k).flatMap (·.l)).length=s at *;have w:=tI (n:=(s:Int)+(y.l.length:Int)) (by omega) (by omega);have hneg:¬((s:Int)+(y.l.length:Int)<0):=by omega
   rw[gx,←ih];simp[DY,hi,hy,w,hneg,bJ aj hl,bX]
 have h1:=h1 ls 0 (by simp) (by simp);simp at h1;have h2:∀(r:List (jp α)) (k ep:Nat) (es:List ap),ls.drop k=r→k≤ls.length→es.take ((ls.take k).flatMap (·.l)).length=((ls.take k).flatMap (·.l)).map enc→((ls.take k).flatMap (·.l)).length≤es.length→∃ep' es',es'.take F.length=F.map enc∧F.length≤es'.length ∧
   cc code 1 [5,14] sV ⟨[.aa b (ls.map (jp.c enc)),.ai,aL (F.length:Nat),.any,.sl 0 ep 0 ((ls.take k).flatMap (·.l)).length,.any,.aa b (ls.map (jp.c enc)),aL ls.length,aL ls.length,.bool false,.any,.aa b (ls.map (jp.c enc)),aL ls.length,aL k,.any],[.arr 1 ep es]⟩ =
   some (.ext 2,⟨[.aa b (ls.map (jp.c enc)),.ai,aL (F.length:Nat),.any,.sl 0 ep' 0 F.length,.any,.aa b (ls.map (jp.c enc)),aL ls.length,aL ls.length,.bool false,.any,.aa b (ls.map (jp.c enc)),aL ls.length,aL ls.length,.bool false],[.arr 1 ep' es']⟩):=by
  intro r;induction r with
  |nil=>
   intro k ep es hd hk he hel;have:k=ls.length:=by
    have:=congrArg List.length hd;simp at this;omega
   subst this;rw[dv,hF]at he hel;refine⟨ep,es,he,hel,?_⟩;rw[gx,dv,hF];simp[sV]
  |cons y r ih=>
   intro k ep es hd hk he hel;have aj:k<ls.length:=by
    have:=congrArg List.length hd;simp at this;omega
   have hy:ls[k]?=some y:=by
    have:=congrArg (·[0]?) hd;simpa using this
   have hr:ls.drop (k+1)=r:=by
    have:=congrArg List.tail hd;simpa [fY] using this
   have hi:((k:Int)<(ls.length:Int)):=by omega
   have hs1:=hsum r (k+1) hr;have hT:(ls.take (k+1)).flatMap (·.l)=(ls.take k).flatMap (·.l)++y.l:=by
    rw[fo,hy];simp
   have ih:=fun ep es=>ih (k+1) ep es hr (by omega);rw[hT]at ih hs1;generalize (ls.take k).flatMap (·.l)=s at *;rw[dD]at hs1;by_cases hy0:y.l=[]
   ·rw[hy0,fg]at ih;obtain⟨ep',es',q1,q2,q3⟩:=ih ep es he hel;refine⟨ep',es',q1,q2,?_⟩;rw[gx,←q3];simp[sV,hi,hy,hy0,append,bJ aj hl,bX]
   obtain⟨ep',es',q1,q2,q3⟩:=ih (ep+1) (s.map enc++y.l.map enc) (by rw[←List.map_append];exact ay (by simp)) (by simp);refine⟨ep',es',q1,q2,?_⟩;have hm:s.length+y.l.length≤aV:=by unfold aV;omega
   have hall:∀x∈y.l,aC (enc x)=1:=fun x _=>Nc.nc x;rw[dD]at q3;rw[gx,←q3];simp[sV,hi,hy,hy0,append,hel,he,hm,bJ aj hl,bX];rw[if_pos hall];simp[bX,bJ aj hl]
 have hgrow:0<F.length→db code I.qht [.ai,aL (F.length:Nat)] []=some (.sl 0 0 0 0,[.arr 1 0 (List.replicate F.length (aL 0))]):=fun h0=>by
  rw[dq aas rfl];generalize F.length=n at *;have e1:¬((n:Int)<0):=by omega
  have e2:(0:Int)<(n:Int):=by omega
  have e3:=tI (n:=(n:Int)) (by omega) (by omega);have e4:IntKind.i64.wrap 0=0:=rfl;simp[aoU,UT,e1,e2,e3,e4,append,hn,h0,show ¬n=0 by omega,show (n:Int).toNat=n by omega]
 have hgrow0:db code I.qht [.ai,aL 0] []=some (.ai,[]):=by
  rw[dq aas rfl];have e4:IntKind.i64.wrap 0=0:=rfl;simp[aoU,UT,e4]
 by_cases h0:F.length=0
 ·have h3:∀(r:List (jp α)) (k:Nat),ls.drop k=r→k≤ls.length→cc code 0 [5,14] sV ⟨[.aa b (ls.map (jp.c enc)),.ai,aL 0,.any,.ai,.any,.aa b (ls.map (jp.c enc)),aL ls.length,aL ls.length,.bool false,.any,.aa b (ls.map (jp.c enc)),aL ls.length,aL k,.any],[]⟩ =
    some (.ext 2,⟨[.aa b (ls.map (jp.c enc)),.ai,aL 0,.any,.ai,.any,.aa b (ls.map (jp.c enc)),aL ls.length,aL ls.length,.bool false,.any,.aa b (ls.map (jp.c enc)),aL ls.length,aL ls.length,.bool false],[]⟩):=by
   intro r;induction r with
   |nil=>
    intro k hd hk;have:k=ls.length:=by
     have:=congrArg List.length hd;simp at this;omega
    subst this;rw[gx];simp[sV]
   |cons y r ih=>
    intro k hd hk;have aj:k<ls.length:=by
     have:=congrArg List.length hd;simp at this;omega
    have hy:ls[k]?=some y:=by
     have:=congrArg (·[0]?) hd;simpa using this
    have hr:ls.drop (k+1)=r:=by
     have:=congrArg List.tail hd;simpa [fY] using this
    have hi:((k:Int)<(ls.length:Int)):=by omega
    have hy0:y.l=[]:=by
     have h':=bM h0;rw[←hF,List.flatMap_eq_nil_iff]at h';exact h' y (aD hy)
    rw[gx,←ih (k+1) hr (by omega)];simp[sV,hi,hy,hy0,append,bJ aj hl,bX]
  have h3:=h3 ls 0 (by simp) (by simp);simp at h3;have h0':=bM h0;subst h0';simp at h1;simp[aoR,WQ,h1,h3,hgrow0]
 obtain⟨ep,es,q1,q2,q3⟩:=h2 ls 0 0 (List.replicate F.length (aL 0)) (by simp) (by simp) (by simp) (by simp);have hg:=hgrow (by omega);simp at q3;simp[aoR,WQ,h1,hg,q3,q1,q2];exact fun y _=>by rw[Fx.fx]
end Go.AM
namespace Go.AM
open P
set_option maxHeartbeats 4000000
set_option maxRecDepth 8000
abbrev bE(l:List Int):List ap:=l.map (.int .i64)
def dQ(l:List Int):List Int:=l.foldl (fun acc x=>if acc.getLast?=some x then acc else acc++[x]) []
theorem pH(l:List Int)(x:Int):dQ (l++[x])=if (dQ l).getLast?=some x then dQ l else dQ l++[x]:=by
 unfold dQ;simp[List.foldl_append]
theorem Fz{α:Type}{p:List α→Prop}(l:List α)(h0:p [])(h1:∀l x,p l→p (l++[x])):p l:=by
 have:∀m:List α,p m.reverse:=fun m=>by
  induction m with
  |nil=>simpa using h0
  |cons a m ih=>rw[List.reverse_cons];exact h1 _ _ ih
 simpa using this l.reverse
theorem xT(l:List Int):(dQ l).getLast?=l.getLast?:=by
 refine Fz (p:=fun l=>(dQ l).getLast?=l.getLast?) l rfl fun l x ih=>?_;rw[pH];split
 ·rename_i h;rw[h];simp
 simp
theorem Aw(l:List Int)(x:Int):x∈dQ l↔x∈l:=by
 refine Fz (p:=fun l=>x∈dQ l↔x∈l) l (by simp[dQ]) fun l y ih=>?_;rw[pH];split
 ·rename_i h;rw[ih];constructor
  ·intro h';simp[h']
  intro h';rcases cq.1 h' with h'|h'
  ·exact h'
  simp at h';subst h';rw[xT]at h;exact List.mem_of_getLast? h
 simp[ih]
theorem wS(l:List Int):(dQ l).length≤l.length:=by
 refine Fz (p:=fun l=>(dQ l).length≤l.length) l (aB _) fun l y ih=>?_;rw[pH];split<;>simp<;>omega
theorem tB{l:List Int}{j:Nat}(hj:j<l.length)(h0:0<j):dQ (l.take (j+1))=if l[j-1]=l[j] then dQ (l.take j) else dQ (l.take j)++[l[j]]:=by
 rw[cV hj,pH,xT];have:(l.take j).getLast?=some l[j-1]:=by
  rw[List.getLast?_eq_getElem?];simp[dO];have:min j l.length=j:=by omega
  rw[this];simp[show j-1<j by omega,show j-1<l.length by omega]
 rw[this];simp
theorem Zv{σ:aw}{id:Nat}{o o':Obj}(h:σ[id]?=some o):(σ.set id o')[id]?=some o':=by
 have:=(ak.1 h).1;simp[this]
def kC(l:List Int)(k0:Nat):Nat→List Int×Nat
 |0=>(l,k0)
 |m+1=>let p:=kC l k0 m
  if l.getD (k0+m+1) 0=l.getD (k0+m) 0 then p else (p.1.set p.2 (l.getD (k0+m+1) 0),p.2+1)
theorem zG{l:List Int}{k0:Nat}(h0:0<k0)(hk:k0<l.length)(hd:l[k0-1]=l[k0])(hp:dQ (l.take k0)=l.take k0):∀m,k0+m<l.length →
  (kC l k0 m).1.length=l.length∧(kC l k0 m).2≤k0+m∧(kC l k0 m).1.take (kC l k0 m).2=dQ (l.take (k0+m+1))∧(kC l k0 m).1.drop (k0+m)=l.drop (k0+m)
 |0,_=>by
  have:=tB (l:=l) hk h0;rw[if_pos hd,hp]at this;simp[kC,this]
 |m+1,hm=>by
  obtain⟨i1,i2,i3,i4⟩:=zG h0 hk hd hp m (by omega);have g1:l.getD (k0+m+1) 0=l[k0+m+1]:=by simp[aE,show k0+m+1<l.length by omega]
  have g2:l.getD (k0+m) 0=l[k0+m]:=by simp[aE,show k0+m<l.length by omega]
  have hc:=tB (l:=l) (j:=k0+m+1) (by omega) (by omega);have e1:(kC l k0 m).1.drop (k0+(m+1))=l.drop (k0+(m+1)):=by
   have:=congrArg (List.drop 1) i4;simpa [li,cA,eE,Nat.add_left_comm] using this
  unfold kC;simp only[g1,g2];by_cases hq:l[k0+m+1]=l[k0+m]
  ·rw[if_pos hq];rw[if_pos (by simpa using hq.symm)]at hc;exact⟨i1,by omega,by rw[i3];simpa [cA] using hc.symm,e1⟩
  rw[if_neg hq];rw[if_neg (by simpa using fun e=>hq e.symm)]at hc;refine⟨by simp[i1],by simp;omega,?_,?_⟩
  ·have h2:(kC l k0 m).2<(kC l k0 m).1.length:=by omega
   simp only;rw[cV (by simpa using h2),List.take_set_of_le (by omega),i3];simp only[gF];simpa [cA] using hc.symm
  simp only;rw[List.drop_set_of_lt (by omega)];exact e1
theorem rP{l:List Int}{k:Nat}(h:k<l.length):(bE l)[k]?=some (aL l[k]):=by simp[bE,h]
abbrev VX(σ:aw)(id ep n k0:Nat)(l:List Int)(m:Nat):St:=
 ⟨[.sl id ep 0 n,.any,aL ((kC l k0 m).2:Nat),.sl id ep k0 (n-k0),aL ((m+1:Nat):Int),.bool false,.bool true,.bool true,.any,.any],σ.set id (.arr 1 ep (bE (kC l k0 m).1))⟩
theorem MF{σ:aw}{id ep k0:Nat}{l:List Int}(hσ:σ[id]?=some (.arr 1 ep (bE l)))(hn:l.length≤aV)(h0:0<k0)(hk:k0<l.length)(hd:l[k0-1]=l[k0])(hp:dQ (l.take k0)=l.take k0) :
  cc code σ.length [8,9] AP (VX σ id ep l.length k0 l 0)=some (.ext 2,⟨[.sl id ep 0 l.length,.any,aL ((dQ l).length:Nat),.sl id ep k0 (l.length-k0),aL ((l.length-k0:Nat):Int),.bool false,.bool true,.bool true,.bool false,.any],σ.set id (.arr 1 ep (bE (kC l k0 (l.length-k0-1)).1))⟩):=by
 refine da (VX σ id ep l.length k0 l) (l.length-k0-1) _ (fun m hm=>?_) ?_
 ·obtain⟨i1,i2,i3,i4⟩:=zG h0 hk hd hp m (by omega);have hs:kC l k0 (m+1)=if l.getD (k0+m+1) 0=l.getD (k0+m) 0 then kC l k0 m else ((kC l k0 m).1.set (kC l k0 m).2 (l.getD (k0+m+1) 0),(kC l k0 m).2+1):=rfl
  have g1:l.getD (k0+m+1) 0=l[k0+m+1]:=by simp[aE,show k0+m+1<l.length by omega]
  have g2:l.getD (k0+m) 0=l[k0+m]:=by simp[aE,show k0+m<l.length by omega]
  rw[g1,g2]at hs;clear g1 g2;unfold VX;rcases hA:kC l k0 m with⟨A,k⟩;rw[hA]at i1 i2 i3 i4 hs;rw[hs];clear hs hA;simp only at i1 i2 i3 i4;have hg:=Zv (o':=.arr 1 ep (bE A)) hσ;have a1:(bE A)[k0+(m+1)]?=some (aL l[k0+m+1]):=by
   have:A[k0+(m+1)]=l[k0+m+1]:=by
    have:=congrArg (fun x=>x[1]?) i4;simp only[List.getElem?_drop]at this;rw[aq (by omega),aq (by omega)]at this;simpa [cA] using this
   rw[rP (by omega),this]
  have a2:(bE A)[k0+m]?=some (aL l[k0+m]):=by
   have:A[k0+m]=l[k0+m]:=by
    have:=congrArg (fun x=>x[0]?) i4;simp only[List.getElem?_drop]at this;rw[aq (by omega),aq (by omega)]at this;simpa [cA] using this
   rw[rP (by omega),this]
  have aj:((m:Int)+1<((l.length-k0:Nat):Int)):=by omega
  have hn':l.length≤68719476736:=hn;have w1:=tI (n:=(m:Int)) (by omega) (by omega);have w2:=tI (n:=(m:Int)+1+1) (by omega) (by omega);have w3:=tI (n:=(k:Int)+1) (by omega) (by omega);have c1:m+1<l.length-k0:=by omega
  have c2:m<l.length-k0:=by omega
  have c3:k<l.length:=by omega
  have cst:((m:Int)+1).toNat=m+1:=by omega
  have nn:(0:Int)≤(m:Int)+1:=by omega
  have c4:k<A.length:=by omega
  have hset:(bE A)[k]?=some (aL A[k]):=rP c4;by_cases hq:l[k0+m+1]=l[k0+m]
  ·rw[if_pos hq];simp[AP,aj,hg,a1,a2,c1,c2,w1,w2,w3,cst,nn,hq,bX,-List.getElem?_map]
  rw[if_neg hq];simp[AP,aj,hg,a1,a2,c1,c2,c3,w1,w2,w3,cst,nn,hq,bX,hset,df hq,-List.getElem?_map]
 obtain⟨i1,i2,i3,i4⟩:=zG h0 hk hd hp (l.length-k0-1) (by omega);have hlen:(dQ l).length=(kC l k0 (l.length-k0-1)).2:=by
  rw[show k0+(l.length-k0-1)+1=l.length by omega,dv]at i3;rw[←i3,cz];omega
 rw[hlen];unfold VX;rcases hA:kC l k0 (l.length-k0-1) with⟨A,k⟩;have hg:=Zv (o':=.arr 1 ep (bE A)) hσ;have e1:l.length-k0-1+1=l.length-k0:=by omega
 rw[e1];simp[AP,hg]
theorem BJ{σ:aw}{id:Nat}{o:Obj}(h:σ[id]?=some o):σ.set id o=σ:=by
 refine fp fun i=>?_;by_cases hi:id=i
 ·subst hi;rw[Zv h,h]
 rw[cX hi]
theorem un{l:List Int}(h:∀k (_:0<k) (hk:k<l.length),l[k-1]≠l[k]):∀j,j≤l.length→dQ (l.take j)=l.take j
 |0,_=>by simp[dQ]
 |1,hj=>by
  match l,hj with
  |a::r,_=>simp[dQ]
 |j+2,hj=>by
  rw[tB (j:=j+1) (by omega) (by omega),if_neg (h (j+1) (by omega) (by omega)),un h (j+1) (by omega),←List.take_succ_eq_append_getElem]
abbrev JR(σ:aw)(id ep n:Nat)(m:Nat):St:=⟨[.sl id ep 0 n,.any,aL ((m+1:Nat):Int),.any,.any,.bool false,.any,.any,.any,.any],σ⟩
theorem vp{σ:aw}{id ep:Nat}{l:List Int}(hσ:σ[id]?=some (.arr 1 ep (bE l)))(hn:l.length≤aV)(m:Nat)(hm:m+1<l.length)(hd:l[m]≠l[m+1]) :
  dE σ.length [1,3,4,6,7,8,9] qJ (run code qJ (JR σ id ep l.length m))=cc code σ.length [1,3,4,6,7,8,9] qJ (JR σ id ep l.length (m+1)):=by
 have hn':l.length≤68719476736:=hn;have w1:=tI (n:=(m:Int)) (by omega) (by omega);have w2:=tI (n:=(m:Int)+1+1) (by omega) (by omega);have aj:((m:Int)+1<(l.length:Int)):=by omega
 have a1:=rP (l:=l) (k:=m+1) hm;have a2:=rP (l:=l) (k:=m) (by omega);have cst:((m:Int)+1).toNat=m+1:=by omega
 have nn:(0:Int)≤(m:Int)+1:=by omega
 have c2:m<l.length:=by omega
 have hb:(l[m+1]==l[m])=false:=aP (Ne.symm hd);simp[qJ,JR,aj,hσ,a1,a2,w1,w2,cst,nn,hm,c2,hb,bX,-List.getElem?_map]
theorem To(l:List Int):(∀k (_:0<k) (hk:k<l.length),l[k-1]≠l[k])∨∃k0,∃(_:0<k0) (hk:k0<l.length),l[k0-1]=l[k0]∧∀k (_:0<k) (hk':k<k0),l[k-1]≠l[k]:=by
 have key:∀n,n≤l.length→(∀k (_:0<k) (hk:k<n) (hk':k<l.length),l[k-1]≠l[k])∨∃k0,∃(_:0<k0) (hk:k0<l.length),l[k0-1]=l[k0]∧∀k (_:0<k) (hk':k<k0),l[k-1]≠l[k]:=by
  intro n;induction n with
  |zero=>intro _;exact .inl fun k _ hk=>absurd hk (cF _)
  |succ n ih=>
   intro hn;rcases ih (by omega) with h|h
   ·by_cases h0:0<n
    ·by_cases hd:l[n-1]=l[n]
     ·exact .inr ⟨n,h0,by omega,hd,fun k hk hk'=>h k hk hk' (by omega)⟩
     exact .inl fun k hk hkn hk'=>by
      by_cases he:k=n
      ·subst he;exact hd
      exact h k hk (by omega) hk'
    exact .inl fun k hk hkn hk'=>by omega
   exact .inr h
 rcases key l.length (aB _) with h|h
 ·exact .inl fun k h0 hk=>h k h0 hk hk
 exact .inr h
theorem Kl{σ:aw}{id ep:Nat}{l:List Int}(hσ:σ[id]?=some (.arr 1 ep (bE l)))(hn:l.length≤aV) :
  ∃A:List Int,db code I.qhi [.sl id ep 0 l.length] σ=some (.sl id ep 0 (dQ l).length,σ.set id (.arr 1 ep (bE A)))∧A.length=l.length∧A.take (dQ l).length=dQ l:=by
 rw[dq aic rfl];by_cases h2:l.length<2
 ·have hc:=un (l:=l) (fun k h0 hk=>by omega) l.length (aB _);rw[dv]at hc;refine⟨l,?_,rfl,by rw[hc,dv]⟩;have hi:((l.length:Int)<2):=by omega
  rw[hc,BJ hσ];simp[aoB,PW,hσ,hi]
 have hi:¬((l.length:Int)<2):=by omega
 rcases To l with h|⟨k0,h0,hk,hd,hb⟩
 ·have hc:=un h l.length (aB _);rw[dv]at hc;refine⟨l,?_,rfl,by rw[hc,dv]⟩;have hloop:=da (base:=σ.length) (clr:=[1,3,4,6,7,8,9]) (b:=qJ) (JR σ id ep l.length) (l.length-1)
   (.ext 0,⟨[.sl id ep 0 l.length,.any,aL l.length,.any,.any,.bool false,.bool false,.any,.any,.any],σ⟩)
   (fun m hm=>vp hσ hn m (by omega) (h (m+1) (by omega) (by omega))) (by
    unfold JR;rw[show l.length-1+1=l.length by omega];simp[qJ,hσ])
  unfold JR at hloop;simp at hloop;rw[hc,BJ hσ];simp[aoB,PW,hσ,hi,hloop]
 have hp:dQ (l.take k0)=l.take k0:=by
  have:=un (l:=l.take k0) (fun k hk0 hkk=>by
   simp at hkk;simpa using hb k hk0 (by omega)) k0 (by simp;omega)
  rwa [List.take_take,Nat.min_self]at this
 have hin:=MF (ep:=ep) hσ hn h0 hk hd hp;obtain⟨i1,i2,i3,i4⟩:=zG h0 hk hd hp (l.length-k0-1) (by omega);rw[show k0+(l.length-k0-1)+1=l.length by omega,dv]at i3;have hle:(kC l k0 (l.length-k0-1)).2=(dQ l).length:=by rw[←i3,cz];omega
 rw[hle]at i3;generalize (kC l k0 (l.length-k0-1)).1=A at *;have hcl:=wS l;generalize hC:(dQ l).length=c at *;have hg:=fun o'=>Zv (o':=o') hσ
 refine⟨A.take c++List.replicate (l.length-c) 0++A.drop (c+(l.length-c)),?_,by simp;omega,by
  rw[iT,fM (by simp;omega)];exact i3⟩
 have hloop:=da (base:=σ.length) (clr:=[1,3,4,6,7,8,9]) (b:=qJ) (JR σ id ep l.length) (k0-1)
  (.ret,⟨[.sl id ep 0 l.length,.sl id ep 0 c,aL c,.sl id ep k0 (l.length-k0),aL ((l.length-k0:Nat):Int),.bool false,.bool true,.bool true,.bool false,.any],σ.set id (.arr 1 ep (bE (A.take c++List.replicate (l.length-c) 0++A.drop (c+(l.length-c)))))⟩)
  (fun m hm=>vp hσ hn m (by omega) (hb (m+1) (by omega) (by omega))) (by
   unfold JR;rw[show k0-1+1=k0 by omega];have hn':l.length≤68719476736:=hn;have w1:=tI (n:=(k0:Int)-1) (by omega) (by omega);have w2:((k0:Int)-1).toNat=k0-1:=by omega
   have w3:(0:Int)≤(k0:Int)-1:=by omega
   have w4:(1:Int)≤(k0:Int):=by omega
   have aj:((k0:Int)<(l.length:Int)):=by omega
   have a1:=rP (l:=l) (k:=k0) hk;have a2:=rP (l:=l) (k:=k0-1) (by omega);have c3:k0-1<l.length:=by omega
   have c4:k0≤l.length:=by omega
   have c5:c+(l.length-c)=l.length:=by omega
   unfold VX at hin;simp[kC]at hin;rw[BJ hσ]at hin;simp[qJ,aj,hσ,a1,a2,w1,w2,w3,w4,c3,c4,hd,hin,hk,hg,hcl,i1,c5,-List.getElem?_map])
 unfold JR at hloop;simp at hloop;simp[aoB,PW,hσ,hi,hloop]
end Go.AM
namespace Go.AM
structure EN where
 tag:Int
 l:Int
 r:Int
 col:Int
 v:nQ
 deriving DecidableEq,Inhabited
def EN.a(n:EN):ap:=.agg [.int .i64 n.tag,.int .i64 n.l,.int .i64 n.r,.int .i64 n.col,.int .i64 n.v.k,.int .i64 n.v.n,.int .u64 n.v.u,.str n.v.s]
end Go.AM
namespace Go.AM
open P
set_option maxHeartbeats 4000000
set_option maxRecDepth 4000
@[simp] theorem aev(n:EN):aC n.a=8:=rfl
@[simp] theorem ai4(n:EN):isAgg n.a=true:=rfl
@[simp] theorem akh(n:EN)(fl top:Bool)(base:Nat)(σ:aw)(m:Nat):fz fl top base σ (m+2) n.a=n.a:=by simp[EN.a]
def At(e:List EN):List ap:=e.map EN.a
@[simp] theorem aaI(e:List EN):(At e).length=e.length:=by simp[At]
theorem En{e:List EN}{k:Nat}(h:k<e.length):(At e)[k]?=some e[k].a:=by simp[At,h]
def tJ(b:Bool)(e:List EN):ap:=.agg [.aa b (At e)]
def b8(t:Int):Int:=if t=1∨t=2 then 0 else if 4≤t∧t≤7 then 1 else if 12≤t∧t≤23 then 2 else -1
theorem yD(t:Int):bI I.qdw [aL t]=some (aL (b8 t)):=by
 rw[aQ ajv rfl];unfold b8;by_cases h1:t=1
 ·subst h1;simp[anV,CD]
 by_cases h2:t=2
 ·subst h2;simp[anV,CD]
 have e12:¬(t=1∨t=2):=by omega
 rw[if_neg e12];by_cases h3:4≤t
 ·by_cases h4:t≤7
  ·simp[anV,CD,aP h1,aP h2,h3,h4]
  by_cases h5:12≤t
  ·by_cases h6:t≤23
   ·simp[anV,CD,aP h1,aP h2,h3,h4,h5,h6]
   simp[anV,CD,aP h1,aP h2,h3,h4,h5,h6]
  simp[anV,CD,aP h1,aP h2,h3,h4,h5]
 have h5:¬(12≤t):=by omega
 simp[anV,CD,aP h1,aP h2,h3,h5]
def tA(v:nQ):Bool:=Z4 v&&v.k != 4
theorem Oo(v:nQ):bI I.qik [v.a]=some (.bool (tA v)):=by
 rw[aQ ae3 rfl];have h:=OX v;unfold tA;obtain⟨k,n,u,s⟩:=v;simp only[SL]at *;cases hv:Z4 ⟨k,n,u,s⟩<;>rw[hv]at h<;>simp[apM,aaF,h]
def rU:nQ:=⟨0,0,0,[]⟩
def fb(n:EN):Bool:=if n.tag=1 then tA n.v&&n.col==0 else if n.tag=2 then n.v==rU&&decide (0≤n.col)&&decide (n.col<16) else n.v==rU&&n.col==0
theorem Ku(v:nQ):d7 [0,0,0,2] [aL v.k,aL v.n,.int .u64 v.u,.str v.s] [aL 0,aL 0,.int .u64 0,.str []]=some (v==rU):=by
 obtain⟨k,n,u,s⟩:=v;unfold rU;by_cases hk:k=0
 ·by_cases hn:n=0
  ·by_cases hu:u=0
   ·by_cases hs:s=[]
    ·subst hk hn hu hs;simp
    have hs':(s==[])=false:=by simp[hs]
    have e:((⟨k,n,u,s⟩:nQ) == ⟨0,0,0,[]⟩)=false:=by simp[hs]
    rw[e];simp[hk,hn,hu,hs']
   have e:((⟨k,n,u,s⟩:nQ) == ⟨0,0,0,[]⟩)=false:=by simp[hu]
   rw[e];simp[hk,hn,aP hu]
  have e:((⟨k,n,u,s⟩:nQ) == ⟨0,0,0,[]⟩)=false:=by simp[hn]
  rw[e];simp[hk,aP hn]
 have e:((⟨k,n,u,s⟩:nQ) == ⟨0,0,0,[]⟩)=false:=by simp[hk]
 rw[e];simp[aP hk]
theorem CK(n:EN):bI I.qdp [n.a]=some (.bool (fb n)):=by
 rw[aQ aj9 rfl];have hp:=Oo n.v;have hz:=Ku n.v;unfold fb EN.a;unfold nQ.a at hp;by_cases h1:n.tag=1
 ·cases hv:tA n.v<;>rw[hv]at hp<;>simp[aom,PS,h1,hp]
 by_cases h2:n.tag=2
 ·cases hv:(n.v==rU)<;>rw[hv]at hz<;>simp[aom,PS,h2,hz,-d7];by_cases h3:0≤n.col<;>simp[h3]
 cases hv:(n.v==rU)<;>rw[hv]at hz<;>simp[aom,PS,h1,h2,aP h1,aP h2,hz,-d7]
end Go.AM
namespace Go.AM
instance:Nc EN.a 8 true:=⟨fun _=>rfl,fun _=>rfl⟩
instance:Fx EN.a:=⟨fun fl top base σ n y=>akh y fl top base σ (n+1)⟩
structure ew where
 tag:Int
 b:Bool
 arg:List EN
def ew.a(a:ew):ap:=.agg [aL a.tag,.aa a.b (a.arg.map EN.a)]
structure kh where
 b:Bool
 l:List EN
def kh.a(e:kh):ap:=.agg [.aa e.b (e.l.map EN.a)]
structure bB where
 op:Int
 l:Int
 r:Int
 tab:Int
 bk:Bool
 ac:List Int
 left:Bool
 bc:Bool
 cond:List EN
 by':Bool
 keys:List Int
 bg:Bool
 ah:List ew
 bi:Bool
 items:List kh
 bo:Bool
 ords:List (Int×Bool)
 limit:Int
def bB.a(n:bB):ap:=.agg [aL n.op,aL n.l,aL n.r,aL n.tab,.aa n.bk (n.ac.map (.int .i64)),.bool n.left,.aa n.bc (n.cond.map EN.a),.aa n.by' (n.keys.map (.int .i64)),.aa n.bg (n.ah.map ew.a),.aa n.bi (n.items.map kh.a),.aa n.bo (n.ords.map fU),aL n.limit]
instance:Nc ew.a 2 true:=⟨fun _=>rfl,fun _=>rfl⟩
instance:Ft ew.a:=⟨fun fl top base σ n y h=>by cases fl<;>cases top<;>simp[ew.a]at h ⊢⟩
instance:Nc kh.a 1 true:=⟨fun _=>rfl,fun _=>rfl⟩
instance:Ft kh.a:=⟨fun fl top base σ n y h=>by cases fl<;>cases top<;>simp[kh.a]at h ⊢⟩
instance:Nc fU 2 true:=⟨fun _=>rfl,fun _=>rfl⟩
instance:Fx fU:=⟨fun fl top base σ n y=>by simp[fU]⟩
instance:Nc bB.a 12 true:=⟨fun _=>rfl,fun _=>rfl⟩
instance:Ft bB.a:=⟨fun fl top base σ n y h=>by cases fl<;>cases top<;>simp[bB.a]at h ⊢⟩
instance:Nc (jp.c (ap.int .i64)) 1 false:=⟨fun _=>rfl,fun _=>rfl⟩
instance:Ft (jp.c (ap.int .i64)):=⟨fun fl top base σ n y h=>by cases fl<;>cases top<;>simp at h ⊢⟩
end Go.AM
namespace Go.AM
open P
set_option maxHeartbeats 64000000
set_option maxRecDepth 40000
attribute [local simp] aF br
def acW(op:Int):Int:=if op=1∨op=9 then 0 else if op=2∨op=7 then 2 else if op=3∨op=4∨op=5∨op=6∨op=8∨op=10∨op=11 then 1 else -1
def uz(n:bB):Bool:=
 (n.op==1 ||n.op==9 ||n.tab==0&&n.ac.length==0)&&(n.op==2 || !n.left)&&(n.op==2 ||n.op==3 ||n.cond.length==0) &&
 (n.op==4 ||n.op==10 ||n.op==11 ||(n.keys.length:Int)+n.ah.length==0)&&(n.op==5 ||n.items.length==0)&&(n.op==8 ||n.ords.length==0&&n.limit==0)
def Bs(t:Int):Bool:=t==4 ||decide (12≤t)&&decide (t≤15)
@[simp] theorem Tv(t:Int):bI I.qdo [aL t]=some (.bool (Bs t)):=by
 rw[aQ agE rfl];unfold Bs;simp[aph,abW]
 repeat' (split<;>(try simp_all))
 all_goals omega
def Sc(own k:Int):Int:=if k=0∨k=own then own else if own=0 then k else -1
def na(ac:List Int)(n:EN)(l:List Int):Int×Int:=
 let own:=l.foldl Sc 0
 if n.tag=1 then (n.v.k,0) else if n.tag=2 then (ac.getD n.col.toNat 0,0) else
 let want:=if Bs n.tag then 2 else if n.tag=5∨n.tag=22∨n.tag=23 then 1 else own
 if own=-1∨own≠0∧own≠want then (0,201) else (if Bs n.tag then 2 else 1,0)
theorem Pf(n:EN)(b:Bool)(l:List Int)(bk:Bool)(ac:List Int)(hl:l.length≤aV)(hc:n.tag=2→0≤n.col∧n.col<ac.length) :
  bI I.qdk [n.a,.aa b (l.map (.int .i64)),.cptr true (.aa bk (ac.map (.int .i64))) 0]=some (.tup [aL (na ac n l).1,aL (na ac n l).2]):=by
 rw[aQ ai0 rfl];have h:=fun x=>(eh (base:=1) (clr:=[7,13,14,15]) (b:=Dr) l
  (fun k (own:Int)=>⟨[n.a,.aa b (l.map (.int .i64)),.cptr true (.aa bk (ac.map (.int .i64))) 0,.ptr 0 0 0 0,aL 0,aL 0,aL own,.any,.any,.any,.aa b (l.map (.int .i64)),aL l.length,aL k,.any,.any,.any,.any,.any,.any,.any,.any],[.arr 8 0 [n.a]]⟩)
  (fun _ _=>True) Sc
  (fun own=>(.ext 0,⟨[n.a,.aa b (l.map (.int .i64)),.cptr true (.aa bk (ac.map (.int .i64))) 0,.ptr 0 0 0 0,aL 0,aL 0,aL own,.any,.any,.any,.aa b (l.map (.int .i64)),aL l.length,aL l.length,.bool false,.any,.any,.any,.any,.any,.any,.any],[.arr 8 0 [n.a]]⟩))
  (fun k y own hk hy _=>by
   refine⟨?_,trivial⟩;have aj:((k:Int)<(l.length:Int)):=by omega
   unfold Sc;simp[Dr,aj,hy,bX]
   repeat' (split<;>(try simp_all[bJ hk hl,bX])))
  (fun own _=>by simp[Dr]) 0 x).1
 have h:=h trivial;simp[EN.a]at h;unfold na;simp[apg,ab4,h,EN.a];generalize l.foldl Sc 0=own
 repeat' (split<;>(try simp_all))
end Go.AM
namespace Go.AM
open P
set_option maxHeartbeats 8000000
set_option maxRecDepth 8000
def eW(l:List Nat):List ap:=l.map fun (n:Nat)=>aL (n:Int)
@[simp] theorem Z2(l:List Nat):(eW l).length=l.length:=by simp[eW]
@[simp] theorem aeJ:eW []=[]:=rfl
theorem rn{l:List Nat}{k:Nat}(h:k<l.length):(eW l)[k]?=some (aL (l[k]:Int)):=by simp[eW,h]
theorem uZ{l:List Nat}{k:Nat}(h:k<(eW l).length):(eW l)[k]=aL ((l[k]'(by simpa using h):Nat):Int):=by simp[eW]
theorem gI(l m:List Nat):eW (l++m)=eW l++eW m:=by simp[eW]
@[simp] theorem aex(n:Nat):eW [n]=[aL (n:Int)]:=rfl
@[simp] theorem ael(n m:Nat):eW [n,m]=[aL (n:Int),aL (m:Int)]:=rfl
theorem pX(l:List Nat)(fl top:Bool)(base:Nat)(σ:aw)(m:Nat):(eW l).map (fz fl top base σ (m+1))=eW l:=by
 unfold eW;rw[bD];exact aU fun n _=>by simp
theorem lY(l:List Nat)(base:Nat)(σ:aw):(eW l).map (bG base σ)=eW l:=pX l false true base σ 19
def lD(i:Nat)(n:EN)(all opn:List Nat):Option (List Nat×List Nat):=
 if b8 n.tag<0∨opn.length<b8 n.tag∨fb n=false then none else
 match opn.drop (opn.length-(b8 n.tag).toNat) with
 |[]=>if n.l=-1∧n.r=-1 then some (all++[i],opn++[i]) else none
 |[p]=>if n.l=p∧n.r=-1 then some (all++[min i (all.getD p 0)],opn.take (opn.length-1)++[i]) else none
 |[p,q]=>if n.l=p∧n.r=q then some (all++[min (min i (all.getD p 0)) (all.getD q 0)],opn.take (opn.length-2)++[i]) else none
 |_=>none
abbrev gv(b:Bool)(e:List EN)(k:Nat)(all opn:List Nat):St:=
 ⟨[.agg [.aa b (At e)],.ptr 0 0 0 0,.any,.any,.sl 1 k 0 all.length,.sl 2 k 0 opn.length,.any,.any,.any,.any,.any,.any,.any,.any,.aa b (At e),aL e.length,aL k,.any,.any,.any,.any,.any,.any,.any],
  [.arr 1 0 [.agg [.aa b (At e)]],.arr 1 k (eW all),.arr 1 k (eW opn)]⟩
theorem ny(t:Int):-1≤b8 t∧b8 t≤2:=by
 unfold b8
 repeat' split
 all_goals omega
theorem QX:IntKind.i64.wrap 1=1:=rfl
theorem abb:IntKind.i64.wrap 2=2:=rfl
theorem Lz{b:Bool}{e:List EN}{k:Nat}{all opn all' opn':List Nat}(hk:k<e.length)(hn:e.length≤aV)(ha:all.length=k)(ho:∀p∈opn,p<k)(hol:opn.length≤k)
  (h:lD k e[k] all opn=some (all',opn')) :
  dE 3 [2,3,6,7,8,9,10,11,12,13,17,18,19,20,21,22,23] gS (run code gS (gv b e k all opn)) =
   cc code 3 [2,3,6,7,8,9,10,11,12,13,17,18,19,20,21,22,23] gS (gv b e (k+1) all' opn'):=by
 have h1:=En hk;have hp:=yD e[k].tag;have hc:=CK e[k];have hlt:((k:Int)<(e.length:Int)):=by omega
 unfold lD at h;split at h
 ·cases h
 rename_i hneg;have hc1:fb e[k]=true:=by cases hq:fb e[k]<;>simp_all
 rw[hc1]at hc;have hk0:¬(b8 e[k].tag<0):=by omega
 have hk1:¬((opn.length:Int)<b8 e[k].tag):=by omega
 have hk2:=ny e[k].tag;have hm:k+1≤aV:=by omega
 have hcases:b8 e[k].tag=0∨b8 e[k].tag=1∨b8 e[k].tag=2:=by omega
 rcases hcases with h0|h0|h0
 ·rw[h0]at h hp;simp at h;obtain⟨⟨e1,e2⟩,rfl,rfl⟩:=h;unfold EN.a at h1 hc;rw[e1,e2]at h1 hc;have t1:(eW all).take k=eW all:=ay (by simp[ha]);have t2:(eW opn).take opn.length=eW opn:=ay (by simp);have f1:=pX all;have f2:=pX opn;have g1:=lY all;have g2:=lY opn;have hnn:¬((opn.length:Int)<0):=by omega
  have hw:IntKind.i64.wrap (opn.length:Int)=opn.length:=dT (by unfold aV at hn;omega);have hm':opn.length+1≤aV:=by omega
  simp[gv,gS,h1,hlt,hp,hc,ha,t1,t2,f1,f2,g1,g2,hnn,hw,append,gI,hm,hm',bJ hk hn,aT,aW,jC 5,jC 6,uw]
 ·rw[h0]at h hp hk1;have hol1:1≤opn.length:=by omega
  obtain⟨o,p,rfl⟩:∃o p,opn=o++[p]:=⟨opn.dropLast,opn.getLast (by intro e;subst e;simp at hol1),(dU _).symm⟩;simp at h;obtain⟨⟨e1,e2⟩,rfl,rfl⟩:=h;have hpk:p<k:=ho p (by simp);unfold EN.a at h1 hc;rw[e1,e2]at h1 hc;have hpa:p<all.length:=by omega
  have q1:=rn hpa;have t1:(eW all).take k=eW all:=ay (by simp[ha]);have t2:(eW (o++[p])).take o.length=eW o:=by rw[gI,fM (by simp)]
  have t3:(eW (o++[p]))[o.length]?=some (aL (p:Int)):=by rw[gI,bY (by simp)];simp
  have f1:=pX all;have f2:=pX o;have g1:=lY all;have g2:=lY o;have hlen:(o++[p]).length=o.length+1:=by simp
  have hnn:¬((o.length:Int)+1<1):=by omega
  have hw:IntKind.i64.wrap ((o.length:Int)+1-1)=o.length:=by rw[dT (by simp at hol;unfold aV at hn;omega)];omega
  have hw1:IntKind.i64.wrap (o.length:Int)=o.length:=by rw[dT (by simp at hol;unfold aV at hn;omega)]
  have hm':o.length+1≤aV:=by simp at hol;omega
  simp at hol;have hd:all[p]?.getD 0=all[p]:=by simp[hpa]
  have hmin:(if all[p]<k then (all[p]:Int) else (k:Int))=((min k all[p]:Nat):Int):=by split<;>omega
  simp[gv,gS,h1,hlt,hp,hc,ha,t1,t2,t3,f1,f2,g1,g2,hnn,hw,hw1,append,gI,hm,hm',bJ hk hn,aT,aW,jC 5,uw,q1,hpk,hpa,uZ,hmin,QX]
 rw[h0]at h hp hk1;have hol1:2≤opn.length:=by omega
 obtain⟨o',q,rfl⟩:∃o p,opn=o++[p]:=⟨opn.dropLast,opn.getLast (by intro e;subst e;simp at hol1),(dU _).symm⟩;have hol2:1≤o'.length:=by simp at hol1;omega
 obtain⟨o,p,rfl⟩:∃o p,o'=o++[p]:=⟨o'.dropLast,o'.getLast (by intro e;subst e;simp at hol2),(dU _).symm⟩;have hdrop:(o++[p]++[q]).drop ((o++[p]++[q]).length-(2:Int).toNat)=[p,q]:=by
  simp
 have htake:(o++[p]++[q]).take ((o++[p]++[q]).length-2)=o:=by
  rw[iT,fM (by simp)]
 rw[hdrop]at h;simp only[htake]at h;split at h
 ·rename_i e12;obtain⟨e1,e2⟩:=e12;simp only[az,dx]at h;obtain⟨rfl,rfl⟩:=h;have hpk:p<k:=ho p (by simp);have hqk:q<k:=ho q (by simp);unfold EN.a at h1 hc;rw[e1,e2]at h1 hc;have hpa:p<all.length:=by omega
  have hqa:q<all.length:=by omega
  have q1:=rn hpa;have q2:=rn hqa;have t1:(eW all).take k=eW all:=ay (by simp[ha]);have hN:eW (o++[p]++[q])=eW o++([aL (p:Int),aL (q:Int)]:List ap):=by simp[gI]
  have t2:(eW o++([aL (p:Int),aL (q:Int)]:List ap)).take o.length=eW o:=by rw[fM (by simp)]
  have t3:(eW o++([aL (p:Int),aL (q:Int)]:List ap))[o.length]?=some (aL (p:Int)):=by rw[bY (by simp)];simp
  have t4:(eW o++([aL (p:Int),aL (q:Int)]:List ap))[o.length+1]?=some (aL (q:Int)):=by rw[bY (by simp)];simp
  have f1:=pX all;have f2:=pX o;have g1:=lY all;have g2:=lY o;simp at hol;have hnn:¬((o.length:Int)+1+1<2):=by omega
  have hnn':¬((o.length:Int)+2<2):=by omega
  have hw:IntKind.i64.wrap ((o.length:Int)+1+1-2)=o.length:=by rw[dT (by unfold aV at hn;omega)];omega
  have hw':IntKind.i64.wrap ((o.length:Int)+2-2)=o.length:=by rw[dT (by unfold aV at hn;omega)];omega
  have hw1:IntKind.i64.wrap (o.length:Int)=o.length:=by rw[dT (by unfold aV at hn;omega)]
  have hm':o.length+1≤aV:=by omega
  have hd:all[p]?.getD 0=all[p]:=by simp[hpa]
  have hd2:all[q]?.getD 0=all[q]:=by simp[hqa]
  have hmin:(if all[p]<k then (all[p]:Int) else (k:Int))=((min k all[p]:Nat):Int):=by split<;>omega
  have hmin2:(if all[q]<min k all[p] then (all[q]:Int) else ((min k all[p]:Nat):Int))=((min (min k all[p]) all[q]:Nat):Int):=by split<;>omega
  unfold gv;rw[hN];simp[gS,h1,hlt,hp,hc,ha,t1,t2,t3,t4,f1,f2,g1,g2,hnn,hnn',hw,hw',hw1,append,gI,hm,hm',bJ hk hn,aT,aW,jC 5,uw,q1,q2,hpk,hpa,hqk,hqa,uZ,hmin,hmin2,QX,abb]
 cases h
end Go.AM
namespace Go.AM
open P
set_option maxHeartbeats 8000000
set_option maxRecDepth 8000
abbrev xl:List Nat:=[2,3,6,7,8,9,10,11,12,13,17,18,19,20,21,22,23]
def K1(r:Option (Ex×St)):Prop:=∃s,r=some (.ret,s)∧lU s.env 2=.ai∧lU s.env 3=.bool false
theorem OD{k:Nat}{n:EN}{all opn:List Nat}(h:lD k n all opn=none) :
  (b8 n.tag<0∨opn.length<b8 n.tag∨fb n=false) ∨
  ((0≤b8 n.tag∧b8 n.tag≤opn.length∧fb n=true) ∧
   ((b8 n.tag=0∧¬(n.l=-1∧n.r=-1))∨(∃(o:List Nat) (p:Nat),b8 n.tag=1∧opn=o++[p]∧¬(n.l=(p:Int)∧n.r=-1))∨(∃(o:List Nat) (p q:Nat),b8 n.tag=2∧opn=o++[p,q]∧¬(n.l=(p:Int)∧n.r=(q:Int))))):=by
 unfold lD at h;split at h
 ·exact .inl (by assumption)
 rename_i hneg;have hc:fb n=true:=by cases hq:fb n<;>simp_all
 have hk2:=ny n.tag;refine .inr ⟨⟨by omega,by omega,hc⟩,?_⟩;rcases (show b8 n.tag=0∨b8 n.tag=1∨b8 n.tag=2 by omega) with h0|h0|h0
 ·rw[h0]at h;simp at h;exact .inl ⟨h0,fun ⟨a,b⟩=>h a b⟩
 ·rw[h0]at h;have hol1:1≤opn.length:=by omega
  obtain⟨o,p,rfl⟩:∃o p,opn=o++[p]:=⟨opn.dropLast,opn.getLast (by intro e;subst e;simp at hol1),(dU _).symm⟩;simp at h;exact .inr (.inl ⟨o,p,h0,rfl,fun ⟨a,b⟩=>h a b⟩)
 rw[h0]at h;have hol1:2≤opn.length:=by omega
 obtain⟨o',q,rfl⟩:∃o p,opn=o++[p]:=⟨opn.dropLast,opn.getLast (by intro e;subst e;simp at hol1),(dU _).symm⟩;have hol2:1≤o'.length:=by simp at hol1;omega
 obtain⟨o,p,rfl⟩:∃o p,o'=o++[p]:=⟨o'.dropLast,o'.getLast (by intro e;subst e;simp at hol2),(dU _).symm⟩;have hdrop:(o++[p]++[q]).drop ((o++[p]++[q]).length-(2:Int).toNat)=[p,q]:=by simp
 rw[hdrop]at h;simp only at h;split at h
 ·cases h
 rename_i hne;exact .inr (.inr ⟨o,p,q,h0,by simp,hne⟩)
theorem adK{a b c d:Int}(h:¬(c=a∧d=b)):eqa true [0,0] (.agg [aL a,aL b]) (.agg [aL c,aL d])=some (.bool true):=by
 by_cases h1:c=a
 ·have h2:¬b=d:=fun e=>h ⟨h1,e.symm⟩;simp[h1,aP h2]
 have h2:¬a=c:=fun e=>h1 e.symm;simp[aP h2]
theorem Mk{b:Bool}{e:List EN}{k:Nat}{all opn:List Nat}(hk:k<e.length)(hn:e.length≤aV)(ha:all.length=k)(ho:∀p∈opn,p<k)(hol:opn.length≤k)
  (h:lD k e[k] all opn=none):K1 (dE 3 xl gS (run code gS (gv b e k all opn))):=by
 have h1:=En hk;have hp:=yD e[k].tag;have hc:=CK e[k];have hlt:((k:Int)<(e.length:Int)):=by omega
 rcases OD h with hA|⟨⟨h0,h2,h3⟩,hB⟩
 ·unfold EN.a at h1 hc;by_cases hk0:b8 e[k].tag<0
  ·exact⟨_,by simp[gv,gS,h1,hlt,hp,hk0];rfl,rfl,rfl⟩
  by_cases hk1:(opn.length:Int)<b8 e[k].tag
  ·exact⟨_,by simp[gv,gS,h1,hlt,hp,hk0,hk1];rfl,rfl,rfl⟩
  have hc1:fb e[k]=false:=hA.elim (fun h=>absurd h hk0) fun h=>h.elim (fun h=>absurd h hk1) id;rw[hc1]at hc;exact⟨_,by simp[gv,gS,h1,hlt,hp,hk0,hk1,hc];rfl,rfl,rfl⟩
 have hk0:¬(b8 e[k].tag<0):=by omega
 have hk1:¬((opn.length:Int)<b8 e[k].tag):=by omega
 rw[h3]at hc;unfold EN.a at h1 hc;have hw1:IntKind.i64.wrap (opn.length:Int)=opn.length:=by rw[dT (by unfold aV at hn;omega)]
 rcases hB with⟨h0,hne⟩|⟨o,p,h0,rfl,hne⟩|⟨o,p,q,h0,rfl,hne⟩
 ·rw[h0]at hp;have hx:=adK hne;have hnn:¬((opn.length:Int)<0):=by omega
  exact⟨_,by simp[gv,gS,h1,hlt,hp,hnn,hc,hw1,jC 5,jC 6,uw,-eqa,hx];rfl,rfl,rfl⟩
 ·rw[h0]at hp;have hx:=adK hne;have hpk:p<k:=ho p (by simp);have hpa:p<all.length:=by omega
  have q1:=rn hpa;simp at hol;have t3:(eW (o++[p]))[o.length]?=some (aL (p:Int)):=by rw[gI,bY (by simp)];simp
  have hnn:¬((o.length:Int)+1<1):=by omega
  have hw:IntKind.i64.wrap ((o.length:Int)+1-1)=o.length:=by rw[dT (by unfold aV at hn;omega)];omega
  have hw2:IntKind.i64.wrap (o.length:Int)=o.length:=by rw[dT (by unfold aV at hn;omega)]
  exact⟨_,by simp[gv,gS,h1,hlt,hp,hnn,hc,hw,hw2,ha,t3,q1,hpk,hpa,uZ,gI,aT,aW,jC 5,uw,QX,-eqa,hx];rfl,rfl,rfl⟩
 rw[h0]at hp;have hx:=adK hne;have hpk:p<k:=ho p (by simp);have hqk:q<k:=ho q (by simp);have hpa:p<all.length:=by omega
 have hqa:q<all.length:=by omega
 have q1:=rn hpa;have q2:=rn hqa;simp at hol;have hN:eW (o++[p,q])=eW o++([aL (p:Int),aL (q:Int)]:List ap):=by simp[gI]
 have t3:(eW o++([aL (p:Int),aL (q:Int)]:List ap))[o.length]?=some (aL (p:Int)):=by rw[bY (by simp)];simp
 have t4:(eW o++([aL (p:Int),aL (q:Int)]:List ap))[o.length+1]?=some (aL (q:Int)):=by rw[bY (by simp)];simp
 have hnn:¬((o.length:Int)+2<2):=by omega
 have hw:IntKind.i64.wrap ((o.length:Int)+2-2)=o.length:=by rw[dT (by unfold aV at hn;omega)];omega
 have hw2:IntKind.i64.wrap (o.length:Int)=o.length:=by rw[dT (by unfold aV at hn;omega)]
 unfold gv;rw[hN];exact⟨_,by simp[gS,h1,hlt,hp,hnn,hc,hw,hw2,ha,t3,t4,q1,q2,hpk,hpa,hqk,hqa,uZ,gI,aT,aW,jC 5,uw,QX,abb,-eqa,hx];rfl,rfl,rfl⟩
def ff:List EN→Nat→List Nat→List Nat→Option (List Nat×List Nat)
 |[],_,all,opn=>some (all,opn)
 |n::r,i,all,opn=>(lD i n all opn).bind fun q=>ff r (i+1) q.1 q.2
theorem HA{k:Nat}{n:EN}{all opn all' opn':List Nat}(ha:all.length=k)(ho:∀p∈opn,p<k)(hol:opn.length≤k)(h:lD k n all opn=some (all',opn')) :
  all'.length=k+1∧(∀p∈opn',p<k+1)∧opn'.length≤k+1:=by
 unfold lD at h;split at h
 ·cases h
 split at h
 ·split at h
  ·cases h
   exact⟨by simp[ha],fun p hp=>by
    rcases cq.1 hp with hp|hp
    ·have:=ho p hp;omega
    simp at hp;omega,by simp;omega⟩
  cases h
 ·split at h
  ·cases h
   exact⟨by simp[ha],fun p hp=>by
    rcases cq.1 hp with hp|hp
    ·have:=ho p (cN hp);omega
    simp at hp;omega,by simp;omega⟩
  cases h
 ·split at h
  ·cases h
   exact⟨by simp[ha],fun p hp=>by
    rcases cq.1 hp with hp|hp
    ·have:=ho p (cN hp);omega
    simp at hp;omega,by simp;omega⟩
  cases h
 cases h
theorem Cz{b:Bool}{e:List EN}(hn:e.length≤aV):∀(m k:Nat) (all opn:List Nat),k+m=e.length→all.length=k→(∀p∈opn,p<k)→opn.length≤k →
  (match ff (e.drop k) k all opn with
   |none=>K1 (cc code 3 xl gS (gv b e k all opn))
   |some (all',opn')=>all'.length=e.length∧∃x,cc code 3 xl gS (gv b e k all opn) =
     some (.ext 0,⟨[.agg [.aa b (At e)],.ptr 0 0 0 0,.any,.any,.sl 1 e.length 0 all'.length,.sl 2 e.length 0 opn'.length,.any,.any,.any,.any,.any,.any,.any,.any,.aa b (At e),aL e.length,aL e.length,x,.any,.any,.any,.any,.any,.any],
      [.arr 1 0 [.agg [.aa b (At e)]],.arr 1 e.length (eW all'),.arr 1 e.length (eW opn')]⟩))
 |0,k,all,opn,hk,ha,ho,hol=>by
  have hk:k=e.length:=by omega
  subst hk;rw[gP];simp only[ff];refine⟨ha,.bool false,?_⟩;rw[jC];simp[gv,gS]
 |m+1,k,all,opn,hk,ha,ho,hol=>by
  have hk':k<e.length:=by omega
  rw[kJ hk'];simp only[ff];cases hs:lD k e[k] all opn with
  |none=>
   simp only[Option.bind_none];rw[jC];exact Mk hk' hn ha ho hol hs
  |some q=>
   obtain⟨all',opn'⟩:=q;simp only[dk];obtain⟨i1,i2,i3⟩:=HA ha ho hol hs;have ih:=Cz (b:=b) hn m (k+1) all' opn' (by omega) i1 i2 i3;have hst:=Lz (b:=b) hk' hn ha ho hol hs;rw[jC 3 xl gS (gv b e k all opn),hst];exact ih
theorem HE(l:List Nat)(fl top:Bool)(base:Nat)(σ:aw)(n:Nat):∀a,a∈eW l→aC (fz fl top base σ (n+1) a)=aC a:=fun a ha=>by
 obtain⟨k,_,rfl⟩:=bK.1 ha;simp
def GC(e:List EN):Bool:=match ff e 0 [] [] with
 |none=>false
 |some (all,opn)=>opn.length==1&&decide (all.length≤1000)
theorem MT(b:Bool)(e:List EN)(hn:e.length≤aV):∃x,bI I.qdq [tJ b e]=some (.tup [x,.bool (GC e)])∧(GC e=true→∃all,ff e 0 [] []=some all∧x=.aa false (eW all.1)):=by
 rw[aQ ahr rfl];have h:=Cz (b:=b) hn e.length 0 [] [] (by omega) rfl (by simp) (by simp);rw[List.drop_zero]at h;unfold GC tJ;cases hf:ff e 0 [] [] with
 |none=>
  rw[hf]at h;obtain⟨s,h1,h2,h3⟩:=h;refine⟨.aa false [],?_,fun h=>by cases h⟩;unfold gv at h1;simp at h1;have h2':s.env[2]?.getD .any=.ai:=h2;have h3':s.env[3]?.getD .any=.bool false:=h3;simp[aoC,QA,h1,h2',h3']
 |some q=>
  rw[hf]at h;obtain⟨all,opn⟩:=q;obtain⟨hl,x,h1⟩:=h;refine⟨.aa false (eW all),?_,fun _=>⟨_,rfl,rfl⟩⟩;unfold gv at h1;simp at h1;have t1:(eW all).take all.length=eW all:=ay (by simp);have f1:=pX all;by_cases ho:opn.length=1
  ·simp[aoC,QA,h1,ho,t1,f1];exact⟨HE all _ _ _ _ _,by omega⟩
  have ho':¬((opn.length:Int)=1):=by omega
  simp[aoC,QA,h1,ho,aP ho',t1,f1];exact HE all _ _ _ _ _
theorem CC(b:Bool)(e:List EN)(hn:e.length≤aV):bI I.qdh [tJ b e]=some (aL (if GC e then 0 else 200)):=by
 rw[aQ agv rfl];obtain⟨x,h,_⟩:=MT b e hn;have hx:∀b',b'=b∨b'=true→True:=fun _ _=>trivial;unfold tJ at *;cases ho:GC e<;>rw[ho]at h<;>simp[apZ,ab6,h]
end Go.AM
namespace Go.AM
open P
set_option maxHeartbeats 64000000
set_option maxRecDepth 40000
attribute [local simp] aF br
def GZ(x:Int):List Int→List Int
 |[]=>[x]
 |y::r=>if x≤y then x::y::r else y::GZ x r
def pJ:List Int→List Int
 |[]=>[]
 |x::r=>GZ x (pJ r)
theorem Lu(x z:Int):∀l:List Int,z∈GZ x l↔z=x∨z∈l
 |[]=>by simp[GZ]
 |y::r=>by
  unfold GZ;split
  ·simp
  simp[Lu x z r];constructor<;>rintro (h|h|h)<;>simp[h]
theorem Bl(z:Int):∀l:List Int,z∈pJ l↔z∈l
 |[]=>by simp[pJ]
 |x::r=>by simp[pJ,Lu,Bl z r]
theorem Mo(x:Int):∀l:List Int,(GZ x l).length=l.length+1
 |[]=>rfl
 |y::r=>by
  unfold GZ;split<;>simp[Mo x r]
theorem xx:∀l:List Int,(pJ l).length=l.length
 |[]=>rfl
 |x::r=>by simp[pJ,Mo,xx r]
theorem Rn(x:Int):∀l:List Int,jy pW (aL x) (l.map (.int .i64))=(GZ x l).map (.int .i64)
 |[]=>rfl
 |y::r=>by
  by_cases h:x≤y
  ·simp[jy,GZ,pW,h]
  simp[jy,GZ,pW,h,Rn x r]
theorem MX:∀l:List Int,lC pW (l.map (.int .i64))=(pJ l).map (.int .i64)
 |[]=>rfl
 |x::r=>by simp only[cH,lC,MX r,Rn];rfl
theorem Hz:∀l:List Int,LX (l.map (.int .i64))=some l
 |[]=>rfl
 |x::r=>by simp[LX,Hz r]
theorem SA{σ:aw}{id ep:Nat}{l:List Int}(hσ:σ[id]?=some (.arr 1 ep (bE l)))(hn:l.length≤aV) :
  db code I.slices_Sort_int_int [.sl id ep 0 l.length] σ=some (.any,σ.set id (.arr 1 ep (bE (pJ l)))):=by
 refine FN gz (k:=2) (n:=0) vG ?_;have hp:code.prims=prims:=rfl;rw[hp];have h1:((bE l).drop 0).take l.length=bE l:=by simp
 have h2:(bE l).drop l.length=[]:=by simp
 simp only[prims,wF,hσ,h1,h2,cu,Hz,MX];rw[if_pos (by simp[hn])];simp
def qF(e:List EN):List Int:=e.flatMap fun n=>if n.tag=2 then [n.col] else []
theorem LN(e:List EN):(qF e).length≤e.length:=by
 induction e with
 |nil=>exact aB _
 |cons n e ih=>
  unfold qF at *;simp only[iQ,dD,cn];split<;>simp only[cn,cK]<;>omega
def oK(e:List EN):List Int:=dQ (pJ (qF e))
theorem SK(b:Bool)(e:List EN)(hn:e.length≤aV)(ho:GC e=true):bI I.qdi [.agg [.aa b (e.map EN.a)]]=some (.aa false (bE (oK e))):=by
 rw[aQ afJ rfl];have hc:=fun b=>CC b e hn;rw[ho]at hc;simp only[tJ,At]at hc;have hm:(qF e).length≤aV:=aZ (LN e) hn;obtain⟨ep,hl⟩:=Nq (base:=2) (clr:=[4,9,10]) (b:=AA) e
  (fun k ep (acc:List Int)=>⟨[.agg [.aa b (e.map EN.a)],.ptr 0 0 0 0,.ai,.sl 1 ep 0 acc.length,.any,.bool false,.aa b (e.map EN.a),aL e.length,aL k,.any,.any],[.arr 1 0 [.agg [.aa b (e.map EN.a)]],.arr 1 ep (bE acc)]⟩)
  (fun n=>if n.tag=2 then [n.col] else [])
  (fun ep acc=>(.ext 0,⟨[.agg [.aa b (e.map EN.a)],.ptr 0 0 0 0,.ai,.sl 1 ep 0 acc.length,.any,.bool false,.aa b (e.map EN.a),aL e.length,aL e.length,.bool false,.any],[.arr 1 0 [.agg [.aa b (e.map EN.a)]],.arr 1 ep (bE acc)]⟩)) 1
  (fun n _=>by split<;>simp)
  (fun k n ep acc hk hy ha=>by
   have aj:((k:Int)<(e.length:Int)):=by omega
   have h5:acc.length+1≤aV:=by omega
   by_cases ht:n.tag=2
   ·exact⟨ep+1,by simp[AA,aj,hy,EN.a,ht,append,h5,bJ hk hn,aT,aW]⟩
   exact⟨ep,by simp[AA,aj,hy,EN.a,ht,aP ht,bJ hk hn,aT,aW]⟩)
  (fun ep acc _=>by simp[AA]) 0
 have hs:=fun σ':Obj=>SA (σ:=[σ',.arr 1 ep (bE (qF e))]) (id:=1) (ep:=ep) rfl hm;obtain⟨A,h1,h2,h3⟩:=Kl (σ:=[.arr 1 0 [.agg [.aa b (e.map EN.a)]],.arr 1 ep (bE (pJ (qF e)))]) (id:=1) (ep:=ep) (l:=pJ (qF e)) rfl (by rw[xx];exact hm);simp only[bE,cE,cK,show ((0:Nat):Int)=0 from rfl]at hl;rw[xx]at h1;unfold oK;have hcl:=wS (pJ (qF e));have hfl:(e.flatMap fun n=>if n.tag=2 then [n.col] else [])=qF e:=rfl;rw[hfl]at hl;have hA:(bE A).take (dQ (pJ (qF e))).length=bE (dQ (pJ (qF e))):=by
  unfold bE;rw[←List.map_take,h3]
 generalize dQ (pJ (qF e))=c at *;generalize pJ (qF e)=s at *;generalize qF e=cs at *;have hle:c.length≤A.length:=by omega
 simp[apo,Z7,hc,hl,hs,h1,hA,hle]
end Go.AM
