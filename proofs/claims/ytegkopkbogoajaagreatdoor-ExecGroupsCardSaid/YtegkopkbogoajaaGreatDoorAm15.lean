/- Part of the proof. -/
import Derived.Test.YtegkopkbogoajaaGreatDoorAm04
import Derived.KernelRfl
set_option linter.unusedVariables false
set_option linter.unusedSimpArgs false
namespace Go.AM
section
variable {P:Code}
theorem ao3(env ls:List aa)(σ:ah)(x:bp):step P env ls σ (.mov x)=(some (x.eval env ls,σ)):=by
 unfold step;simp only[aN];exact aL _
theorem akh(env ls:List aa)(σ:ah)(c:bp)(a:bp)(b:bp):step P env ls σ (.pick c a b)=((Xj (a.eval env ls) (b.eval env ls) (c.eval env ls)).map (·,σ)):=by
 unfold step;simp only[aN];exact aL _
theorem aoC(env ls:List aa)(σ:ah)(k:Nat)(x:bp):step P env ls σ (.box k x)=(let v:=x.eval env ls;if aw v=k then some (.ptr σ.length 0 0 0,σ++[.arr k 0 [v]]) else none):=by
 unfold step;simp only[aN];exact aL _
theorem agu(env ls:List aa)(σ:ah)(zero:List aa)(parts:List (Nat×Nat×bp)):step P env ls σ (.build zero parts)=((fill zero (parts.map fun p=>(p.1,p.2.1,p.2.2.eval env ls))).map fun cs=>(.agg cs,σ)):=by
 unfold step;simp only[aN];exact aL _
theorem agz(env ls:List aa)(σ:ah)(k:Nat):step P env ls σ (.mknil k)=(some (.sl σ.length 0 0 0,σ++[.arr k 0 []])):=by
 unfold step;simp only[aN];exact aL _
theorem anW(env ls:List aa)(σ:ah)(k:Nat)(xs:List bp):step P env ls σ (.mkl k xs)=(let vs:=xs.map (·.eval env ls);if vs.all (fun v=>aw v==k) then some (.lst vs,σ) else none):=by
 unfold step;simp only[aN];exact aL _
theorem alo(env ls:List aa)(σ:ah)(k:Nat)(xs:List bp):step P env ls σ (.mksl k xs)=(let vs:=xs.map (·.eval env ls)
  if vs=[] then some (.yz,σ) else
  if vs.all (fun v=>aw v==k) then some (.sl σ.length 0 0 vs.length,σ++[.arr k 0 vs]) else none):=by
 unfold step;simp only[aN];exact aL _
theorem af9(env ls:List aa)(σ:ah)(k:Nat)(zero:aa)(n:Nat)(parts:List (Nat×bp)):step P env ls σ (.mkslz k zero n parts)=(let vs:=M9 (List.replicate n zero) (parts.map fun p=>(p.1,p.2.eval env ls))
  if vs.all (fun v=>aw v==k) then some (.sl σ.length 0 0 n,σ++[.arr k 0 vs]) else none):=by
 unfold step;simp only[aN];exact aL _
theorem akJ(env ls:List aa)(σ:ah)(k:Nat)(zero:aa)(n:bp)(c:bp):step P env ls σ (.make k zero n c)=((lL (n.eval env ls)).bind fun m=>(lL (c.eval env ls)).bind fun d=>
   if m=d∧aw zero=k∧m≤most then some (.sl σ.length 0 0 m,σ++[.arr k 0 (List.replicate m zero)]) else none):=by
 unfold step;simp only[aN];exact aL _
theorem akd(env ls:List aa)(σ:ah)(a:Bool)(s:Nat)(x:bp):step P env ls σ (.load a s x)=((loadAt a s (x.eval env ls) σ).map (·,σ)):=by
 unfold step;simp only[aN];exact aL _
theorem aeM(env ls:List aa)(σ:ah)(s:Nat)(x:bp)(v:bp):step P env ls σ (.store s x v)=((storeAt s (x.eval env ls) (v.eval env ls) σ).map (.any,·)):=by
 unfold step;simp only[aN];exact aL _
theorem apn(env ls:List aa)(σ:ah)(off:Nat)(x:bp):step P env ls σ (.fld off x)=((Jc σ off (x.eval env ls)).map (·,σ)):=by
 unfold step;simp only[aN];exact aL _
theorem alG(env ls:List aa)(σ:ah)(a:Bool)(s:Nat)(off:Nat)(x:bp):step P env ls σ (.fldv a s off x)=((HO a s off (x.eval env ls)).map (·,σ)):=by
 unfold step;simp only[aN];exact aL _
theorem akp(env ls:List aa)(σ:ah)(k:Nat)(x:bp)(i:bp):step P env ls σ (.idxs k x i)=((lL (i.eval env ls)).bind fun n=>(Ar σ k n (x.eval env ls)).map (·,σ)):=by
 unfold step;simp only[aN];exact aL _
theorem ako(env ls:List aa)(σ:ah)(m:Nat)(s:Nat)(x:bp)(i:bp):step P env ls σ (.idxa m s x i)=((lL (i.eval env ls)).bind fun n=>if n<m then (Jc σ (n*s) (x.eval env ls)).map (·,σ) else none):=by
 unfold step;simp only[aN];exact aL _
theorem alN(env ls:List aa)(σ:ah)(a:Bool)(m:Nat)(s:Nat)(x:bp)(i:bp):step P env ls σ (.idxv a m s x i)=((lL (i.eval env ls)).bind fun n=>if n<m then (HO a s (n*s) (x.eval env ls)).map (·,σ) else none):=by
 unfold step;simp only[aN];exact aL _
theorem alB(env ls:List aa)(σ:ah)(x:bp)(i:bp):step P env ls σ (.idxt x i)=((lL (i.eval env ls)).bind fun n=>(Qf n (x.eval env ls)).map (·,σ)):=by
 unfold step;simp only[aN];exact aL _
theorem aoJ(env ls:List aa)(σ:ah)(op:BinOp)(x:bp)(y:bp):step P env ls σ (.bin op x y)=((bin op (x.eval env ls) (y.eval env ls)).map (·,σ)):=by
 unfold step;simp only[aN];exact aL _
theorem amw(env ls:List aa)(σ:ah)(n:Bool)(x:bp)(y:bp):step P env ls σ (.eqb n x y)=((eqb n (x.eval env ls) (y.eval env ls)).map (·,σ)):=by
 unfold step;simp only[aN];exact aL _
theorem aqL(env ls:List aa)(σ:ah)(n:Bool)(ks:List Nat)(x:bp)(y:bp):step P env ls σ (.eqa n ks x y)=((eqa n ks (x.eval env ls) (y.eval env ls)).map (·,σ)):=by
 unfold step;simp only[aN];exact aL _
theorem afH(env ls:List aa)(σ:ah)(n:Bool)(x:bp):step P env ls σ (.isnil n x)=((isnil n (x.eval env ls)).map (·,σ)):=by
 unfold step;simp only[aN];exact aL _
theorem akH(env ls:List aa)(σ:ah)(n:Bool)(x:bp):step P env ls σ (.nils n x)=((pw n σ (x.eval env ls)).map (·,σ)):=by
 unfold step;simp only[aN];exact aL _
theorem aqN(env ls:List aa)(σ:ah)(op:UnOp)(x:bp):step P env ls σ (.una op x)=((una op (x.eval env ls)).map (·,σ)):=by
 unfold step;simp only[aN];exact aL _
theorem alJ(env ls:List aa)(σ:ah)(k:IntKind)(x:bp):step P env ls σ (.conv k x)=((Xc k (x.eval env ls)).map (·,σ)):=by
 unfold step;simp only[aN];exact aL _
theorem agp(env ls:List aa)(σ:ah)(k:Nat)(x:bp)(lo:Option bp)(hi:Option bp):step P env ls σ (.slice k x lo hi)=(let v:=x.eval env ls
  (jn σ v).bind fun n=>(ct env ls 0 lo).bind fun l=>(ct env ls n hi).bind fun h=>(aslice σ k v l h).map (·,σ)):=by
 unfold step;simp only[aN];exact aL _
theorem aaI(env ls:List aa)(σ:ah)(x:bp)(lo:Option bp)(hi:Option bp):step P env ls σ (.slicet x lo hi)=(let v:=x.eval env ls
  (I6 v).bind fun n=>(ct env ls 0 lo).bind fun l=>(ct env ls n hi).bind fun h=>(Ij v l h).map (·,σ)):=by
 unfold step;simp only[aN];exact aL _
theorem Zy(env ls:List aa)(σ:ah)(x:bp):step P env ls σ (.slice0 x)=((jn σ (x.eval env ls)).map fun _=>(.yz,σ)):=by
 unfold step;simp only[aN];exact aL _
theorem aai(env ls:List aa)(σ:ah)(n:Nat)(x:bp):step P env ls σ (.aslice n x)=((abb σ n (x.eval env ls)).map (·,σ)):=by
 unfold step;simp only[aN];exact aL _
theorem aoK(env ls:List aa)(σ:ah)(x:bp):step P env ls σ (.len x)=((jn σ (x.eval env ls)).map fun (n:Nat)=>(.int .i64 (n:Int),σ)):=by
 unfold step;simp only[aN];exact aL _
theorem akZ(env ls:List aa)(σ:ah)(x:bp):step P env ls σ (.lent x)=((I6 (x.eval env ls)).map fun (n:Nat)=>(.int .i64 (n:Int),σ)):=by
 unfold step;simp only[aN];exact aL _
theorem apu(env ls:List aa)(σ:ah)(x:bp):step P env ls σ (.cap x)=((agC (x.eval env ls)).map (·,σ)):=by
 unfold step;simp only[aN];exact aL _
theorem aqw(env ls:List aa)(σ:ah)(k:Nat)(x:bp)(y:bp):step P env ls σ (.app k x y)=((rd σ (y.eval env ls)).bind fun ys=>append k (x.eval env ls) ys σ):=by
 unfold step;simp only[aN];exact aL _
theorem alP(env ls:List aa)(σ:ah)(k:Nat)(zero:aa)(x:bp)(n:bp):step P env ls σ (.appz k zero x n)=((lL (n.eval env ls)).bind fun m=>if aw zero=k∧m≤most then append k (x.eval env ls) (List.replicate m zero) σ else none):=by
 unfold step;simp only[aN];exact aL _
theorem akF(env ls:List aa)(σ:ah)(k:Nat)(x:bp)(y:bp):step P env ls σ (.copy k x y)=((Kt σ (aeF (x.eval env ls)) (y.eval env ls)).bind fun ys=>(ON σ k ys (x.eval env ls)).map fun σ'=>(.int .i64 (ys.length:Int),σ')):=by
 unfold step;simp only[aN];exact aL _
theorem alz(env ls:List aa)(σ:ah)(x:bp)(xs:List bp):step P env ls σ (.mins x xs)=((tB true (x.eval env ls) (xs.map (·.eval env ls))).map (·,σ)):=by
 unfold step;simp only[aN];exact aL _
theorem ajT(env ls:List aa)(σ:ah)(x:bp)(xs:List bp):step P env ls σ (.maxs x xs)=((tB false (x.eval env ls) (xs.map (·.eval env ls))).map (·,σ)):=by
 unfold step;simp only[aN];exact aL _
theorem ajY(env ls:List aa)(σ:ah)(f:Nat)(first:List bp)(cap:List bp):step P env ls σ (.mkfn f first cap)=(some (.fn f (first.map (·.eval env ls)) (cap.map (·.eval env ls)),σ)):=by
 unfold step;simp only[aN];exact aL _
theorem ap9(env ls:List aa)(σ:ah)(i:Nat)(x:bp):step P env ls σ (.ext i x)=((abZ i (x.eval env ls)).map (·,σ)):=by
 unfold step;simp only[aN];exact aL _
theorem aeG(env ls:List aa)(σ:ah)(x:bp):step P env ls σ (.nilck x)=((Mo σ (x.eval env ls)).map (·,σ)):=by
 unfold step;simp only[aN];exact aL _
theorem afq(env ls:List aa)(σ:ah)  : step P env ls σ (.mkmap)=(some (.mp σ.length,σ++[.map []])):=by
 unfold step;simp only[aN];exact aL _
theorem akL(env ls:List aa)(σ:ah)(m:bp)(k:bp)(v:bp):step P env ls σ (.mput m k v)=((Qa σ (k.eval env ls) (v.eval env ls) (m.eval env ls)).map (.any,·)):=by
 unfold step;simp only[aN];exact aL _
theorem ak7(env ls:List aa)(σ:ah)(zero:aa)(ok:Bool)(m:bp)(k:bp):step P env ls σ (.look zero ok m k)=(if ng (k.eval env ls) then (D8 σ (m.eval env ls)).bind fun es=>(lookup (k.eval env ls) es).map fun r=>(if ok then .tup [r.getD zero,.bool r.isSome] else r.getD zero,σ) else none):=by
 unfold step;simp only[aN];exact aL _
theorem akQ(env ls:List aa)(σ:ah)(m:bp):step P env ls σ (.mlen m)=((D8 σ (m.eval env ls)).map fun es=>(.int .i64 (es.length:Int),σ)):=by
 unfold step;simp only[aN];exact aL _
theorem aoz(env ls:List aa)(σ:ah)(zero:aa)(x:bp):step P env ls σ (.clr zero x)=((Z9 σ zero (x.eval env ls)).map (.any,·)):=by
 unfold step;simp only[aN];exact aL _
theorem ao5(env ls:List aa)(σ:ah)  : step P env ls σ (.bad)=(none):=by
 unfold step;simp only[aN];exact aL _
end
end Go.AM
namespace Go.AM
def Bq.isPure:Bq→Bool
 |.pure|.fresh _=>true
 |_=>false
theorem aec(σ τ:ah):∀(n:Nat) (v:aa),fz true false 0 τ n (fz true false 0 σ n v)=fz true false 0 σ n v:=by
 intro n;induction n with
 |zero=>intro v;rfl
 |succ n ih=>
  intro v;have hl:∀l:List aa,(l.map (fz true false 0 σ n)).map (fz true false 0 τ n)=l.map (fz true false 0 σ n):=fun l=>by
   rw[aqS];exact aj6 fun x _=>ih x
  cases v with
  |agg cs=>simp only[fz];rw[hl]
  |tup cs=>simp only[fz];rw[hl]
  |fn f a c=>simp only[fz];rw[hl,hl]
  |wh b xs=>cases b<;>simp[fz]
  |cptr b x o=>
   cases b
   ·simp[fz]
   by_cases h:aw (fz true false 0 σ n x)=aw x
   ·simp[fz,gd,h,ih]
   simp[fz,gd,h]
  |imap b xs=>cases b<;>simp[fz]
  |lst xs=>
   by_cases h:(xs.map (fz true false 0 σ n)).map aw=xs.map aw
   ·simp only[fz,jH,if_pos h];rfl
   simp only[fz,jH,if_neg h]
  |sl id ep off len=>
   simp only[fz,art,ali];cases sliceAt σ id ep off len with
   |none=>simp[fz]
   |some l=>
    by_cases h:(l.map (fz true false 0 σ n)).map aw=l.map aw
    ·simp only[Option.elim,jH,if_pos h,fz];rfl
    simp only[Option.elim,jH,if_neg h,fz]
  |ptr id ep i off=>
   simp only[fz,art,ali];cases oX σ id ep i with
   |none=>simp[fz]
   |some x=>
    by_cases h:aw (fz true false 0 σ n x)=aw x
    ·simp[fz,gd,h,ih]
    simp[fz,gd,h]
  |asl id ep i off m=>simp[fz]
  |mp id=>
   simp only[fz,art,ali];cases ff σ id<;>simp[fz]
  |yld l s e=>
   simp[fz]
  |_=>simp[fz]
theorem wN(σ τ:ah)(v:aa):dW τ (dW σ v)=dW σ v:=aec σ τ bQ v
section
variable {P:Code} (hP:P.Good)
include hP
theorem Q8{f:Nat}{g:aD}(h:P.fns f=.fn g)(hm:g.mode.isPure=true)(args:List aa)(σ:ah) :
  bK P f args σ=((bK P f (args.map (dW σ)) []).map (·.1)).map (·,σ):=by
 rw[vg hP h,vg hP h];have he:enter g args σ=enter g (args.map (dW σ)) []:=by
  have h1:((args.map (dW σ)).take g.np).map (dW [])=(args.take g.np).map (dW σ):=by
   rw[←List.map_take,aqS];exact aj6 fun x _=>wN σ [] x
  unfold enter;cases hg:g.mode<;>rw[hg]at hm<;>first|exact absurd hm (by decide)|(simp only[h1])
 rw[he];cases run P g.body (enter g (args.map (dW σ)) []) with
 |none=>rfl
 |some r=>
  obtain⟨e,s⟩:=r;have key:(results s g.res).map (fun v=>fo g.mode σ s v)=(((results s g.res).map fun v=>fo g.mode [] s v).map (·.1)).map (·,σ):=by
   cases results s g.res with
   |none=>rfl
   |some v=>
    cases hg:g.mode<;>rw[hg]at hm<;>first|exact absurd hm (by decide)|rfl
  cases e with
  |ext _=>rfl
  |nrm=>exact key
  |ret=>exact key
theorem Yn{f:Nat}{g:aD}(h:P.fns f=.fn g)(hm:g.mode.isPure=true)(args:List aa) :
  (bK P f args []).map (·.1)=(run P g.body ⟨(args.take g.np).map (dW [])++List.replicate (g.nenv-g.np) .any,[]⟩).bind fun r=>match r.1 with
   |.ext _=>none
   |_=>(results r.2 g.res).map fun v=>(fo g.mode [] r.2 v).1:=by
 rw[vg hP h];have he:enter g args []=⟨(args.take g.np).map (dW [])++List.replicate (g.nenv-g.np) .any,[]⟩:=by
  unfold enter;cases hg:g.mode<;>rw[hg]at hm<;>first|exact absurd hm (by decide)|rfl
 rw[he];cases run P g.body _ with
 |none=>rfl
 |some r=>
  obtain⟨e,s⟩:=r;cases e with
  |ext _=>rfl
  |nrm=>show ((results s g.res).map _).map _=_;rw[Option.map_map];rfl
  |ret=>show ((results s g.res).map _).map _=_;rw[Option.map_map];rfl
end
end Go.AM
section
set_option maxRecDepth 8000
namespace Go.AM
abbrev aW(n:Nat)(g:aD):Prop:=code.fns n=.fn g
theorem good:code.Good:=RG
noncomputable def az(f:Nat)(args:List aa):Option aa:=(bK code f args []).map (·.1)
theorem bW{f:Nat}{g:aD}(h:code.fns f=.fn g)(hm:g.mode.isPure=true)(args:List aa)(σ:ah) :
  bK code f args σ=(az f (args.map (dW σ))).map (·,σ):=Q8 good h hm args σ
abbrev aC(f:Nat):Prop:=∀(args:List aa) (σ:ah),bK code f args σ=(az f (args.map (dW σ))).map (·,σ)
theorem abv{f:Nat}{g:aD}(h:code.fns f=.fn g)(hm:g.mode.isPure=true)(args:List aa) :
  az f args=(run code g.body ⟨(args.take g.np).map (dW [])++List.replicate (g.nenv-g.np) .any,[]⟩).bind fun r=>match r.1 with
   |.ext _=>none
   |_=>(results r.2 g.res).map fun v=>(fo g.mode [] r.2 v).1:=Yn good h hm args
theorem apY:aW 4 P.aAP:=rfl
theorem amr:aW 5 P.aBo:=rfl
theorem as3:aW 6 P.aBu:=rfl
theorem ar3:aW 10 P.azl:=rfl
theorem aq8:aW 11 P.aAf:=rfl
theorem aoL:aW 12 P.ay9:=rfl
theorem ao4:aW 13 P.azW:=rfl
theorem aoE:aW 14 P.azD:=rfl
theorem aob:aW 15 P.ayC:=rfl
theorem aqR:aW 16 P.azS:=rfl
theorem aqa:aW 17 P.azA:=rfl
theorem arc:aW 18 P.aAe:=rfl
theorem am5:aW 19 P.ayc:=rfl
theorem ao0:aW 20 P.az8:=rfl
theorem aqc:aW 29 P.aAT:=rfl
theorem aq2:aW 34 P.azZ:=rfl
theorem anQ:aW 37 P.ayy:=rfl
theorem amz:aW 38 P.azp:=rfl
theorem arZ:aW 39 P.ayR:=rfl
theorem aoY:aW 41 P.aAL:=rfl
theorem ajf:aW 42 P.azJ:=rfl
theorem ap7:aW 45 P.aBg:=rfl
theorem anZ:aW 46 P.azf:=rfl
theorem ar2:aW 47 P.azh:=rfl
theorem asI:aW 48 P.azo:=rfl
theorem ase:aW 49 P.ay0:=rfl
theorem aqf:aW 50 P.aAH:=rfl
theorem anR:aW 51 P.ayt:=rfl
theorem amG:aW 52 P.az4:=rfl
theorem apC:aW 53 P.ayr:=rfl
theorem anX:aW 54 P.ayY:=rfl
theorem aiX:aW 55 P.azB:=rfl
theorem aou:aW 56 P.azT:=rfl
theorem apH:aW 57 P.azs:=rfl
theorem aor:aW 58 P.az2:=rfl
theorem amD:aW 59 P.ax3:=rfl
theorem aoT:aW 60 P.azb:=rfl
theorem aqd:aW 61 P.aAl:=rfl
theorem aiA:code.fns 62=.nilfn P.aAu:=rfl
theorem aq6:aW 64 P.aBd:=rfl
theorem aoX:aW 65 P.aAZ:=rfl
theorem aq7:aW 66 P.az0:=rfl
theorem anh:aW 68 P.aAS:=rfl
theorem apL:aW 69 P.aAB:=rfl
theorem amU:aW 70 P.ax7:=rfl
theorem aqn:aW 71 P.aAp:=rfl
theorem aoP:aW 75 P.azv:=rfl
theorem anv:aW 77 P.azX:=rfl
theorem ao2:aW 79 P.aAA:=rfl
theorem amq:aW 80 P.aAv:=rfl
theorem aaf:code.fns 95=.nilfn P.aAO:=rfl
theorem uA:aW 96 P.axV:=rfl
theorem apU:aW 97 P.aAq:=rfl
theorem aqA:aW 111 P.az5:=rfl
theorem ahM:aW 112 P.ayP:=rfl
theorem Vw:code.fns 114=.nilfn P.azV:=rfl
theorem apB:aW 116 P.aA6:=rfl
theorem asM:aW 117 P.azm:=rfl
theorem anC:aW 118 P.azK:=rfl
theorem apF:aW 119 P.azE:=rfl
theorem ap0:aW 120 P.azg:=rfl
theorem aqH:aW 121 P.ayn:=rfl
theorem anL:aW 122 P.axW:=rfl
theorem aqZ:aW 123 P.axX:=rfl
theorem anr:aW 124 P.ayA:=rfl
theorem apw:aW 125 P.aBl:=rfl
theorem aiB:aW 126 P.ay8:=rfl
theorem aqC:aW 127 P.aye:=rfl
theorem ap2:aW 128 P.ayL:=rfl
theorem anI:aW 129 P.aAn:=rfl
theorem ao1:aW 130 P.aAJ:=rfl
theorem aps:aW 131 P.ayp:=rfl
theorem am0:aW 132 P.ayO:=rfl
theorem an8:aW 133 P.ayk:=rfl
theorem anU:aW 134 P.ayv:=rfl
theorem aqT:aW 135 P.ayf:=rfl
theorem apb:aW 136 P.ayB:=rfl
theorem aoF:aW 137 P.aAI:=rfl
theorem aoD:aW 138 P.azP:=rfl
theorem apy:aW 139 P.azY:=rfl
theorem ahh:aW 140 P.aAW:=rfl
theorem ab3:aW 141 P.ax2:=rfl
theorem apa:aW 142 P.ayW:=rfl
theorem aqe:aW 143 P.aAj:=rfl
theorem anc:aW 144 P.ayX:=rfl
theorem ams:aW 145 P.aBj:=rfl
theorem anV:aW 146 P.azd:=rfl
theorem aqD:aW 147 P.aAQ:=rfl
theorem aqY:aW 148 P.aBk:=rfl
theorem an1:aW 149 P.aAC:=rfl
theorem arY:aW 150 P.axK:=rfl
theorem aqi:aW 151 P.aAd:=rfl
theorem aq5:aW 152 P.aAV:=rfl
theorem aoN:aW 153 P.aA4:=rfl
theorem aoR:aW 154 P.azQ:=rfl
theorem anH:aW 160 P.azU:=rfl
theorem aqv:aW 161 P.aAN:=rfl
theorem anq:aW 163 P.azH:=rfl
theorem aql:aW 172 P.ayT:=rfl
theorem as1:aW 177 P.aBs:=rfl
theorem aq1:aW 178 P.aA5:=rfl
theorem aqp:aW 181 P.aym:=rfl
theorem amE:aW 182 P.ay6:=rfl
theorem ahU:aW 183 P.ayq:=rfl
theorem amQ:aW 188 P.az9:=rfl
theorem apO:aW 189 P.aAx:=rfl
theorem ao8:aW 190 P.aBh:=rfl
theorem amI:aW 191 P.aAG:=rfl
theorem amX:aW 197 P.aAm:=rfl
theorem amY:aW 200 P.aAc:=rfl
theorem ao9:aW 201 P.ayu:=rfl
@[simp] theorem asL:aC 201:=bW ao9 rfl
theorem anK:aW 202 P.aAK:=rfl
theorem anF:aW 203 P.ayw:=rfl
theorem apf:aW 204 P.azC:=rfl
theorem as6:aW 205 P.aBr:=rfl
theorem apk:aW 206 P.aAX:=rfl
theorem anA:aW 207 P.aAF:=rfl
theorem aso:aW 208 P.aAt:=rfl
theorem aqW:aW 209 P.ayZ:=rfl
theorem ar9:aW 210 P.azw:=rfl
theorem ajL:aW 211 P.ay7:=rfl
theorem ao7:aW 212 P.axR:=rfl
@[simp] theorem ar1:aC 212:=bW ao7 rfl
theorem anE:aW 213 P.aAE:=rfl
theorem aoi:aW 214 P.aBn:=rfl
theorem apr:aW 215 P.axN:=rfl
theorem apl:aW 216 P.ayN:=rfl
theorem amF:aW 217 P.axS:=rfl
theorem aom:aW 218 P.ayi:=rfl
theorem aqb:aW 219 P.azF:=rfl
theorem aqm:aW 220 P.ax1:=rfl
theorem amO:aW 221 P.az1:=rfl
theorem aq9:aW 222 P.ayM:=rfl
theorem anm:aW 223 P.ay3:=rfl
theorem aqM:aW 224 P.azt:=rfl
theorem aik:aW 225 P.ayj:=rfl
theorem aqK:aW 226 P.azL:=rfl
theorem aon:aW 227 P.azq:=rfl
theorem ane:aW 228 P.azc:=rfl
theorem aqx:aW 229 P.ayo:=rfl
theorem apV:aW 230 P.azk:=rfl
theorem apm:aW 242 P.aza:=rfl
theorem aqQ:aW 243 P.ayV:=rfl
theorem aoc:aW 244 P.ayU:=rfl
theorem aoo:aW 245 P.ay1:=rfl
theorem an2:aW 246 P.ay4:=rfl
theorem apJ:aW 247 P.ayh:=rfl
theorem aqy:aW 248 P.azu:=rfl
theorem anl:aW 253 P.azj:=rfl
theorem aoZ:aW 254 P.aAR:=rfl
theorem aqB:aW 255 P.ayE:=rfl
theorem apE:aW 256 P.ax8:=rfl
theorem ai4:aW 257 P.azG:=rfl
theorem aqP:aW 259 P.aA3:=rfl
theorem apM:aW 260 P.aBe:=rfl
theorem asV:aW 272 P.aBt:=rfl
theorem aox:aW 273 P.aAM:=rfl
theorem ap3:aW 276 P.ayJ:=rfl
theorem aqV:aW 278 P.azy:=rfl
theorem aic:aW 280 P.azz:=rfl
theorem anj:aW 281 P.aze:=rfl
theorem anz:aW 284 P.aAy:=rfl
@[simp] theorem asJ:aC 284:=bW anz rfl
theorem ajz:aW 285 P.aAa:=rfl
@[simp] theorem aop:aC 285:=bW ajz rfl
theorem aqu:aW 287 P.axL:=rfl
@[simp] theorem asp:aC 287:=bW aqu rfl
theorem ape:aW 288 P.aA0:=rfl
@[simp] theorem arO:aC 288:=bW ape rfl
theorem aqE:aW 289 P.axP:=rfl
@[simp] theorem ar4:aC 289:=bW aqE rfl
theorem aph:aW 290 P.axO:=rfl
@[simp] theorem asj:aC 290:=bW aph rfl
theorem ajx:aW 291 P.aAw:=rfl
@[simp] theorem ah0:aC 291:=bW ajx rfl
theorem aiw:aW 293 P.aAU:=rfl
@[simp] theorem abI:aC 293:=bW aiw rfl
theorem aiN:aW 294 P.az7:=rfl
@[simp] theorem aoB:aC 294:=bW aiN rfl
theorem aht:aW 295 P.aAY:=rfl
@[simp] theorem aoa:aC 295:=bW aht rfl
theorem aov:aW 297 P.aBb:=rfl
theorem apj:aW 299 P.ax9:=rfl
theorem aaO:aW 300 P.ax0:=rfl
theorem an6:aW 301 P.axZ:=rfl
theorem aol:aW 302 P.axY:=rfl
theorem amR:aW 303 P.aBi:=rfl
theorem ajg:aW 304 P.axU:=rfl
theorem ani:aW 305 P.ayD:=rfl
theorem aos:aW 306 P.azn:=rfl
theorem ap6:aW 307 P.ay5:=rfl
theorem ah7:aW 308 P.ayI:=rfl
theorem amp:aW 309 P.aya:=rfl
theorem anS:aW 310 P.azI:=rfl
theorem anu:aW 316 P.aAg:=rfl
theorem arb:aW 317 P.aAk:=rfl
theorem aqk:aW 318 P.aAh:=rfl
theorem aoU:aW 319 P.aA8:=rfl
theorem apg:aW 320 P.azM:=rfl
theorem aoe:aW 321 P.aAD:=rfl
theorem apW:aW 340 P.aA1:=rfl
theorem ann:aW 341 P.azr:=rfl
theorem aqj:aW 342 P.az6:=rfl
theorem aoh:aW 343 P.ayb:=rfl
theorem ajB:aW 344 P.aBq:=rfl
@[simp] theorem aqg:aC 344:=bW ajB rfl
theorem apo:aW 345 P.aA7:=rfl
theorem aiz:aW 346 P.ayg:=rfl
theorem aoj:aW 347 P.aA9:=rfl
theorem apc:aW 348 P.aBm:=rfl
theorem asa:aW 349 P.ayQ:=rfl
theorem ago:aW 350 P.axM:=rfl
@[simp] theorem asb:aC 350:=bW ago rfl
theorem aeq:aW 351 P.ay2:=rfl
@[simp] theorem ass:aC 351:=bW aeq rfl
theorem akM:aW 352 P.axT:=rfl
@[simp] theorem asw:aC 352:=bW akM rfl
theorem aeH:aW 353 P.axQ:=rfl
@[simp] theorem asi:aC 353:=bW aeH rfl
theorem ahm:aW 354 P.aBc:=rfl
@[simp] theorem ans:aC 354:=bW ahm rfl
theorem amB:aW 355 P.azR:=rfl
theorem ajh:aW 356 P.aAz:=rfl
@[simp] theorem amu:aC 356:=bW ajh rfl
theorem ahS:aW 357 P.aBa:=rfl
@[simp] theorem amx:aC 357:=bW ahS rfl
theorem aiV:code.fns 358=.nilfn P.az3:=rfl
theorem anJ:aW 360 P.ax5:=rfl
theorem ank:aW 361 P.ayz:=rfl
theorem amM:aW 362 P.ayS:=rfl
theorem aow:aW 363 P.ayH:=rfl
theorem api:aW 364 P.azi:=rfl
theorem amt:aW 365 P.aAr:=rfl
theorem apS:aW 366 P.aA2:=rfl
theorem ap8:aW 367 P.ayF:=rfl
theorem anf:aW 368 P.ays:=rfl
theorem aqU:aW 369 P.ayK:=rfl
theorem am8:aW 374 P.aBp:=rfl
theorem aoV:aW 375 P.aAo:=rfl
theorem aoG:aW 386 P.aAi:=rfl
theorem ai8:aW 387 P.azN:=rfl
theorem aoA:aW 388 P.azx:=rfl
theorem aoW:aW 389 P.ayG:=rfl
theorem alX:aW 390 P.ayl:=rfl
theorem an4:aW 391 P.ax4:=rfl
theorem amZ:aW 392 P.ayx:=rfl
theorem aqI:aW 393 P.ax6:=rfl
theorem aoI:aW 394 P.ayd:=rfl
theorem anG:aW 398 P.aBf:=rfl
theorem amJ:aW 399 P.azO:=rfl
theorem am6:aW 401 P.aAb:=rfl
theorem anp:aW 405 P.aAs:=rfl
theorem uJ:code.fns 282=.prim 2:=rfl
@[simp] theorem arp:aC 2∧aC 4∧aC 5∧aC 6∧aC 10∧aC 11∧aC 12∧aC 13∧aC 14∧aC 15∧aC 16∧aC 17∧aC 18∧aC 19∧aC 20∧aC 29∧aC 34∧aC 35∧aC 37∧aC 38∧aC 41∧aC 42∧aC 45∧aC 46∧aC 50∧aC 51∧aC 52∧aC 53∧aC 54∧aC 55∧aC 56∧aC 57∧aC 58∧aC 59∧aC 60∧aC 61∧aC 65∧aC 66∧aC 68∧aC 69:=by and_intros<;>exact bW rfl rfl
@[simp] theorem apz:aC 70∧aC 71∧aC 75∧aC 77∧aC 79∧aC 80∧aC 97∧aC 98∧aC 111∧aC 112∧aC 116∧aC 117∧aC 118∧aC 119∧aC 120∧aC 121∧aC 122∧aC 123∧aC 125∧aC 127∧aC 128∧aC 129∧aC 130∧aC 131∧aC 132∧aC 133∧aC 134∧aC 135∧aC 136∧aC 137∧aC 138∧aC 139∧aC 140∧aC 141∧aC 142∧aC 143∧aC 144∧aC 146∧aC 147∧aC 148:=by and_intros<;>exact bW rfl rfl
@[simp] theorem aqt:aC 149∧aC 150∧aC 151∧aC 152∧aC 153∧aC 154∧aC 160∧aC 161∧aC 163∧aC 172∧aC 188∧aC 189∧aC 190∧aC 191∧aC 197∧aC 202∧aC 203∧aC 204∧aC 205∧aC 206∧aC 207∧aC 208∧aC 209∧aC 210∧aC 211∧aC 213∧aC 214∧aC 215∧aC 216∧aC 217∧aC 219∧aC 220∧aC 221∧aC 222∧aC 223∧aC 224∧aC 225∧aC 226∧aC 227∧aC 228:=by and_intros<;>exact bW rfl rfl
@[simp] theorem al6:aC 229∧aC 230∧aC 242∧aC 243∧aC 244∧aC 245∧aC 246∧aC 247∧aC 248∧aC 253∧aC 254∧aC 255∧aC 256∧aC 257∧aC 259∧aC 260∧aC 273∧aC 276∧aC 278∧aC 299∧aC 301∧aC 302∧aC 303∧aC 304∧aC 305∧aC 306∧aC 307∧aC 308∧aC 309∧aC 310∧aC 316∧aC 317∧aC 318∧aC 319∧aC 320∧aC 321∧aC 340∧aC 341∧aC 342∧aC 343:=by and_intros<;>exact bW rfl rfl
@[simp] theorem al1:aC 345∧aC 346∧aC 347∧aC 348∧aC 349∧aC 355∧aC 360∧aC 361∧aC 362∧aC 363∧aC 364∧aC 365∧aC 366∧aC 367∧aC 368∧aC 369∧aC 375∧aC 386∧aC 387∧aC 388∧aC 389∧aC 390∧aC 391∧aC 392∧aC 393∧aC 394∧aC 398∧aC 399∧aC 401∧aC 405:=by and_intros<;>exact bW rfl rfl
end Go.AM
end
namespace Go.AM
noncomputable def Es(b:ai)(r:Option (Ex×St)):Option (Ex×St):=r.bind fun r=>match r.1 with
 |.nrm=>run code b r.2
 |e=>some (e,r.2)
noncomputable def Bs(env:List aa)(is:List aU)(ls:List aa)(q:Option (aa×ah)):Option (List aa×ah):=
 q.bind fun q=>jF code env is (ls++[q.1]) q.2
noncomputable def Fw(env:List aa)(i:aU)(is:List aU)(ls:List aa)(σ:ah)(t:Option Bool):Option (List aa×ah):=
 match t with
 |some true=>Bs env is ls (step code env ls σ i.op)
 |some false=>jF code env is (ls++[.tup []]) σ
 |none=>none
def VP(env:List aa)(os:List (Nat×bp))(r:Option (List aa×ah)):Option (Ex×St):=
 r.map fun r=>(.nrm,⟨nQ env env r.1 os,r.2⟩)
def A0(id:Nat)(r:Option (Ex×St)):Option (Ex×St):=r.map fun r=>match r.1 with
 |.ext j=>if j=id then (.nrm,r.2) else r
 |_=>r
noncomputable def EQ(a b:ai)(s:St)(c:aa):Option (Ex×St):=match c with
 |.bool true=>run code a s
 |.bool false=>run code b s
 |_=>none
noncomputable def bM(base:Nat)(clr:List Nat)(b:ai)(r:Option (Ex×St)):Option (Ex×St):=r.bind fun r=>match r.1 with
 |.nrm=>aM code base clr b (ar base clr r.2)
 |e=>some (e,r.2)
def Wk(l:Nat)(env:List aa)(r:Option (aa×ah)):Option (Ex×St):=r.bind fun r=>tM l env r.2
noncomputable def QU(env:List aa)(b:ai)(r:Option ah):Option (Ex×St):=r.bind fun σ=>run code b ⟨env,σ⟩
noncomputable def Wo(env:List aa)(is:List aU)(ls:List aa)(ss:List ah)(q:Option (aa×ah)):Option (List aa×List ah×ah):=
 q.bind fun q=>yV code env is (ls++[q.1]) ss q.2
noncomputable def acj(env:List aa)(i:aU)(is:List aU)(ls:List aa)(ss:List ah)(σ:ah)(t:Option Bool):Option (List aa×List ah×ah):=
 match t with
 |some true=>Wo env is ls (ss++[σ]) (step code env ls σ i.op)
 |some false=>yV code env is (ls++[.tup []]) (ss++[σ]) σ
 |none=>none
noncomputable def Wt(env:List aa)(os:List (Nat×bp))(is:List aU)(chk:List (Nat×Nat))(r:Option (List aa×List ah×ah)):Option (Ex×St):=
 r.bind fun r=>(nB code env r.1 is (r.2.1++[r.2.2]) chk).map fun _=>(.nrm,⟨nQ env env r.1 os,r.2.2⟩)
noncomputable def EZ(env ls:List aa)(is:List aU)(ss:List ah)(n:Nat)(τ:ah)(l:List (Nat×Nat))(q:Option (aa×ah)):Option Unit:=
 q.bind fun q=>if same q.1 (kr ls n)&&oa q.2 τ then nB code env ls is ss l else none
noncomputable def ab7(env ls:List aa)(is:List aU)(ss:List ah)(n:Nat)(l:List (Nat×Nat))(i:Option aU)(t:Option ah):Option Unit:=
 match i,t with
 |some i,some τ=>EZ env ls is ss n τ l (step code env (ls.take n) τ i.op)
 |_,_=>none
def bF(m:Bq)(res:List Q2)(r:Option (Ex×St)):Option aa:=r.bind fun r=>match r.1 with
 |.ext _=>none
 |_=>(results r.2 res).map fun v=>(fo m [] r.2 v).1
@[simp ↓] theorem as4(a b:ai)(s:St):run code (.seq a b) s=Es b (run code a s):=afn good a b s
@[simp ↓] theorem asD(s:St):run code .skip s=some (.nrm,s):=acs good s
@[simp ↓] theorem arN(id:Nat)(s:St):run code (.exit id) s=some (.ext id,s):=acE good id s
@[simp ↓] theorem as2(s:St):run code .ret s=some (.ret,s):=ae6 good s
@[simp ↓] theorem asT(is:List aU)(os:List (Nat×bp))(env:List aa)(σ:ah):run code (.reg is os) ⟨env,σ⟩=VP env os (jF code env is [] σ):=ael good is os _
@[simp ↓] theorem asg(c:bp)(a b:ai)(env:List aa)(σ:ah):run code (.cond c a b) ⟨env,σ⟩=EQ a b ⟨env,σ⟩ (c.eval env []):=by
 rw[ZI good];rfl
@[simp ↓] theorem asQ(id:Nat)(b:ai)(s:St):run code (.blk id b) s=A0 id (run code b s):=aex good id b s
@[simp ↓] theorem arA(b:ai)(s:St):run code (.scope b) s=run code b s:=YZ good b s
@[simp ↓] theorem asv(clr:List Nat)(b:ai)(env:List aa)(σ:ah):run code (.loop clr b) ⟨env,σ⟩=aM code σ.length clr b ⟨clear env clr,σ⟩:=ZL good clr b _
@[simp ↓] theorem as8(k:Nat)(f:bp)(site:Nat)(env:List aa)(σ:ah):run code (.rng k f site) ⟨env,σ⟩=if env.length=k then Wk σ.length env (LY code (f.eval env []) [.yld σ.length site env] (σ++[.pend false none])) else none:=afw good k f site _
@[simp ↓] theorem asn(i off k:Nat)(b:ai)(env:List aa)(σ:ah):run code (.lift i off k b) ⟨env,σ⟩=QU env b (Io (kr env i) off k σ):=Z5 good i off k b _
@[simp ↓] theorem ash(is:List aU)(os:List (Nat×bp))(chk:List (Nat×Nat))(env:List aa)(σ:ah):run code (.regd is os chk) ⟨env,σ⟩=Wt env os is chk (yV code env is [] [] σ):=aab good is os chk _
@[simp ↓] theorem asZ(env ls:List aa)(ss:List ah)(σ:ah):yV code env [] ls ss σ=some (ls,ss,σ):=abz good env ls ss σ
@[simp ↓] theorem vi(env ls:List aa)(ss:List ah)(σ:ah)(o:F4)(is:List aU):yV code env (P.i o::is) ls ss σ=Wo env is ls (ss++[σ]) (step code env ls σ o):=JN good env _ is ls ss σ
@[simp ↓] theorem vE(env ls:List aa)(ss:List ah)(σ:ah)(x:bp)(b:Bool)(o:F4)(is:List aU) :
  yV code env (P.g x b o::is) ls ss σ=acj env (P.g x b o) is ls ss σ (wanted env ls (some (x,b))):=JN good env _ is ls ss σ
@[simp] theorem arH(env:List aa)(x:bp)(b:Bool)(o:F4)(is:List aU)(ls:List aa)(ss:List ah)(σ:ah) :
  acj env (P.g x b o) is ls ss σ (some true)=Wo env is ls (ss++[σ]) (step code env ls σ o):=rfl
@[simp] theorem arE(env:List aa)(i:aU)(is:List aU)(ls:List aa)(ss:List ah)(σ:ah) :
  acj env i is ls ss σ (some false)=yV code env is (ls++[.tup []]) (ss++[σ]) σ:=rfl
@[simp] theorem aly(env:List aa)(is:List aU)(ls:List aa)(ss:List ah)(v:aa)(σ:ah):Wo env is ls ss (some (v,σ))=yV code env is (ls++[v]) ss σ:=rfl
@[simp] theorem afG(env:List aa)(os:List (Nat×bp))(is:List aU)(chk:List (Nat×Nat))(ls:List aa)(ss:List ah)(σ:ah) :
  Wt env os is chk (some (ls,ss,σ))=(nB code env ls is (ss++[σ]) chk).map fun _=>(.nrm,⟨nQ env env ls os,σ⟩):=rfl
@[simp ↓] theorem asU(env ls:List aa)(is:List aU)(ss:List ah):nB code env ls is ss []=some ():=Ty good env ls is ss
@[simp ↓] theorem arV(env ls:List aa)(is:List aU)(ss:List ah)(n j:Nat)(l:List (Nat×Nat)):nB code env ls is ss ((n,j)::l)=ab7 env ls is ss n l is[n]? ss[j]?:=by
 rw[Ox good];unfold ab7 EZ;cases is[n]?<;>cases ss[j]?<;>rfl
@[simp] theorem ak0(env ls:List aa)(is:List aU)(ss:List ah)(n:Nat)(l:List (Nat×Nat))(o:F4)(τ:ah):ab7 env ls is ss n l (some (P.i o)) (some τ)=EZ env ls is ss n τ l (step code env (ls.take n) τ o):=rfl
@[simp] theorem ag2(env ls:List aa)(is:List aU)(ss:List ah)(n:Nat)(τ:ah)(l:List (Nat×Nat))(v:aa)(σ:ah):EZ env ls is ss n τ l (some (v,σ))=if same v (kr ls n)&&oa σ τ then nB code env ls is ss l else none:=rfl
@[simp] theorem ad8(env:List aa)(b:ai)(σ:ah):QU env b (some σ)=run code b ⟨env,σ⟩:=rfl
@[simp] theorem ats(f:Nat)(a c args:List aa)(σ:ah):LY code (.fn f a c) args σ=bK code f (a++args++c) σ:=rfl
attribute [simp] oP fN za
@[simp ↓] theorem as0(env ls:List aa)(σ:ah):jF code env [] ls σ=some (ls,σ):=TQ good env ls σ
@[simp ↓] theorem vp(env ls:List aa)(σ:ah)(o:F4)(is:List aU):jF code env (P.i o::is) ls σ=Bs env is ls (step code env ls σ o):=DJ good env _ is ls σ
@[simp ↓] theorem vd(env ls:List aa)(σ:ah)(x:bp)(b:Bool)(o:F4)(is:List aU) :
  jF code env (P.g x b o::is) ls σ=Fw env (P.g x b o) is ls σ (wanted env ls (some (x,b))):=DJ good env _ is ls σ
@[simp] theorem asy(env:List aa)(x:bp)(b:Bool)(o:F4)(is:List aU)(ls:List aa)(σ:ah) :
  Fw env (P.g x b o) is ls σ (some true)=Bs env is ls (step code env ls σ o):=rfl
@[simp] theorem arR(env:List aa)(i:aU)(is:List aU)(ls:List aa)(σ:ah) :
  Fw env i is ls σ (some false)=jF code env is (ls++[.tup []]) σ:=rfl
@[simp] theorem ah8(b:ai)(s:St):Es b (some (.nrm,s))=run code b s:=rfl
@[simp] theorem ajD(b:ai)(s:St)(id:Nat):Es b (some (.ext id,s))=some (.ext id,s):=rfl
@[simp] theorem aii(b:ai)(s:St):Es b (some (.ret,s))=some (.ret,s):=rfl
@[simp] theorem afx(env:List aa)(is:List aU)(ls:List aa)(v:aa)(σ:ah):Bs env is ls (some (v,σ))=jF code env is (ls++[v]) σ:=rfl
@[simp] theorem afO(env:List aa)(os:List (Nat×bp))(ls:List aa)(σ:ah):VP env os (some (ls,σ))=some (.nrm,⟨nQ env env ls os,σ⟩):=rfl
@[simp] theorem ahI(id:Nat)(s:St):A0 id (some (.nrm,s))=some (.nrm,s):=rfl
@[simp] theorem aiW(id:Nat)(s:St):A0 id (some (.ret,s))=some (.ret,s):=rfl
@[simp] theorem ahr(id j:Nat)(s:St):A0 id (some (.ext j,s))=some (if j=id then (.nrm,s) else (.ext j,s)):=by
 simp[A0]
@[simp] theorem asu(a b:ai)(s:St):EQ a b s (.bool true)=run code a s:=rfl
@[simp] theorem ast(a b:ai)(s:St):EQ a b s (.bool false)=run code b s:=rfl
@[simp] theorem bP(m:Bq)(res:List Q2)(s:St):bF m res (some (.ret,s))=(results s res).map fun v=>(fo m [] s v).1:=rfl
@[simp] theorem ad9(m:Bq)(res:List Q2)(s:St):bF m res (some (.nrm,s))=(results s res).map fun v=>(fo m [] s v).1:=rfl
theorem am{f:Nat}{g:aD}(h:code.fns f=.fn g)(hm:g.mode.isPure=true)(args:List aa) :
  az f args=bF g.mode g.res (run code g.body ⟨(args.take g.np).map (dW [])++List.replicate (g.nenv-g.np) .any,[]⟩):=abv h hm args
@[simp ↓] theorem asr(env ls:List aa)(σ:ah)(f:Nat)(args:List bp)(mat:Bool) :
  step code env ls σ (.call f args mat)=(bK code f (args.map (·.eval env ls)) σ).map (mater mat):=XB good env ls σ f args mat
@[simp ↓] theorem arl(env ls:List aa)(σ:ah)(f:bp)(args:List bp) :
  step code env ls σ (.callv f args)=(du code (f.eval env ls) (args.map (·.eval env ls)) σ).map (mater false):=Sw good env ls σ f args
@[simp] theorem atC(f:Nat)(a c args:List aa)(σ:ah):du code (.fn f a c) args σ=bK code f (a++args++c) σ:=rfl
attribute [simp ↓] ao3 akh aoC agu agz anW alo af9 akJ akd aeM apn alG akp ako alN alB aoJ amw aqL afH aqN alJ agp aaI Zy aai aoK akZ apu aqw alP akH akF alz ajT ajY ap9 aeG afq akL ak7 akQ aoz ao5
attribute [simp] cX CB pw eZ Io Dm AI Kt aeF eqb eqa isnil neg abb ON I6 Ij aslice HO Jc Ar Mo Xc abZ Qf D8 Qa Z9 Xj agC fresh Ah sliceAt oX adN ff ub Bw bp.eval kr nQ clear wanted bin K7 shift una jn lL rd loadAt storeAt results xz MB fo ct js pa ahT M9 fill tB
@[simp] theorem alY(cs:List aa):aw (.agg cs)=cs.length:=rfl
@[simp] theorem alk(k:IntKind)(n:Int):aw (.int k n)=1:=rfl
@[simp] theorem ahy(b:Bool):aw (.bool b)=1:=rfl
@[simp] theorem alQ(s:List UInt8):aw (.str s)=1:=rfl
@[simp] theorem ajS(b:Bool)(xs:List aa):aw (.wh b xs)=1:=rfl
@[simp] theorem aks(xs:List aa):aw (.lst xs)=1:=rfl
@[simp] theorem ahv:aw .yz=1:=rfl
@[simp] theorem ahB:aw .nilp=1:=rfl
@[simp] theorem ajA:aw .nilf=1:=rfl
@[simp] theorem ajd:aw .nilm=1:=rfl
@[simp] theorem al0(a b c d:Nat):aw (.sl a b c d)=1:=rfl
@[simp] theorem ajV(a b c d:Nat):aw (.ptr a b c d)=1:=rfl
@[simp] theorem ahW(b:Bool)(x:aa)(o:Nat):aw (.cptr b x o)=1:=rfl
@[simp] theorem ame(f:Nat)(a c:List aa):aw (.fn f a c)=1:=rfl
@[simp] theorem al9(i:Nat):aw (.mp i)=1:=rfl
@[simp] theorem aho(b:Bool)(e:List (aa×aa)):aw (.imap b e)=1:=rfl
@[simp] theorem al2(cs:List aa):isAgg (.agg cs)=true:=rfl
@[simp] theorem amh(k:IntKind)(n:Int):isAgg (.int k n)=false:=rfl
@[simp] theorem alt(b:Bool):isAgg (.bool b)=false:=rfl
@[simp] theorem amk(s:List UInt8):isAgg (.str s)=false:=rfl
@[simp] theorem ama(b:Bool)(xs:List aa):isAgg (.wh b xs)=false:=rfl
@[simp] theorem ami(xs:List aa):isAgg (.lst xs)=false:=rfl
@[simp] theorem aj2:isAgg .yz=false:=rfl
@[simp] theorem akm:isAgg .nilp=false:=rfl
@[simp] theorem akK:isAgg .nilf=false:=rfl
@[simp] theorem alO:isAgg .nilm=false:=rfl
@[simp] theorem aoq(a b c d:Nat):isAgg (.sl a b c d)=false:=rfl
@[simp] theorem amf(a b c d:Nat):isAgg (.ptr a b c d)=false:=rfl
@[simp] theorem alr(b:Bool)(x:aa)(o:Nat):isAgg (.cptr b x o)=false:=rfl
@[simp] theorem ara(f:Nat)(a c:List aa):isAgg (.fn f a c)=false:=rfl
@[simp] theorem ant(i:Nat):isAgg (.mp i)=false:=rfl
@[simp] theorem aku(b:Bool)(e:List (aa×aa)):isAgg (.imap b e)=false:=rfl
@[simp] theorem ajm(cs:List aa):cellsOf (.agg cs)=cs:=rfl
@[simp] theorem ah6(k:IntKind)(n:Int):cellsOf (.int k n)=[.int k n]:=rfl
@[simp] theorem aee(b:Bool):cellsOf (.bool b)=[.bool b]:=rfl
@[simp] theorem ahY(s:List UInt8):cellsOf (.str s)=[.str s]:=rfl
@[simp] theorem aif(b:Bool)(xs:List aa):cellsOf (.wh b xs)=[.wh b xs]:=rfl
@[simp] theorem ajW(a b c d:Nat):cellsOf (.sl a b c d)=[.sl a b c d]:=rfl
@[simp] theorem afk:cellsOf .yz=[.yz]:=rfl
@[simp] theorem ajU(f:Nat)(a c:List aa):cellsOf (.fn f a c)=[.fn f a c]:=rfl
@[simp] theorem ahZ(a b c d:Nat):cellsOf (.ptr a b c d)=[.ptr a b c d]:=rfl
@[simp] theorem afL(b:Bool)(x:aa)(o:Nat):cellsOf (.cptr b x o)=[.cptr b x o]:=rfl
section
variable (fl top:Bool) (base:Nat) (σ:ah) (n:Nat)
@[simp] theorem ar5(k:IntKind)(m:Int):fz fl top base σ (n+1) (.int k m)=.int k m:=by simp[fz]
@[simp] theorem arF(b:Bool):fz fl top base σ (n+1) (.bool b)=.bool b:=by simp[fz]
@[simp] theorem asE(s:List UInt8):fz fl top base σ (n+1) (.str s)=.str s:=by simp[fz]
@[simp] theorem arn:fz fl top base σ (n+1) .yz=if !fl&&top then .yz else .wh false []:=by simp[fz]
@[simp] theorem asz:fz fl top base σ (n+1) .any=.any:=by simp[fz]
@[simp] theorem asC(b:Bool):fz fl top base σ (n+1) (.emp b)=.emp b:=by simp[fz]
@[simp] theorem asx(cs:List aa):fz fl top base σ (n+1) (.agg cs)=.agg (cs.map (fz fl top base σ n)):=by simp[fz]
@[simp] theorem arQ(cs:List aa):fz fl top base σ (n+1) (.tup cs)=.tup (cs.map (fz fl top base σ n)):=by simp[fz]
@[simp] theorem arW(cs:List aa):fz fl top base σ (n+1) (.lst cs)=jH fl cs (cs.map (fz fl false base σ n)):=by simp[fz]
@[simp] theorem aib(f:Nat)(a c:List aa):fz fl top base σ (n+1) (.fn f a c)=.fn f (a.map (fz fl top base σ n)) (c.map (fz fl top base σ n)):=by simp[fz]
@[simp] theorem afA(xs:List aa):fz fl top base σ (n+1) (.wh false xs)=.wh false xs:=by simp[fz]
@[simp] theorem ars(b:Bool)(xs:List aa):fz true top base σ (n+1) (.wh b xs)=.wh b xs:=by simp[fz]
@[simp] theorem aro(b:Bool)(xs:List aa):fz fl true base σ (n+1) (.wh b xs)=.wh b xs:=by simp[fz]
@[simp] theorem anD(x:aa)(o:Nat):fz fl top base σ (n+1) (.cptr false x o)=.cptr false x o:=by simp[fz]
@[simp] theorem aaK(x:aa)(o:Nat):fz true top base σ (n+1) (.cptr true x o)=gd true x (fz true false base σ n x) o:=by simp[fz]
@[simp] theorem ap4(x:aa)(o:Nat):fz false true base σ (n+1) (.cptr true x o)=gd true x (fz false true base σ n x) o:=by simp[fz]
@[simp] theorem anw(x:List (aa×aa)):fz fl top base σ (n+1) (.imap false x)=.imap false x:=by simp[fz]
@[simp] theorem asX(id ep off len:Nat):fz fl top base σ (n+1) (.sl id ep off len)=if id<base then (if top then .sl id ep off len else .any) else (sliceAt σ id ep off len).elim .any fun l=>jH fl l (l.map (fz fl false base σ n)):=by simp only[fz]
@[simp] theorem asK(id ep i off:Nat):fz fl top base σ (n+1) (.ptr id ep i off)=if id<base then (if top then .ptr id ep i off else .any) else (oX σ id ep i).elim .any fun x=>gd fl x (fz fl false base σ n x) off:=by simp only[fz]
@[simp] theorem asR(id:Nat):fz fl top base σ (n+1) (.mp id)=if id<base then (if top then .mp id else .any) else (ff σ id).elim .any fun es=>.imap fl (es.map fun e=>(e.1,fz fl false base σ n e.2)):=by simp only[fz]
end
attribute [simp] jH gd Xn JF
@[simp] theorem amb(σ:ah)(v:aa):jj σ v=fz false false 0 σ 20 v:=rfl
@[simp] theorem Ma(σ:ah)(v:aa):dW σ v=fz true false 0 σ 20 v:=rfl
@[simp] theorem amj(b:Nat)(σ:ah)(v:aa):aZ b σ v=fz false true b σ 20 v:=rfl
@[simp] theorem ad6(k:IntKind)(n:Int)(σ:ah):mater false (.int k n,σ)=(.int k n,σ):=rfl
attribute [simp] mater rI
theorem bl{n:Int}(h:-9223372036854775808≤n∧n<9223372036854775808):IntKind.i64.wrap n=n:=by
 simp[IntKind.wrap,IntKind.bits,IntKind.signed];omega
end Go.AM
namespace Go.AM
theorem bU{base:Nat}{clr:List Nat}{b:ai}(I:Nat→St)(n:Nat)(r:Ex×St)
  (step:∀k,k<n→bM base clr b (run code b (I k))=aM code base clr b (I (k+1))) (last:bM base clr b (run code b (I n))=some r) :
  aM code base clr b (I 0)=some r:=by
 have key:∀m k,k+m=n→aM code base clr b (I k)=some r:=by
  intro m;induction m with
  |zero=>
   intro k hk;obtain rfl:k=n:=by omega
   rw[xB good];exact last
  |succ m ih=>
   intro k hk;rw[xB good];exact (step k (by omega)).trans (ih (k+1) (by omega))
 exact key n 0 (by omega)
@[simp] theorem agK(base:Nat)(clr:List Nat)(b:ai)(s:St):bM base clr b (some (.nrm,s))=aM code base clr b (ar base clr s):=rfl
@[simp] theorem af1(base:Nat)(clr:List Nat)(b:ai)(s:St)(i:Nat):bM base clr b (some (.ext i,s))=some (.ext i,s):=rfl
@[simp] theorem afp(base:Nat)(clr:List Nat)(b:ai)(s:St):bM base clr b (some (.ret,s))=some (.ret,s):=rfl
theorem aH{base:Nat}{clr:List Nat}{env:List aa}{σ:ah}(h:σ.length=base):ar base clr ⟨env,σ⟩=⟨clear env clr,σ⟩:=by
 unfold ar;rw[if_pos h]
theorem aA{k n:Nat}(h1:k<n)(h2:n≤most):IntKind.i64.wrap ((k:Int)+1)=((k+1:Nat):Int):=by
 rw[bl (by unfold most at h2;omega)];omega
end Go.AM
namespace Go.AM
def aV{α σ ρ:Type}(g:Nat→α→σ→σ⊕ρ):List α→Nat→σ→σ⊕ρ
 |[],_,s=>.inl s
 |a::l,k,s=>match g k a s with
  |.inl s'=>aV g l (k+1) s'
  |.inr r=>.inr r
theorem bj(base:Nat)(clr:List Nat)(b:ai)(s:St):aM code base clr b s=bM base clr b (run code b s):=xB good base clr b s
theorem cD{α σ ρ:Type}{base:Nat}{clr:List Nat}{b:ai}(l:List α)(S:Nat→σ→St)(qZ:Nat→σ→Prop)(g:Nat→α→σ→σ⊕ρ)(E:σ→Ex×St)(Q:ρ→Ex×St→Prop)
  (hstep:∀k y s,k<l.length→l[k]?=some y→qZ k s→match g k y s with
   |.inl s'=>bM base clr b (run code b (S k s))=aM code base clr b (S (k+1) s')∧qZ (k+1) s'
   |.inr r=>∃o,bM base clr b (run code b (S k s))=some o∧Q r o)
  (hend:∀s,qZ l.length s→bM base clr b (run code b (S l.length s))=some (E s)) (s:σ) (h:qZ 0 s) :
  match aV g l 0 s with
   |.inl s'=>qZ l.length s'∧aM code base clr b (S 0 s)=some (E s')
   |.inr r=>∃o,aM code base clr b (S 0 s)=some o∧Q r o:=by
 have key:∀(m:List α) k s,l.drop k=m→k≤l.length→qZ k s→match aV g m k s with
   |.inl s'=>qZ l.length s'∧aM code base clr b (S k s)=some (E s')
   |.inr r=>∃o,aM code base clr b (S k s)=some o∧Q r o:=by
  intro m;induction m with
  |nil=>
   intro k s hd hk hi;have:k=l.length:=by
    have:=congrArg List.length hd;simp at this;omega
   subst this;simp only[aV];exact⟨hi,by rw[bj];exact hend s hi⟩
  |cons y m ih=>
   intro k s hd hk hi;have yB:k<l.length:=by
    have:=congrArg List.length hd;simp at this;omega
   have hy:l[k]?=some y:=by
    have:=congrArg (·[0]?) hd;simpa using this
   have hm:l.drop (k+1)=m:=by
    have:=congrArg List.tail hd;simpa [avB] using this
   have hs:=hstep k y s yB hy hi;rw[bj];simp only[aV];cases hg:g k y s with
   |inl s'=>
    rw[hg]at hs;simp only at hs ⊢;rw[hs.1];exact ih (k+1) s' hm (by omega) hs.2
   |inr r=>
    rw[hg]at hs;exact hs
 exact key l 0 s (by simp) (amn _) h
theorem fM{α:Type}{base:Nat}{clr:List Nat}{b:ai}(l:List α)(S:Nat→St)(p:α→Bool)(E:Ex×St)(Q:Ex×St→Prop)
  (hno:∀k y,k<l.length→l[k]?=some y→p y=false→bM base clr b (run code b (S k))=aM code base clr b (S (k+1)))
  (hyes:∀k y,k<l.length→l[k]?=some y→p y=true→∃o,bM base clr b (run code b (S k))=some o∧Q o)
  (hend:bM base clr b (run code b (S l.length))=some E) :
  (l.any p=false∧aM code base clr b (S 0)=some E)∨(l.any p=true∧∃o,aM code base clr b (S 0)=some o∧Q o):=by
 have h:=cD (σ:=Unit) (ρ:=Unit) (base:=base) (clr:=clr) (b:=b) l (fun k _=>S k) (fun _ _=>True) (fun _ y _=>if p y then .inr () else .inl ()) (fun _=>E) (fun _=>Q)
  (fun k y s hk hy _=>by
   cases hp:p y
   ·simpa using hno k y hk hy hp
   simpa using hyes k y hk hy hp) (fun _ _=>hend) () trivial
 have hf:∀(m:List α) k,aV (fun _ y _=>if p y then .inr () else .inl ()) m k ()=if m.any p then .inr () else (.inl ():Unit⊕Unit):=by
  intro m;induction m with
  |nil=>intro k;rfl
  |cons a m ih=>
   intro k;cases hp:p a<;>simp[aV,hp,ih]
 rw[hf]at h;cases hp:l.any p
 ·rw[hp]at h;exact .inl ⟨rfl,h.2⟩
 rw[hp]at h;exact .inr ⟨rfl,h⟩
theorem G0{α β:Type}{base:Nat}{clr:List Nat}{b:ai}(l:List α)(S:Nat→Nat→List β→St)(f:α→List β)(E:Nat→List β→Ex×St)(m:Nat)
  (hm:∀y∈l,(f y).length≤m)
  (hstep:∀k y ep acc,k<l.length→l[k]?=some y→acc.length≤k*m→∃ep',bM base clr b (run code b (S k ep acc))=aM code base clr b (S (k+1) ep' (acc++f y)))
  (hend:∀ep acc,acc.length≤l.length*m→bM base clr b (run code b (S l.length ep acc))=some (E ep acc)) (ep0:Nat) :
  ∃ep,aM code base clr b (S 0 ep0 [])=some (E ep (l.flatMap f)):=by
 have key:∀(r:List α) k ep acc,l.drop k=r→k≤l.length→acc.length≤k*m→∃ep',aM code base clr b (S k ep acc)=some (E ep' (acc++r.flatMap f)):=by
  intro r;induction r with
  |nil=>
   intro k ep acc hd hk ha;have:k=l.length:=by
    have:=congrArg List.length hd;simp at this;omega
   subst this;exact⟨ep,by rw[bj,hend ep acc ha];simp⟩
  |cons y r ih=>
   intro k ep acc hd hk ha;have yB:k<l.length:=by
    have:=congrArg List.length hd;simp at this;omega
   have hy:l[k]?=some y:=by
    have:=congrArg (·[0]?) hd;simpa using this
   have hr:l.drop (k+1)=r:=by
    have:=congrArg List.tail hd;simpa [avB] using this
   obtain⟨ep',hs⟩:=hstep k y ep acc yB hy ha;have hym:y∈l:=aeb hy
   obtain⟨e2,h2⟩:=ih (k+1) ep' (acc++f y) hr (by omega) (by
    rw[aog,Nat.succ_mul];have:=hm y hym;omega)
   exact⟨e2,by rw[bj,hs,h2];simp⟩
 have:=key l 0 ep0 [] (by simp) (amn _) (by simp);simpa using this
end Go.AM
namespace Go.AM
theorem bB{α σ:Type}{base:Nat}{clr:List Nat}{b:ai}(l:List α)(S:Nat→σ→St)(qZ:Nat→σ→Prop)(g:σ→α→σ)(E:σ→Ex×St)
  (hstep:∀k y s,k<l.length→l[k]?=some y→qZ k s→bM base clr b (run code b (S k s))=aM code base clr b (S (k+1) (g s y))∧qZ (k+1) (g s y))
  (hend:∀s,qZ l.length s→bM base clr b (run code b (S l.length s))=some (E s)) (s:σ) (h:qZ 0 s) :
  aM code base clr b (S 0 s)=some (E (l.foldl g s))∧qZ l.length (l.foldl g s):=by
 have:=cD (ρ:=Empty) (base:=base) (clr:=clr) (b:=b) l S qZ (fun _ y s=>.inl (g s y)) E (fun r _=>r.elim) (fun k y s hk hy hi=>hstep k y s hk hy hi) hend s h;have hf:∀(m:List α) k s,aV (ρ:=Empty) (fun _ y s=>.inl (g s y)) m k s=.inl (m.foldl g s):=by
  intro m;induction m with
  |nil=>intro k s;rfl
  |cons a m ih=>intro k s;simp only[aV,ahw];exact ih _ _
 rw[hf]at this;exact⟨this.2,this.1⟩
end Go.AM
namespace Go.AM
open P
set_option maxHeartbeats 1000000
end Go.AM
namespace Go.AM
def vY(n:Int):aa:=.agg [.int .i64 2,.int .i64 n,.int .u64 0,.str []]
theorem abp{n f:Nat}{args:List aa}{σ:ah}{r:aa×ah}(h:bJ code n f args σ=some r):bK code f args σ=some r:=Hq (ez good f args σ) h
theorem fq{n f:Nat}{args:List aa}{v:aa}{σ:ah}(h:bJ code n f args []=some (v,σ)):az f args=some v:=by
 unfold az;rw[abp h];rfl
theorem Z8(n:Int):bJ code 60 I.qgl [.wh false [vY n]] []=some (.bool true,[]):=by kernel_rfl
theorem acM(n m:Int):bJ code 60 I.qgl [.wh false [vY n,vY m]] []=some (.bool true,[]):=by kernel_rfl
theorem adM(n:Int):bJ code 60 I.qgt [.wh false [vY n]] []=some (.frs 4 [vY n],[]):=by kernel_rfl
theorem acO(n m:Int):bJ code 60 I.qgt [.wh false [vY n,vY m]] []=some (.frs 4 [vY n,vY m],[]):=by kernel_rfl
end Go.AM
namespace Go.AM
open P
set_option maxHeartbeats 2000000
def apG(n m:Int):Int:=if n<m then -1 else if m<n then 1 else 0
theorem KS(n:Int):az I.qdh [.int .i64 n]=some (.bool false):=by
 rw[am arb rfl];simp[aAk,ahp]
theorem YC(n m:Int):az I.qdc [.int .i64 n,.int .i64 m]=some (.int .i64 (apG n m)):=by
 rw[am aqQ rfl];unfold apG;by_cases h1:n<m
 ·simp[ayV,U1,KS,h1]
 by_cases h2:m<n
 ·simp[ayV,U1,KS,h1,h2]
 simp[ayV,U1,KS,h1,h2]
theorem bS(base:Nat)(clr:List Nat)(b:ai)(s:St):aM code base clr b s=bM base clr b (run code b s):=xB good base clr b s
end Go.AM
namespace Go.AM
open P
set_option maxHeartbeats 2000000
set_option maxRecDepth 4000
theorem qI{g:aD}(hm:g.mode.isPure=true)(args:List aa)(σ:ah):g9 code g args σ=((g9 code g (args.map (dW σ)) []).map (·.1)).map (·,σ):=by
 unfold g9;have he:enter g args σ=enter g (args.map (dW σ)) []:=by
  have h1:((args.map (dW σ)).take g.np).map (dW [])=(args.take g.np).map (dW σ):=by
   rw[←List.map_take,aqS];exact aj6 fun x _=>wN σ [] x
  unfold enter;cases hg:g.mode<;>rw[hg]at hm<;>first|exact absurd hm (by decide)|(simp only[h1])
 rw[he];cases run code g.body (enter g (args.map (dW σ)) []) with
 |none=>rfl
 |some r=>
  obtain⟨e,s⟩:=r;have key:(results s g.res).map (fun v=>fo g.mode σ s v)=(((results s g.res).map fun v=>fo g.mode [] s v).map (·.1)).map (·,σ):=by
   cases results s g.res with
   |none=>rfl
   |some v=>
    cases hg:g.mode<;>rw[hg]at hm<;>first|exact absurd hm (by decide)|rfl
  cases e with
  |ext _=>rfl
  |nrm=>exact key
  |ret=>exact key
theorem xh{f:Nat}{g:aD}(h:code.fns f=.nilfn g)(hm:g.mode.isPure=true)(b:Bool)(xs:List aa)(σ:ah) :
  bK code f [.wh b xs] σ=(az f [.wh b xs]).map (·,σ):=by
 unfold az;rw[gm good h,gm good h];have hE:eZ σ (.wh b xs)=eZ [] (.wh b xs):=by simp[eZ,rd]
 rw[hE];have hk:∀(x:aa),(∀τ,dW τ x=x)→g9 code g [x] σ=((g9 code g [x] []).map (·.1)).map (·,σ):=fun x hx=>by
  have:=qI hm [x] σ;simpa only [af6,ajo,hx] using this
 have hk0:∀(x:aa),(∀τ,dW τ x=x)→g9 code g [x] []=((g9 code g [x] []).map (·.1)).map (·,([]:ah)):=fun x hx=>by
  have:=qI hm [x] [];simpa only [af6,ajo,hx] using this
 have h1:∀τ,dW τ (.wh b xs)=.wh b xs:=fun τ=>by simp
 have h2:∀t τ,dW τ (.emp t)=.emp t:=fun t τ=>by simp
 cases eZ [] (.wh b xs) with
 |false=>simpa using hk _ h1
 |true=>
  simp only[aml];rw[hk _ (h2 true),hk _ (h2 false),hk0 _ (h2 true),hk0 _ (h2 false)];cases g9 code g [.emp true] [] with
  |none=>rfl
  |some r=>cases g9 code g [.emp false] [] with
   |none=>rfl
   |some q=>
    simp only[atH,al7,za,auq];split<;>rfl
def Plain(v:aa):Prop:=aw v=4∧isAgg v=true∧∀fl top base σ n,fz fl top base σ (n+2) v=v
theorem zj(n:Int):Plain (vY n):=⟨rfl,rfl,fun fl top base σ n=>by simp[vY]⟩
structure Pv (r:List aa):Prop where
 vals:∀v∈r,Plain v
 clone:az I.qgt [.wh false r]=some (.frs 4 r)
 right:az I.qgl [.wh false r]=some (.bool true)
theorem afj(n:Int):Pv [vY n]:=⟨fun v hv=>by rw[arq.1 hv];exact zj n,fq (adM n),fq (Z8 n)⟩
theorem af0(n m:Int):Pv [vY n,vY m]:=⟨fun v hv=>by rcases arm.1 hv with rfl|hv;exact zj _;rw[arq.1 hv];exact zj _,fq (acO n m),fq (acM n m)⟩
theorem X7{r:List aa}(h:∀v∈r,Plain v)(fl top:Bool)(base:Nat)(σ:ah)(n:Nat):r.map (fz fl top base σ (n+2))=r:=by
 conv=>rhs;rw[←List.map_id r]
 exact aj6 fun v hv=>(h v hv).2.2 fl top base σ n
def ed(rs:List (List aa)):List aa:=rs.map (.wh false)
@[simp] theorem agE(rs:List (List aa)):(ed rs).length=rs.length:=by simp[ed]
theorem Yf{rs:List (List aa)}{k:Nat}(h:k<rs.length):(ed rs)[k]?=some (.wh false rs[k]):=by simp[ed,h]
theorem SK{rs:List (List aa)}{k:Nat}(h:k<rs.length):ed (rs.take (k+1))=ed (rs.take k)++[.wh false rs[k]]:=by
 unfold ed;rw[am3 h,arz];rfl
@[simp] theorem BD(rs:List (List aa)):(ed rs).map aw=List.replicate rs.length 1:=by
 simp only[ed,aqS];rw[ave];exact⟨by simp,fun x hx=>by simp at hx;obtain⟨_,_,rfl⟩:=hx;rfl⟩
theorem uW(rs:List (List aa))(top:Bool)(base:Nat)(σ:ah)(n:Nat):(ed rs).map (fz false top base σ (n+1))=ed rs:=by
 unfold ed;rw[aqS];exact aj6 fun r _=>by simp
theorem ZC{r:List aa}(h:∀v∈r,Plain v)(fl top:Bool)(base:Nat)(σ:ah)(n:Nat):(∀a,a∈r→aw (fz fl top base σ (n+2) a)=aw a)↔True:=
 ⟨fun _=>trivial,fun _ a ha=>by rw[(h a ha).2.2]⟩
theorem tj(rs:List (List aa))(base:Nat)(σ:ah):(ed rs).map (aZ base σ)=ed rs:=by
 unfold ed;rw[aqS];exact aj6 fun r _=>by simp[aZ,bQ]
theorem Ww(rs:List (List aa))(base:Nat)(σ:ah):(ed rs).map (aw∘aZ base σ)=List.replicate rs.length 1:=by
 rw[←List.map_map,tj,BD]
theorem R7(rs:List (List aa))(id ep:Nat)(σ:ah)(h:σ[id]?=some (.arr 1 ep (ed rs))):ig 1 σ (.sl id ep 0 rs.length)=.frs 1 (ed rs):=by
 have h8:=fun σ'=>uW rs false 0 σ' 19;have h9:(ed rs).take rs.length=ed rs:=aea (by simp);have h10:∀σ',(ed rs).map (jj σ')=ed rs:=fun σ'=>h8 σ';simp only[ig,h,h9,h10,JF];simp
theorem P0{b:Bool}{rs:List (List aa)}(hn:rs.length≤most)(hr:∀r∈rs,Pv r):az I.qgf [.wh b (ed rs)]=some (.frs 1 (ed rs)):=by
 rw[am anh rfl];have hloop:=bU (base:=1) (clr:=[3,7]) (b:=EJ) (fun k=>⟨[.wh b (ed rs),.yz,.sl 0 k 0 k,.any,.wh b (ed rs),.int .i64 rs.length,.int .i64 k,.any],[.arr 1 k (ed (rs.take k))]⟩) rs.length
  (.ext 0,⟨[.wh b (ed rs),.yz,.sl 0 rs.length 0 rs.length,.any,.wh b (ed rs),.int .i64 rs.length,.int .i64 rs.length,.bool false],[.arr 1 rs.length (ed rs)]⟩)
  (fun k hk=>by
   have h1:=Yf hk;have h2:=hr rs[k] (agL hk);have hlt:((k:Int)<(rs.length:Int)):=by omega
   have h3:=xh Vw rfl false rs[k] [.arr 1 k (ed (rs.take k))];rw[h2.clone]at h3;have h4:min k rs.length=k:=by omega
   have h5:k+1≤most:=by omega
   have h6:=SK hk;have h7:=X7 h2.vals;have h7':=ZC h2.vals false false 1;have h9:(ed (rs.take k)).take k=ed (rs.take k):=aea (by simp;omega);have h8:=fun top base σ n=>uW (rs.take k) top base σ n;have h10:=tj (rs.take k) 1;have h11:=Ww (rs.take k) 1;simp[EJ,h1,hlt,h3,h4,h5,h6,h7,h7',h8,h9,h10,h11,append,aA hk hn,ar,ap])
  (by simp[EJ])
 simp[aAS,ah4];simp[show ed []=[] from rfl]at hloop;rw[hloop];simp;exact R7 rs 0 _ _ rfl
end Go.AM
namespace Go.AM
structure DU {α:Type} (c:α→α→Int):Prop where
 anti:∀x y,c x y<0↔0<c y x
 tr:∀x y z,c x y≤0→c y z≤0→c x z≤0
namespace DU
variable {α:Type} {c d:α→α→Int}
theorem self(h:DU c)(x:α):c x x=0:=by have:=h.anti x x;omega
theorem lt_le(h:DU c){x y z:α}(h1:c x y<0)(h2:c y z≤0):c x z<0:=by
 have a1:=h.anti x z;have a2:=h.anti x y;have a3:=h.tr y z x h2;omega
theorem le_lt(h:DU c){x y z:α}(h1:c x y≤0)(h2:c y z<0):c x z<0:=by
 have a1:=h.anti x z;have a2:=h.anti y z;have a3:=h.tr z x y;omega
theorem zero(h:DU c){x y:α}:c x y=0↔c y x=0:=by
 have:=h.anti x y;have:=h.anti y x;omega
end DU
def lex(a b:Int):Int:=if a≠0 then a else b
theorem DU.lex{α:Type}{c d:α→α→Int}(hc:DU c)(hd:DU d):DU fun x y=>lex (c x y) (d x y) where
 anti x y:=by
  have h1:=hc.anti x y;have h2:=hc.anti y x;have h3:=hd.anti x y;unfold Go.AM.lex;split<;>split<;>omega
 tr x y z h1 h2:=by
  unfold Go.AM.lex at *;have a1:=fun h=>hc.lt_le (x:=x) (y:=y) (z:=z) h;have a2:=fun h h'=>hc.le_lt (x:=x) (y:=y) (z:=z) h h';have a3:=hc.tr x y z;have a4:=hd.tr x y z;have a5:=hc.anti x z;have a6:=hc.tr z y x;have a7:=hc.anti x y;have a8:=hc.anti y z;have a9:=hc.anti y x;have b1:=hc.anti z y;have b2:=hc.anti z x;split at h1<;>split at h2<;>split<;>omega
theorem DU.on{α β:Type}{c:α→α→Int}(h:DU c)(f:β→α):DU fun x y=>c (f x) (f y):=⟨fun x y=>h.anti _ _,fun x y z=>h.tr _ _ _⟩
theorem DU.neg{α:Type}{c:α→α→Int}(h:DU c):DU fun x y=>-c x y where
 anti x y:=by have:=h.anti y x;have:=h.anti x y;omega
 tr x y z h1 h2:=by
  have a1:=h.tr z y x;have a2:=h.anti x y;have a3:=h.anti y z;have a4:=h.anti x z;have a5:=h.anti y x;have a6:=h.anti z y;have a7:=h.anti z x;omega
def fc(n m:Int):Int:=if n<m then -1 else if m<n then 1 else 0
theorem BI:DU fc where
 anti x y:=by
  unfold fc
  repeat' split
  all_goals omega
 tr x y z h1 h2:=by
  unfold fc at *
  repeat' split at h1
  all_goals repeat' split at h2
  all_goals repeat' split
  all_goals omega
theorem ET{n m:Int}(h:fc n m=0):n=m:=by
 unfold fc at h
 repeat' split at h
 all_goals omega
def qA(a b:List UInt8):Int:=if Op.bytesLess a b then -1 else if !(Op.bytesLess a b ||a==b) then 1 else 0
def lz:List UInt8→List UInt8→Int
 |[],[]=>0
 |[],_::_=>-1
 |_::_,[]=>1
 |a::x,b::y=>lex (fc a.toNat b.toNat) (lz x y)
theorem EG:∀a b,qA a b=lz a b
 |[],[]=>rfl
 |[],_::_=>rfl
 |_::_,[]=>rfl
 |a::x,b::y=>by
  have ih:=EG x y;unfold qA at ih ⊢;simp only[lz];unfold Go.AM.lex fc;have h1:(a<b)↔a.toNat < b.toNat:=UInt8.lt_iff_toNat_lt;have h2:(a==b)=decide (a.toNat=b.toNat):=by
   by_cases h:a=b
   ·subst h;simp
   have:a.toNat≠b.toNat:=fun e=>h (au0.1 e);simp[h,this]
  simp only[Op.bytesLess];by_cases c1:a.toNat < b.toNat
  ·simp[h1,c1]
  by_cases c2:b.toNat < a.toNat
  ·have c3:¬a.toNat=b.toNat:=by omega
   have c4:¬a=b:=fun e=>c3 (by rw[e]);simp[h1,h2,c1,c2,c3,c4]
  have c3:a.toNat=b.toNat:=by omega
  have c4:a=b:=au0.1 c3;subst c4;simp[h1];rw[←ih];simp
theorem ac5:DU lz where
 anti:=by
  intro x;induction x with
  |nil=>intro y;cases y<;>simp[lz]
  |cons a x ih=>
   intro y;cases y with
   |nil=>simp[lz]
   |cons b y=>
    have h1:=ih y;have h2:=BI.anti a.toNat b.toNat;have h3:=BI.anti b.toNat a.toNat;simp only[lz];unfold Go.AM.lex;split<;>split<;>omega
 tr:=by
  intro x;induction x with
  |nil=>intro y z _ _;cases z<;>simp[lz]
  |cons a x ih=>
   intro y z h1 h2;cases y with
   |nil=>simp[lz]at h1
   |cons b y=>
    cases z with
    |nil=>simp[lz]at h2
    |cons e z=>
     have a1:=ih y z;simp only[lz]at *;unfold Go.AM.lex fc at *
     repeat' split at h1
     all_goals repeat' split at h2
     all_goals repeat' split
     all_goals first|omega|(exact a1 h1 h2)|skip
theorem afM:DU qA:=by
 have:qA=lz:=funext fun a=>funext fun b=>EG a b;rw[this];exact ac5
theorem HC:∀{a b:List UInt8},lz a b=0→a=b
 |[],[],_=>rfl
 |[],_::_,h=>by simp[lz]at h
 |_::_,[],h=>by simp[lz]at h
 |a::x,b::y,h=>by
  simp only[lz]at h;unfold Go.AM.lex at h;split at h
  ·exact absurd h (by assumption)
  rename_i h0;have h1:=ET (Decidable.not_not.1 h0);rw[au0.1 (by omega:a.toNat=b.toNat),HC h]
structure aE where
 k:Int
 n:Int
 u:Int
 s:List UInt8
 deriving DecidableEq,Inhabited
abbrev aJ:=List aE
abbrev av:=List aJ
def dP(a b:aE):Int:=lex (fc a.k b.k) (lex (fc a.n b.n) (lex (fc a.u b.u) (qA a.s b.s)))
theorem ke:DU dP:=(BI.on aE.k).lex ((BI.on aE.n).lex ((BI.on aE.u).lex (afM.on aE.s)))
theorem uU{a b:Int}(h:lex a b=0):a=0∧b=0:=by unfold lex at h;split at h<;>omega
theorem Jv{a b:aE}(h:dP a b=0):a=b:=by
 obtain⟨h1,h⟩:=uU h;obtain⟨h2,h⟩:=uU h;obtain⟨h3,h4⟩:=uU h;cases a;cases b;rw[EG]at h4;rw[aE.mk.injEq];exact⟨ET h1,ET h2,ET h3,HC h4⟩
theorem zi(a b:Int):-1≤fc a b∧fc a b≤1:=by
 unfold fc
 repeat' split
 all_goals omega
theorem RS(a b:List UInt8):-1≤qA a b∧qA a b≤1:=by
 unfold qA
 repeat' split
 all_goals omega
theorem sH{a b:Int}(h:-1≤a∧a≤1)(h':-1≤b∧b≤1):-1≤lex a b∧lex a b≤1:=by unfold lex;split<;>omega
theorem RK(a b:aE):-1≤dP a b∧dP a b≤1:=sH (zi _ _) (sH (zi _ _) (sH (zi _ _) (RS _ _)))
def cf:List aE→List aE→Int
 |[],[]=>0
 |[],_::_=>-1
 |_::_,[]=>1
 |a::x,b::y=>lex (dP a b) (cf x y)
theorem ut:∀a b,-1≤cf a b∧cf a b≤1
 |[],[]=>by simp[cf]
 |[],_::_=>by simp[cf]
 |_::_,[]=>by simp[cf]
 |a::x,b::y=>sH (RK a b) (ut x y)
theorem gM:∀{a b:List aE},cf a b=0→a=b
 |[],[],_=>rfl
 |[],_::_,h=>by simp[cf]at h
 |_::_,[],h=>by simp[cf]at h
 |a::x,b::y,h=>by
  obtain⟨h1,h2⟩:=uU h;rw[Jv h1,gM h2]
theorem dS:DU cf where
 anti:=by
  intro x;induction x with
  |nil=>intro y;cases y<;>simp[cf]
  |cons a x ih=>
   intro y;cases y with
   |nil=>simp[cf]
   |cons b y=>
    have h1:=ih y;have h2:=ke.anti a b;have h3:=ke.anti b a;simp only[cf];unfold Go.AM.lex;split<;>split<;>omega
 tr:=by
  intro x;induction x with
  |nil=>intro y z _ _;cases z<;>simp[cf]
  |cons a x ih=>
   intro y z h1 h2;cases y with
   |nil=>simp[cf]at h1
   |cons b y=>
    cases z with
    |nil=>simp[cf]at h2
    |cons e z=>
     have a1:=ih y z;have b1:=ke.tr a b e;have b2:=fun h=>ke.lt_le (x:=a) (y:=b) (z:=e) h;have b3:=fun h h'=>ke.le_lt (x:=a) (y:=b) (z:=e) h h';have b4:=ke.tr e b a;have b5:=ke.anti a b;have b6:=ke.anti b e;have b7:=ke.anti a e;have c5:=ke.anti b a;have c6:=ke.anti e b;have c7:=ke.anti e a;simp only[cf]at *;unfold Go.AM.lex at *;split at h1<;>split at h2<;>split<;>first|omega|(exact a1 h1 h2)
section
variable {α:Type} (c:α→α→Int)
def NN(x:α):List α→List α
 |[]=>[x]
 |y::r=>if c x y≤0 then x::y::r else y::NN x r
def df:List α→List α
 |[]=>[]
 |x::r=>NN c x (df r)
variable {c}
theorem BV(x:α):∀l,(NN c x l).Perm (x::l)
 |[]=>auM _
 |y::r=>by
  unfold NN;split
  ·exact auM _
  exact ((BV x r).cons y).trans (List.Perm.swap x y r)
theorem dX:∀l:List α,(df c l).Perm l
 |[]=>auM _
 |x::r=>(BV x _).trans ((dX r).cons x)
theorem DC(h:DU c)(x:α):∀l,l.Pairwise (fun a b=>c a b≤0)→(NN c x l).Pairwise fun a b=>c a b≤0
 |[],_=>by simp[NN]
 |y::r,hl=>by
  have hp:=asS.1 hl;unfold NN;split
  ·rename_i hle;exact asS.2 ⟨fun z hz=>by
    rcases arm.1 hz with rfl|hz
    ·exact hle
    exact h.tr _ _ _ hle (hp.1 z hz),hl⟩
  rename_i hle;refine asS.2 ⟨fun z hz=>?_,DC h x r hp.2⟩;rcases arm.1 ((BV x r).mem_iff.1 hz) with rfl|hz
  ·have:=h.anti y z;have:=h.anti z y;omega
  exact hp.1 z hz
theorem jq(h:DU c):∀l:List α,(df c l).Pairwise fun a b=>c a b≤0
 |[]=>by simp[df]
 |x::r=>DC h x _ (jq h r)
theorem mB(hz:∀a b,c a b=0→a=b)(h:DU c):∀{l m:List α},l.Pairwise (fun a b=>c a b≤0)→m.Pairwise (fun a b=>c a b≤0)→l.Perm m→l=m
 |[],m,_,_,hp=>(List.nil_perm.1 hp).symm
 |x::l,[],_,_,hp=>absurd (List.perm_nil.1 hp) (by simp)
 |x::l,y::m,h1,h2,hp=>by
  have p1:=asS.1 h1;have p2:=asS.1 h2;have hxy:x=y:=by
   have hx:x∈y::m:=hp.mem_iff.1 (aoQ ..);have hy:y∈x::l:=hp.mem_iff.2 (aoQ ..);rcases arm.1 hx with e|hx
   ·exact e
   rcases arm.1 hy with e|hy
   ·exact e.symm
   have a1:=p2.1 x hx;have a2:=p1.1 y hy;have:=h.anti x y;have:=h.anti y x;exact hz x y (by omega)
  subst hxy;rw[mB hz h p1.2 p2.2 (List.Perm.cons_inv hp)]
end
end Go.AM
namespace Go.AM
open P
set_option maxHeartbeats 2000000
set_option maxRecDepth 4000
def aE.a(v:aE):aa:=.agg [.int .i64 v.k,.int .i64 v.n,.int .u64 v.u,.str v.s]
def bZ(r:aJ):List aa:=r.map aE.a
def ce(b:Bool)(rs:av):List aa:=rs.map fun r=>.wh b (bZ r)
@[simp] theorem ahn(r:aJ):(bZ r).length=r.length:=by simp[bZ]
@[simp] theorem afv(b:Bool)(rs:av):(ce b rs).length=rs.length:=by simp[ce]
theorem sh{r:aJ}{k:Nat}(h:k<r.length):(bZ r)[k]?=some r[k].a:=by simp[bZ,h]
theorem Yj{b:Bool}{rs:av}{k:Nat}(h:k<rs.length):(ce b rs)[k]?=some (.wh b (bZ rs[k])):=by simp[ce,h]
@[simp] theorem apT(v:aE):aw v.a=4:=rfl
@[simp] theorem arj(v:aE):isAgg v.a=true:=rfl
@[simp] theorem akj(v:aE)(fl top:Bool)(base:Nat)(σ:ah)(n:Nat):fz fl top base σ (n+2) v.a=v.a:=by simp[aE.a]
def pu(v:aE):aE:=
 if v.k=1 then (if v.n≠0∧v.n≠1 then v else { v with k:=0,n:=0 })
 else if v.k=2 then { v with k:=0,n:=0 }
 else if v.k=0 then v
 else if v.k=3 then (if v.s.length≤40 then { v with k:=0,s:=[] } else v)
 else if v.k=4 then { v with k:=0,n:=0,u:=0 }
 else v
def dC(v:aE):Bool:=pu v == ⟨0,0,0,[]⟩
theorem aR{a b:Int}(h:¬a=b):(a != b)=true:=by simp[h]
theorem al{a b:Int}(h:¬a=b):(a==b)=false:=by simp[h]
theorem UE(v:aE):az I.qid [v.a]=some (pu v).a:=by
 rw[am apE rfl];obtain⟨k,n,u,s⟩:=v;unfold pu aE.a;by_cases h1:k=1
 ·subst h1;by_cases hn:n=0
  ·subst hn;simp[ax8,yk]
  by_cases hn':n=1
  ·subst hn';simp[ax8,yk]
  simp[ax8,yk,aR hn,aR hn',hn,hn']
 by_cases h2:k=2
 ·subst h2;simp[ax8,yk]
 by_cases h0:k=0
 ·subst h0;simp[ax8,yk]
 by_cases h3:k=3
 ·subst h3;by_cases hs:s.length≤40
  ·have hs':((s.length:Int)≤40):=by omega
   simp[ax8,yk,hs,hs']
  have hs':¬((s.length:Int)≤40):=by omega
  simp[ax8,yk,hs,hs']
 by_cases h4:k=4
 ·subst h4;simp[ax8,yk]
 simp[ax8,yk,al h1,al h2,al h0,al h3,al h4,h1,h2,h0,h3,h4]
theorem dL(k n u:Int)(s:List UInt8):(aE.mk k n u s).a=.agg [.int .i64 k,.int .i64 n,.int .u64 u,.str s]:=rfl
theorem sY(v:aE):az I.qhq [v.a]=some (.int .i64 (if dC v then 0 else 120)):=by
 rw[am aqB rfl];have h:=UE v;unfold dC;generalize hb:pu v=w at h;obtain⟨k,n,u,s⟩:=w;by_cases hk:k=0
 ·by_cases hn:n=0
  ·by_cases hu:u=0
   ·by_cases hs:s=[]
    ·subst hk hn hu hs;simp[ayE,Kp,h,dL]
    have hs':(s==[])=false:=by simp[hs]
    subst hk hn hu;simp[ayE,Kp,h,dL,hs,hs']
   subst hk hn;simp[ayE,Kp,h,dL,hu,al hu]
  subst hk;simp[ayE,Kp,h,dL,hn,al hn]
 simp[ayE,Kp,h,dL,hk,al hk]
theorem ac4(v:aE):az I.qgm [v.a]=some (.bool (!dC v)):=by
 rw[am apM rfl];have h:=sY v;cases hv:dC v<;>rw[hv]at h<;>simp[aBe,ahf,h]
def O4(p:aa→Bool)(xs:List aa):Int:=if xs.any p then (xs.findIdx p:Int) else -1
theorem u9{p:aa→Bool}{xs:List aa}{k:Nat}(h:k<xs.findIdx p)(hk:k<xs.length):p xs[k]=false:=by
 simpa using auh h
theorem aay{b:Bool}{xs:List aa}{f:aa}{p:aa→Bool}(hn:xs.length≤most)(hx:∀x∈xs,aw x=4∧isAgg x=true)(hfs:fz true false 0 [] 20 f=f)
  (hf:∀x∈xs,du code f [x] []=some (.bool (p x),[])):az I.qhg [.wh b xs,f]=some (.int .i64 (O4 p xs)):=by
 rw[am apg rfl];have hstep:∀k,k<xs.length→p xs[k]! = false→bM 0 [2,3,6,7] oz (run code oz ⟨[.wh b xs,f,.any,.any,.int .i64 xs.length,.int .i64 k,.any,.any],[]⟩) =
   aM code 0 [2,3,6,7] oz ⟨[.wh b xs,f,.any,.any,.int .i64 xs.length,.int .i64 (k+1:Nat),.any,.any],[]⟩:=fun k hk hp=>by
  have h1:xs[k]?=some xs[k]:=by simp[hk]
  have h2:=hx xs[k] (agL hk);have h3:=hf xs[k] (agL hk);rw[show p xs[k]=false by simpa [hk] using hp]at h3;have hlt:((k:Int)<(xs.length:Int)):=by omega
  simp[oz,h1,h2,h3,hlt,aA hk hn,aH]
 by_cases ha:xs.any p=true
 ·have hlt:=atp (arL.1 ha);have hp:p xs[xs.findIdx p]=true:=at3 (w:=hlt);have hloop:=bU (base:=0) (clr:=[2,3,6,7]) (b:=oz) (fun k=>⟨[.wh b xs,f,.any,.any,.int .i64 xs.length,.int .i64 k,.any,.any],[]⟩) (xs.findIdx p)
   (.ret,⟨[.wh b xs,f,.int .i64 (xs.findIdx p),.int .i64 (xs.findIdx p),.int .i64 xs.length,.int .i64 (xs.findIdx p),.bool true,.bool true],[]⟩)
   (fun k hk=>hstep k (by omega) (by rw[getElem!_pos xs k (by omega)];exact u9 hk (by omega)))
   (by
    have h1:xs[xs.findIdx p]?=some xs[xs.findIdx p]:=ad3 hlt;have h2:=hx _ (agL hlt);have h3:=hf _ (agL hlt);rw[hp]at h3;have hlt':((xs.findIdx p:Int)<(xs.length:Int)):=by omega
    simp[oz,h1,h2,h3,hlt'])
  simp[azM,act,hfs];simp at hloop;rw[hloop];simp[O4,ha]
 have hall:∀k (hk:k<xs.length),p xs[k]=false:=fun k hk=>by
  have:=arG.1 (auw _▸ha) xs[k] (agL hk);simpa using this
 have hloop:=bU (base:=0) (clr:=[2,3,6,7]) (b:=oz) (fun k=>⟨[.wh b xs,f,.any,.any,.int .i64 xs.length,.int .i64 k,.any,.any],[]⟩) xs.length
  (.ext 0,⟨[.wh b xs,f,.any,.any,.int .i64 xs.length,.int .i64 xs.length,.bool false,.any],[]⟩)
  (fun k hk=>hstep k hk (by rw[getElem!_pos xs k hk];exact hall k hk))
  (by simp[oz])
 simp[azM,act,hfs];simp at hloop;rw[hloop];simp[O4,ha]
end Go.AM
namespace Go.AM
open P
set_option maxHeartbeats 2000000
set_option maxRecDepth 4000
theorem abn{b:Bool}{xs:List aa}{f:aa}{p:aa→Bool}(hn:xs.length≤most)(hx:∀x∈xs,aw x=1∧isAgg x=false)(hfs:fz true false 0 [] 20 f=f)
  (hf:∀x∈xs,du code f [x] []=some (.bool (p x),[])):az I.qhf [.wh b xs,f]=some (.int .i64 (O4 p xs)):=by
 rw[am ahM rfl];have hstep:∀k,k<xs.length→p xs[k]! = false→bM 0 [2,3,6,7] gl (run code gl ⟨[.wh b xs,f,.any,.any,.int .i64 xs.length,.int .i64 k,.any,.any],[]⟩) =
   aM code 0 [2,3,6,7] gl ⟨[.wh b xs,f,.any,.any,.int .i64 xs.length,.int .i64 (k+1:Nat),.any,.any],[]⟩:=fun k hk hp=>by
  have h1:xs[k]?=some xs[k]:=by simp[hk]
  have h2:=hx xs[k] (agL hk);have h3:=hf xs[k] (agL hk);rw[show p xs[k]=false by simpa [hk] using hp]at h3;have hlt:((k:Int)<(xs.length:Int)):=by omega
  simp[gl,h1,h2,h3,hlt,aA hk hn,aH]
 by_cases ha:xs.any p=true
 ·have hlt:=atp (arL.1 ha);have hp:p xs[xs.findIdx p]=true:=at3 (w:=hlt);have hloop:=bU (base:=0) (clr:=[2,3,6,7]) (b:=gl) (fun k=>⟨[.wh b xs,f,.any,.any,.int .i64 xs.length,.int .i64 k,.any,.any],[]⟩) (xs.findIdx p)
   (.ret,⟨[.wh b xs,f,.int .i64 (xs.findIdx p),.int .i64 (xs.findIdx p),.int .i64 xs.length,.int .i64 (xs.findIdx p),.bool true,.bool true],[]⟩)
   (fun k hk=>hstep k (by omega) (by rw[getElem!_pos xs k (by omega)];exact u9 hk (by omega)))
   (by
    have h1:xs[xs.findIdx p]?=some xs[xs.findIdx p]:=ad3 hlt;have h2:=hx _ (agL hlt);have h3:=hf _ (agL hlt);rw[hp]at h3;have hlt':((xs.findIdx p:Int)<(xs.length:Int)):=by omega
    simp[gl,h1,h2,h3,hlt'])
  simp[ayP,Pj,hfs];simp at hloop;rw[hloop];simp[O4,ha]
 have hall:∀k (hk:k<xs.length),p xs[k]=false:=fun k hk=>by
  have:=arG.1 (auw _▸ha) xs[k] (agL hk);simpa using this
 have hloop:=bU (base:=0) (clr:=[2,3,6,7]) (b:=gl) (fun k=>⟨[.wh b xs,f,.any,.any,.int .i64 xs.length,.int .i64 k,.any,.any],[]⟩) xs.length
  (.ext 0,⟨[.wh b xs,f,.any,.any,.int .i64 xs.length,.int .i64 xs.length,.bool false,.any],[]⟩)
  (fun k hk=>hstep k hk (by rw[getElem!_pos xs k hk];exact hall k hk))
  (by simp[gl])
 simp[ayP,Pj,hfs];simp at hloop;rw[hloop];simp[O4,ha]
theorem OE{b:Bool}{xs:List aa}{f:aa}{p:aa→Bool}(hn:xs.length≤most)(hx:∀x∈xs,aw x=4∧isAgg x=true)(hfs:fz true false 0 [] 20 f=f)
  (hf:∀x∈xs,du code f [x] []=some (.bool (p x),[])):az I.qgz [.wh b xs,f]=some (.bool (xs.any p)):=by
 rw[am aqP rfl];have h:=aay (b:=b) hn hx hfs hf;simp[aA3,ajl,h,hfs];unfold O4;cases xs.any p
 ·simp
 simp
theorem OF{b:Bool}{xs:List aa}{f:aa}{p:aa→Bool}(hn:xs.length≤most)(hx:∀x∈xs,aw x=1∧isAgg x=false)(hfs:fz true false 0 [] 20 f=f)
  (hf:∀x∈xs,du code f [x] []=some (.bool (p x),[])):az I.qgy [.wh b xs,f]=some (.bool (xs.any p)):=by
 rw[am ajf rfl];have h:=abn (b:=b) hn hx hfs hf;simp[azJ,ad0,h,hfs];unfold O4;cases xs.any p
 ·simp
 simp
def nW(r:aJ):Bool:=decide (r.length≤16)&&r.all dC
def V5:aa→aE
 |.agg [.int _ k,.int _ n,.int _ u,.str s]=>⟨k,n,u,s⟩
 |_=>default
def sq:aa→aJ
 |.wh _ xs=>xs.map V5
 |_=>[]
@[simp] theorem arv(v:aE):V5 v.a=v:=rfl
@[simp] theorem N3(b:Bool)(r:aJ):sq (.wh b (bZ r))=r:=by simp[sq,bZ,auK]
theorem DN{α:Type}(p:α→Bool)(l:List α):(!l.any fun x=>!p x)=l.all p:=by
 induction l with
 |nil=>rfl
 |cons a l ih=>simp[aub,aty,←ih]
theorem pg(b:Bool)(r:aJ):az I.qgl [.wh b (bZ r)]=some (.bool (nW r)):=by
 rw[am anq rfl];unfold nW;by_cases h:r.length≤16
 ·have hi:((r.length:Int)≤16):=by omega
  have hc:=fun b=>OE (b:=b) (xs:=bZ r) (f:=.fn 260 [] []) (p:=fun x=>!dC (V5 x)) (by simp;unfold most;omega) (fun x hx=>by
    obtain⟨v,_,rfl⟩:=afJ.1 hx;exact⟨rfl,rfl⟩) (by simp) (fun x hx=>by
    obtain⟨v,hv,rfl⟩:=afJ.1 hx;have:=ac4 v;simp[this])
  have e:(!(bZ r).any fun x=>!dC (V5 x))=r.all dC:=by
   rw[←DN,bZ,List.any_map];simp[auK]
  simp[azH,abF,hi,hc,h,e]
 have hi:¬((r.length:Int)≤16):=by omega
 simp[azH,abF,h,hi]
theorem IV(b:Bool)(r:aJ):az I.qfx [.wh b (bZ r)]=some (.int .i64 (if nW r then 0 else 150)):=by
 rw[am amX rfl];have h:=fun b=>pg b r;cases hr:nW r<;>rw[hr]at h<;>simp[aAm,aje,h]
theorem PT(b:Bool)(r:aJ):az I.qdp [.wh b (bZ r)]=some (.bool (!nW r)):=by
 rw[am aqA rfl];have h:=fun b=>IV b r;cases hr:nW r<;>rw[hr]at h<;>simp[az5,ag7,h]
theorem Pb(b c:Bool)(rs:av)(hn:rs.length≤8000):az I.qdo [.wh b (ce c rs)]=some (.bool (rs.all nW)):=by
 rw[am aoY rfl];have hi:((rs.length:Int)≤8000):=by omega
 have hc:=fun b=>OF (b:=b) (xs:=ce c rs) (f:=.fn 111 [] []) (p:=fun x=>!nW (sq x)) (by simp;unfold most;omega) (fun x hx=>by
   obtain⟨r,_,rfl⟩:=afJ.1 hx;exact⟨rfl,rfl⟩) (by simp) (fun x hx=>by
   obtain⟨r,hr,rfl⟩:=afJ.1 hx;have:=fun b=>PT b r;simp[this])
 have e:(!(ce c rs).any fun x=>!nW (sq x))=rs.all nW:=by
  rw[←DN,ce,List.any_map];simp[auK]
 simp[aAL,ah9,hi,hc,e]
theorem TE(n:Int):az I.qdg [.int .i64 n]=some (.bool false):=by
 rw[am anu rfl];simp[aAg,ahD]
theorem RC(n:Int):az I.qdj [.int .u64 n]=some (.bool false):=by
 rw[am aqk rfl];simp[aAh,ajt]
theorem R5(s:List UInt8):az I.qdi [.str s]=some (.bool false):=by
 rw[am aoU rfl];simp[aA8,ahA,eY]
theorem Kq(n m:Int):az I.qdb [.int .i64 n,.int .i64 m]=some (.int .i64 (fc n m)):=by
 rw[am apm rfl];unfold fc;by_cases h1:n<m
 ·simp[aza,V4,TE,h1]
 by_cases h2:m<n
 ·simp[aza,V4,TE,h1,h2]
 simp[aza,V4,TE,h1,h2]
theorem Kl(n m:Int):az I.qdc [.int .i64 n,.int .i64 m]=some (.int .i64 (fc n m)):=YC n m
theorem T2(n m:Int):az I.qde [.int .u64 n,.int .u64 m]=some (.int .i64 (fc n m)):=by
 rw[am aoc rfl];unfold fc;by_cases h1:n<m
 ·simp[ayU,WZ,RC,h1]
 by_cases h2:m<n
 ·simp[ayU,WZ,RC,h1,h2]
 simp[ayU,WZ,RC,h1,h2]
theorem Ux(a b:List UInt8):az I.qdd [.str a,.str b]=some (.int .i64 (qA a b)):=by
 rw[am aoo rfl];unfold qA;by_cases h1:Op.bytesLess a b=true
 ·simp[ay1,Wi,R5,eY,h1]
 by_cases h2:a=b
 ·subst h2;have h4:Op.bytesLess a a=false:=by simpa using h1
  simp[ay1,Wi,R5,eY,h4]
 have h3:(a==b)=false:=by simp[h2]
 simp[ay1,Wi,R5,eY,h1,h3,h2]
theorem rK(b:Bool)(a c d e:Int):az I.qdf [.wh b [.int .i64 a,.int .i64 c,.int .i64 d,.int .i64 e]]=some (.int .i64 (lex a (lex c (lex d e)))):=by
 rw[am ab3 rfl];unfold lex;by_cases ha:a=0
 ·by_cases hc:c=0
  ·by_cases hd:d=0
   ·by_cases he:e=0
    ·subst ha hc hd he;simp[ax2,sL,jt,bS,ar,IntKind.wrap,IntKind.bits,IntKind.signed]
    subst ha hc hd;simp[ax2,sL,jt,bS,ar,IntKind.wrap,IntKind.bits,IntKind.signed,aR he]
   subst ha hc;simp[ax2,sL,jt,bS,ar,IntKind.wrap,IntKind.bits,IntKind.signed,aR hd,hd]
  subst ha;simp[ax2,sL,jt,bS,ar,IntKind.wrap,IntKind.bits,IntKind.signed,aR hc,hc]
 simp[ax2,sL,jt,bS,ar,IntKind.wrap,IntKind.bits,IntKind.signed,aR ha,ha]
theorem Ds(v w:aE):az I.qgr [v.a,w.a]=some (.int .i64 (dP v w)):=by
 rw[am aqe rfl];simp[aAj,ajM,aE.a,Kq,Kl,T2,Ux,rK,dP]
end Go.AM
namespace Go.AM
open P
set_option maxHeartbeats 4000000
set_option maxRecDepth 4000
theorem Kx:∀a b:aJ,∃d,d≤a.length∧d≤b.length∧(∀k (_:k<d) (ha:k<a.length) (hb:k<b.length),dP a[k] b[k]=0) ∧
  ((d=a.length∧cf a b=if a.length<b.length then -1 else 0)∨(d<a.length∧d=b.length∧cf a b=1)∨(∃(ha:d<a.length) (hb:d<b.length),dP a[d] b[d]≠0∧cf a b=dP a[d] b[d]))
 |[],b=>⟨0,aes _,amn _,fun k h=>absurd h (art _),.inl ⟨rfl,by cases b<;>simp[cf]⟩⟩
 |a::x,[]=>⟨0,amn _,aes _,fun k h=>absurd h (art _),.inr (.inl ⟨by simp,rfl,rfl⟩)⟩
 |a::x,b::y=>by
  by_cases h:dP a b=0
  ·obtain⟨d,h1,h2,h3,h4⟩:=Kx x y;refine⟨d+1,by simpa using h1,by simpa using h2,fun k hk ha hb=>?_,?_⟩
   ·cases k with
    |zero=>exact h
    |succ k=>exact h3 k (by omega) (by simpa using ha) (by simpa using hb)
   have e:cf (a::x) (b::y)=cf x y:=by simp[cf,lex,h]
   rw[e];rcases h4 with⟨e1,e2⟩|⟨e1,e2,e3⟩|⟨ha,hb,e1,e2⟩
   ·exact .inl ⟨by simp[e1],by simpa using e2⟩
   ·exact .inr (.inl ⟨by simpa using e1,by simp[e2],e3⟩)
   exact .inr (.inr ⟨by simpa using ha,by simpa using hb,by simpa using e1,by simpa using e2⟩)
  exact⟨0,amn _,amn _,fun k h=>absurd h (art _),.inr (.inr ⟨by simp,by simp,h,by simp[cf,lex,h]⟩)⟩
theorem OH(b b':Bool)(r q:aJ)(hr:r.length≤most):az I.qgx [.wh b (bZ r),.wh b' (bZ q),.fn I.qgr [] []]=some (.int .i64 (cf r q)):=by
 rw[am apa rfl];obtain⟨d,h1,h2,h3,h4⟩:=Kx r q;have hstep:∀k,k<d→bM 0 [3,4,5,6,7,11,12,13] kY (run code kY ⟨[.wh b (bZ r),.wh b' (bZ q),.fn 143 [] [],.any,.any,.any,.any,.any,.wh b (bZ r),.int .i64 r.length,.int .i64 k,.any,.any,.any,.any],[]⟩) =
   aM code 0 [3,4,5,6,7,11,12,13] kY ⟨[.wh b (bZ r),.wh b' (bZ q),.fn 143 [] [],.any,.any,.any,.any,.any,.wh b (bZ r),.int .i64 r.length,.int .i64 (k+1:Nat),.any,.any,.any,.any],[]⟩:=fun k hk=>by
  have ha:k<r.length:=by omega
  have hb:k<q.length:=by omega
  have e1:=sh ha;have e2:=sh hb;have e3:=Ds r[k] q[k];rw[h3 k hk ha hb]at e3;have i1:((k:Int)<(r.length:Int)):=by omega
  have i2:¬((q.length:Int)≤(k:Int)):=by omega
  simp[kY,e1,e2,e3,i1,i2,aA ha hr,ar]
 rcases h4 with⟨e1,e2⟩|⟨e1,e2,e3⟩|⟨ha,hb,e1,e2⟩
 ·have hloop:=bU (base:=0) (clr:=[3,4,5,6,7,11,12,13]) (b:=kY) (fun k=>⟨[.wh b (bZ r),.wh b' (bZ q),.fn 143 [] [],.any,.any,.any,.any,.any,.wh b (bZ r),.int .i64 r.length,.int .i64 k,.any,.any,.any,.any],[]⟩) d _ hstep (by
   subst e1;simp[kY];rfl)
  simp[ayW,Wh];simp at hloop;rw[hloop,e2];by_cases hlt:r.length<q.length
  ·have i1:((r.length:Int)<(q.length:Int)):=by omega
   simp[hlt,i1]
  have i1:¬((r.length:Int)<(q.length:Int)):=by omega
  simp[hlt,i1]
 ·have hloop:=bU (base:=0) (clr:=[3,4,5,6,7,11,12,13]) (b:=kY) (fun k=>⟨[.wh b (bZ r),.wh b' (bZ q),.fn 143 [] [],.any,.any,.any,.any,.any,.wh b (bZ r),.int .i64 r.length,.int .i64 k,.any,.any,.any,.any],[]⟩) d _ hstep (by
   have a1:=sh e1;have i1:((d:Int)<(r.length:Int)):=by omega
   have i2:((q.length:Int)≤(d:Int)):=by omega
   simp[kY,a1,i1,i2];rfl)
  simp[ayW,Wh];simp at hloop;rw[hloop,e3];simp
 have hloop:=bU (base:=0) (clr:=[3,4,5,6,7,11,12,13]) (b:=kY) (fun k=>⟨[.wh b (bZ r),.wh b' (bZ q),.fn 143 [] [],.any,.any,.any,.any,.any,.wh b (bZ r),.int .i64 r.length,.int .i64 k,.any,.any,.any,.any],[]⟩) d _ hstep (by
  have a1:=sh ha;have a2:=sh hb;have a3:=Ds r[d] q[d];have i1:((d:Int)<(r.length:Int)):=by omega
  have i2:¬((q.length:Int)≤(d:Int)):=by omega
  simp[kY,a1,a2,a3,i1,i2,aR e1];rfl)
 simp[ayW,Wh];simp at hloop;rw[hloop,e2];simp
theorem yO(b b':Bool)(r q:aJ)(hr:r.length≤most):az I.qgk [.wh b (bZ r),.wh b' (bZ q)]=some (.int .i64 (cf r q)):=by
 rw[am ahh rfl];have:=fun b b'=>OH b b' r q hr;simp[aAW,ahO,this]
theorem AL(b b':Bool)(r q:aJ)(hr:nW r=true)(hq:nW q=true):az I.qfy [.wh b (bZ r),.wh b' (bZ q)]=some (.int .i64 (cf r q)):=by
 rw[am aoi rfl];have hl:r.length≤most:=by
  unfold nW at hr;simp at hr;unfold most;omega
 have h1:=fun b b'=>yO b b' r q hl;have h2:=fun b=>pg b r;have h3:=fun b=>pg b q;rw[hr]at h2;rw[hq]at h3;simp[aBn,ajc,h1,h2,h3]
theorem N8(v w:aE)(hv:dC v=true)(hw:dC w=true):az I.qdq [v.a,w.a]=some (.int .i64 (dP v w)):=by
 rw[am aqY rfl];have h:=fun b b'=>AL b b' [v] [w] (by simp[nW,hv]) (by simp[nW,hw]);have e:cf [v] [w]=dP v w:=by
  simp only[cf];unfold lex;split
  ·rfl
  omega
 rw[e]at h;simp only[bZ,af6,ajo]at h;simp[aBk,ahx,h]
end Go.AM
namespace Go.AM
open P
set_option maxHeartbeats 4000000
set_option maxRecDepth 4000
def Ei(o:Int×Bool):aa:=.agg [.int .i64 o.1,.bool o.2]
def sf(r:aJ)(i:Int):aE:=r.getD i.toNat default
theorem UU{r:aJ}{i:Int}(h:0≤i∧i<r.length):(bZ r)[i.toNat]?=some (sf r i).a:=by
 have hl:i.toNat < r.length:=by omega
 rw[sh hl];simp[sf,List.getD,hl]
end Go.AM
namespace Go.AM
open P
set_option maxHeartbeats 4000000
set_option maxRecDepth 4000
def an0:aa→Int×Bool
 |.agg [.int _ c,.bool d]=>(c,d)
 |_=>(0,false)
@[simp] theorem arM(o:Int×Bool):an0 (Ei o)=o:=rfl
@[simp] theorem agc(r:aJ)(fl top:Bool)(base:Nat)(σ:ah)(n:Nat):(bZ r).map (fz fl top base σ (n+2))=bZ r:=by
 unfold bZ;rw[aqS];exact aj6 fun v _=>akj v fl top base σ n
@[simp] theorem aiH(r:aJ):(bZ r).map aw=List.replicate r.length 4:=by
 unfold bZ;rw[aqS,ave];exact⟨by simp,fun x hx=>by simp at hx;exact hx.2.symm▸rfl⟩
theorem aaG(r:aJ):((bZ r).all fun y=>aw y==4)=true:=by
 rw[afz];intro x hx;obtain⟨v,_,rfl⟩:=afJ.1 hx;rfl
theorem C1(r:aJ)(id ep:Nat)(σ:ah)(h:σ[id]?=some (.arr 4 ep (bZ r))):ig 4 σ (.sl id ep 0 r.length)=.frs 4 (bZ r):=by
 have h9:(bZ r).take r.length=bZ r:=aea (by simp);have h10:∀σ',(bZ r).map (jj σ')=bZ r:=fun σ'=>agc r false false 0 σ' 18;simp only[ig,h,h9,h10,JF];simp
theorem Ph:∀b,az I.qgt [.wh b []]=some (.frs 4 [])
 |true=>fq (n:=20) (σ:=[]) (by kernel_rfl)
 |false=>fq (n:=20) (σ:=[]) (by kernel_rfl)
theorem TN(b:Bool)(r:aJ)(hn:r.length≤most):az I.qgt [.wh b (bZ r)]=some (.frs 4 (bZ r)):=by
 cases r with
 |nil=>exact Ph b
 |cons v r=>
  have hall:=aaG (v::r);have hl:(bZ (v::r)).length=r.length+1:=by simp
  have hne:eZ [] (.wh b (bZ (v::r)))=false:=rfl;unfold az;rw[gm good Vw,hne];simp only[ai1,ali];unfold g9;have hn':r.length+1≤most:=by simpa using hn
  have hnil:pw false [] (.wh b (bZ (v::r)))=some (.bool false):=rfl;have hf:=C1 (v::r) 0 0 [.arr 4 0 (bZ (v::r))] rfl;have hx:bZ (v::r)≠[]:=by simp[bZ]
  have hy:∀x,x∈bZ (v::r)→aw x=4:=fun x hx=>by simpa using afz.1 hall x hx
  have ht:(bZ (v::r)).take (r.length+1)=bZ (v::r):=aea (by simp);simp only[aiG]at hf;generalize bZ (v::r)=xs at *;simp[azV,ZY,enter,lP,append,hall,hl,hn',-pw,hnil,hx];rw[if_pos hy];simp[lP];exact hf
end Go.AM
namespace Go.AM
class Nc {α:Type} (f:α→aa) (n:outParam Nat) (g:outParam Bool):Prop where
 nc:∀y,aw (f y)=n
 ag:∀y,isAgg (f y)=g
class Fx {α:Type} (f:α→aa):Prop where
 fx:∀fl top base σ n y,fz fl top base σ (n+3) (f y)=f y
class Ft {α:Type} (f:α→aa):Prop where
 ft:∀fl top base σ n y,(fl ||top)=true→fz fl top base σ (n+3) (f y)=f y
abbrev i64(n:Int):aa:=ac n
instance:Nc (fun n=>aa.int .i64 n) 1 false:=⟨fun _=>rfl,fun _=>rfl⟩
instance:Nc (aa.int .i64) 1 false:=⟨fun _=>rfl,fun _=>rfl⟩
instance:Fx (aa.int .i64):=⟨fun _ _ _ _ _ _=>rfl⟩
instance:Nc aE.a 4 true:=⟨fun _=>rfl,fun _=>rfl⟩
instance:Fx aE.a:=⟨fun fl top base σ n y=>akj y fl top base σ (n+1)⟩
instance {α:Type} (f:α→aa) [Fx f]:Ft f:=⟨fun fl top base σ n y _=>Fx.fx fl top base σ n y⟩
section
variable {α:Type} {f:α→aa} {m:Nat} {g:Bool}
@[simp] theorem arx[Fx f](fl top:Bool)(base:Nat)(σ:ah)(n:Nat)(l:List α):List.map (fz fl top base σ (n+3)∘f) l=List.map f l:=
 aj6 fun y _=>Fx.fx fl top base σ n y
@[simp] theorem aiO[Ft f](base:Nat)(σ:ah)(l:List α):List.map (aZ base σ∘f) l=List.map f l:=
 aj6 fun y _=>Ft.ft false true base σ 17 y rfl
@[simp] theorem arI[Nc f m g](l:List α):List.map (aw∘f) l=List.replicate l.length m:=by
 rw[ave]
 exact⟨by simp,fun x hx=>by
  obtain⟨y,_,rfl⟩:=afJ.1 hx;exact Nc.nc y⟩
theorem Ol[Nc f m g](l:List α):((l.map f).all fun y=>aw y==m)=true:=by
 rw[afz];intro x hx;obtain⟨y,_,rfl⟩:=afJ.1 hx;simp[Nc.nc y]
@[simp] theorem lE(l:List α)(f:α→aa):List.take l.length (List.map f l)=List.map f l:=aea (by simp)
end
end Go.AM
namespace Go.AM
structure eJ (α:Type) where
 b:Bool
 l:List α
abbrev eJ.c{α:Type}(f:α→aa)(s:eJ α):aa:=.wh s.b (s.l.map f)
end Go.AM
namespace Go.AM
open P
theorem aB(a b:ai)(s:St)(c:Bool):EQ a b s (.bool c)=if c=true then run code a s else run code b s:=by cases c<;>rfl
theorem aP(env:List aa)(x:bp)(b:Bool)(o:F4)(is:List aU)(ls:List aa)(σ:ah)(c:Bool) :
  Fw env (P.g x b o) is ls σ (some c)=if c=true then Bs env is ls (step code env ls σ o) else jF code env is (ls++[.tup []]) σ:=by cases c<;>rfl
theorem aeY{α:Type}[BEq α](a b:α):(a != b)=!(a==b):=rfl
end Go.AM
namespace Go.AM
structure EN where
 tag:Int
 l:Int
 r:Int
 col:Int
 v:aE
 deriving DecidableEq,Inhabited
def EN.a(n:EN):aa:=.agg [.int .i64 n.tag,.int .i64 n.l,.int .i64 n.r,.int .i64 n.col,.int .i64 n.v.k,.int .i64 n.v.n,.int .u64 n.v.u,.str n.v.s]
end Go.AM
namespace Go.AM
open P
set_option maxHeartbeats 4000000
set_option maxRecDepth 4000
@[simp] theorem amc(n:EN):aw n.a=8:=rfl
@[simp] theorem ao6(n:EN):isAgg n.a=true:=rfl
@[simp] theorem apP(n:EN)(fl top:Bool)(base:Nat)(σ:ah)(m:Nat):fz fl top base σ (m+2) n.a=n.a:=by simp[EN.a]
def vx(e:List EN):List aa:=e.map EN.a
@[simp] theorem ai9(e:List EN):(vx e).length=e.length:=by simp[vx]
theorem HZ{e:List EN}{k:Nat}(h:k<e.length):(vx e)[k]?=some e[k].a:=by simp[vx,h]
def nV(b:Bool)(e:List EN):aa:=.agg [.wh b (vx e)]
def aI(t:Int):Int:=if t=1∨t=2 then 0 else if 4≤t∧t≤7 then 1 else if 12≤t∧t≤23 then 2 else -1
theorem ud(t:Int):az I.qfg [ac t]=some (ac (aI t)):=by
 rw[am apJ rfl];unfold aI;by_cases h1:t=1
 ·subst h1;simp[ayh,DM]
 by_cases h2:t=2
 ·subst h2;simp[ayh,DM]
 have e12:¬(t=1∨t=2):=by omega
 rw[if_neg e12];by_cases h3:4≤t
 ·by_cases h4:t≤7
  ·simp[ayh,DM,al h1,al h2,h3,h4]
  by_cases h5:12≤t
  ·by_cases h6:t≤23
   ·simp[ayh,DM,al h1,al h2,h3,h4,h5,h6]
   simp[ayh,DM,al h1,al h2,h3,h4,h5,h6]
  simp[ayh,DM,al h1,al h2,h3,h4,h5]
 have h5:¬(12≤t):=by omega
 simp[ayh,DM,al h1,al h2,h3,h5]
def dd(v:aE):Bool:=dC v&&v.k != 4
theorem s9(v:aE):az I.qic [v.a]=some (.bool (dd v)):=by
 rw[am apk rfl];have h:=sY v;unfold dd;obtain⟨k,n,u,s⟩:=v;simp only[dL]at *;cases hv:dC ⟨k,n,u,s⟩<;>rw[hv]at h<;>simp[aAX,ahg,h]
def aq:aE:=⟨0,0,0,[]⟩
def cq(n:EN):Bool:=if n.tag=1 then dd n.v&&n.col==0 else if n.tag=2 then n.v==aq&&decide (0≤n.col)&&decide (n.col<16) else n.v==aq&&n.col==0
theorem MG(v:aE):cX [0,0,0,2] [ac v.k,ac v.n,.int .u64 v.u,.str v.s] [ac 0,ac 0,.int .u64 0,.str []]=some (v==aq):=by
 obtain⟨k,n,u,s⟩:=v;unfold aq;by_cases hk:k=0
 ·by_cases hn:n=0
  ·by_cases hu:u=0
   ·by_cases hs:s=[]
    ·subst hk hn hu hs;simp
    have hs':(s==[])=false:=by simp[hs]
    have e:((⟨k,n,u,s⟩:aE) == ⟨0,0,0,[]⟩)=false:=by simp[hs]
    rw[e];simp[hk,hn,hu,hs']
   have e:((⟨k,n,u,s⟩:aE) == ⟨0,0,0,[]⟩)=false:=by simp[hu]
   rw[e];simp[hk,hn,al hu]
  have e:((⟨k,n,u,s⟩:aE) == ⟨0,0,0,[]⟩)=false:=by simp[hn]
  rw[e];simp[hk,al hn]
 have e:((⟨k,n,u,s⟩:aE) == ⟨0,0,0,[]⟩)=false:=by simp[hk]
 rw[e];simp[al hk]
theorem Du(n:EN):az I.qet [n.a]=some (.bool (cq n)):=by
 rw[am an2 rfl];have hp:=s9 n.v;have hz:=MG n.v;unfold cq EN.a;unfold aE.a at hp;by_cases h1:n.tag=1
 ·cases hv:dd n.v<;>rw[hv]at hp<;>simp[ay4,UZ,h1,hp]
 by_cases h2:n.tag=2
 ·cases hv:(n.v==aq)<;>rw[hv]at hz<;>simp[ay4,UZ,h2,hz,-cX];by_cases h3:0≤n.col<;>simp[h3]
 cases hv:(n.v==aq)<;>rw[hv]at hz<;>simp[ay4,UZ,h1,h2,al h1,al h2,hz,-cX]
end Go.AM
namespace Go.AM
open P
set_option maxHeartbeats 64000000
set_option maxRecDepth 40000
attribute [local simp] aB aP
def bL(n:Int):aE:=⟨2,n,0,[]⟩
def bG(b:Bool):aE:=⟨1,if b then 1 else 0,0,[]⟩
@[simp] theorem ark(k n u:Int)(s:List UInt8):az I.qhq [.agg [ac k,ac n,.int .u64 u,.str s]]=some (ac (if dC ⟨k,n,u,s⟩ then 0 else 120)):=sY ⟨k,n,u,s⟩
@[simp] theorem arC(k n u:Int)(s:List UInt8):az I.qic [.agg [ac k,ac n,.int .u64 u,.str s]]=some (.bool (dd ⟨k,n,u,s⟩)):=s9 ⟨k,n,u,s⟩
@[simp] theorem asm:az I.qhz []=some aq.a:=by
 rw[am anK rfl];simp[aAK,ahz,aE.a,aq]
@[simp] theorem as5(n:Int):az I.qhu [ac n]=some (bL n).a:=by
 rw[am an1 rfl];simp[aAC,ain,aE.a,bL]
@[simp] theorem asF(b:Bool):az I.qhp [.bool b]=some (bG b).a:=by
 rw[am aoe rfl];cases b<;>simp[aAD,ahk,aE.a,bG]
def aff:Option aa→Int×Bool
 |some (.tup [.int _ n,.bool b])=>(n,b)
 |_=>(0,false)
theorem Er{r:Option aa}(h:∃n b,r=some (.tup [ac n,.bool b])):r=some (.tup [ac (aff r).1,.bool (aff r).2]):=by
 obtain⟨n,b,rfl⟩:=h;rfl
noncomputable def cJ(f:Nat)(n m:Int):Int×Bool:=aff (az f [ac n,ac m])
@[simp] theorem akO(n m:Int):az I.qb [ac n,ac m]=some (.tup [ac (cJ I.qb n m).1,.bool (cJ I.qb n m).2]):=
 Er ⟨_,_,by rw[am ago rfl];simp[axM,aeL,intBits];exact⟨rfl,rfl⟩⟩
@[simp] theorem akg(n m:Int):az I.ql [ac n,ac m]=some (.tup [ac (cJ I.ql n m).1,.bool (cJ I.ql n m).2]):=
 Er ⟨_,_,by rw[am aeq rfl];simp[ay2,afF,intBits];exact⟨rfl,rfl⟩⟩
def kO(kind:Int)(l:aJ):Int:=if l.all dC then (if l.all fun v=>v.k==0 ||v.k==kind then 0 else 2) else 120
def YM(kind:Int)(_:Nat)(v:aE)(e:Int):Int⊕Unit:=if dC v then .inl (if v.k==0 ||v.k==kind then e else 2) else .inr ()
theorem OW(kind:Int):∀(m:aJ) k (e:Int),aV (YM kind) m k e=if m.all dC then .inl (if m.all fun v=>v.k==0 ||v.k==kind then e else 2) else .inr ()
 |[],_,_=>rfl
 |a::m,k,e=>by
  cases ho:dC a<;>cases hk:(a.k==0 ||a.k==kind)<;>simp only[aV,YM,ho,hk,OW kind m,aty]<;>simp<;>intros<;>(split<;>rfl)
theorem Ov(kind:Int)(b:Bool)(l:aJ)(hn:l.length≤most):az I.qn [ac kind,.wh b (l.map aE.a)]=some (ac (kO kind l)):=by
 rw[am ar9 rfl];have h:=cD (base:=0) (clr:=[2,4,8,9,10]) (b:=Iq) l
  (fun k (e:Int)=>⟨[ac kind,.wh b (l.map aE.a),.any,ac e,.any,.wh b (l.map aE.a),ac l.length,ac k,.any,.any,.any],[]⟩) (fun _ _=>True)
  (YM kind)
  (fun e=>(.ext 0,⟨[ac kind,.wh b (l.map aE.a),.any,ac e,.any,.wh b (l.map aE.a),ac l.length,ac l.length,.bool false,.any,.any],[]⟩))
  (fun (_:Unit) o=>∃s,o=(.ret,s)∧bF .pure [.env 2] (some (.ret,s))=some (ac 120))
  (fun k v e hk hv _=>by
   have yB:((k:Int)<(l.length:Int)):=by omega
   unfold YM;cases ho:dC v
   ·exact⟨_,by simp[Iq,yB,hv,ho,aE.a,YM];rfl,_,rfl,by simp⟩
   cases h0:v.k==0<;>cases h1:v.k==kind<;>simp[Iq,YM,yB,hv,ho,aE.a,aeY,h0,h1,aA hk hn,ar])
  (fun e _=>by simp[Iq]) 0 trivial
 rw[OW]at h;unfold kO;cases ha:l.all dC<;>simp only[ha]at h
 ·obtain⟨_,h1,s,rfl,h2⟩:=h;simp at h1;simp[azw,akT,h1,-bP];exact h2
 have h1:=h.2;simp at h1;simp[azw,akT,h1]
def rg(n:Int):Prop:=-9223372036854775808≤n∧n<9223372036854775808
def nv(n:Int):Prop:=0≤n∧n<18446744073709551616
theorem mz(n:Int):rg (IntKind.i64.wrap n):=by
 unfold rg;simp[IntKind.wrap,IntKind.bits,IntKind.signed];split<;>omega
theorem Fl{r:Option aa}(h:∃n b,r=some (.tup [ac n,.bool b])∧rg n):rg (aff r).1:=by
 obtain⟨n,b,rfl,h⟩:=h;exact h
theorem aa7(n m:Int):rg (cJ I.qb n m).1:=
 Fl ⟨_,_,by rw[am ago rfl];simp[axM,aeL,intBits];first|exact⟨rfl,rfl⟩|exact rfl,mz _⟩
theorem Pf(n m:Int):rg (cJ I.ql n m).1:=
 Fl ⟨_,_,by rw[am aeq rfl];simp[ay2,afF,intBits];first|exact⟨rfl,rfl⟩|exact rfl,mz _⟩
@[simp] theorem To(n:Int):∃u,az I.qr [ac n]=some (.int .u64 u):=by
 rw[am alX rfl];by_cases h:n<0
 ·exact⟨_,by simp[ayl,So,h];rfl⟩
 exact⟨_,by simp[ayl,So,h];rfl⟩
theorem O9(u:Int)(b:Bool):∃n t,az I.qq [.int .u64 u,.bool b]=some (.tup [ac n,.bool t])∧rg n:=by
 rw[am aoW rfl];cases b
 ·exact⟨_,_,by simp[ayG,adO];first|exact⟨rfl,rfl⟩|exact rfl,mz _⟩
 exact⟨_,_,by simp[ayG,adO];first|exact⟨rfl,rfl⟩|exact rfl,mz _⟩
theorem agD(a b:Int):∃n t,az I.qfk [.int .u64 a,.int .u64 b]=some (.tup [.int .u64 n,.int .u64 t]):=by
 rw[am ai4 rfl];exact⟨_,_,by simp[azG,acm,intBits,shift];exact⟨rfl,rfl⟩⟩
theorem Xt(n m:Int):∃x b,az I.qi [ac n,ac m]=some (.tup [ac x,.bool b])∧rg x:=by
 rw[am akM rfl];obtain⟨a,ha⟩:=To n;obtain⟨b,hb⟩:=To m;obtain⟨c,d,hc⟩:=agD a b;obtain⟨x,t,hs,hr⟩:=O9 d (decide (n<0) != decide (m<0));simp[bne]at hs;cases t
 ·exact⟨_,_,by simp[axT,afU,ha,hb,hc,hs,bne];first|exact⟨rfl,rfl⟩|exact rfl,hr⟩
 exact⟨_,_,by simp[axT,afU,ha,hb,hc,hs,bne];first|exact⟨rfl,rfl⟩|exact rfl,hr⟩
@[simp] theorem alE(n m:Int):az I.qi [ac n,ac m]=some (.tup [ac (cJ I.qi n m).1,.bool (cJ I.qi n m).2]):=
 let ⟨x,b,h,_⟩:=Xt n m;Er ⟨x,b,h⟩
theorem adH(n m:Int):rg (cJ I.qi n m).1:=Fl (Xt n m)
theorem agn(n:Int)(h:n≠0)(hr:rg n):∃u,az I.qr [ac n]=some (.int .u64 u)∧u≠0:=by
 rw[am alX rfl];unfold rg at hr;by_cases h:n<0
 ·exact⟨_,by simp[ayl,So,h];rfl,by simp[IntKind.wrap,IntKind.bits,IntKind.signed];omega⟩
 exact⟨_,by simp[ayl,So,h];rfl,by simp[IntKind.wrap,IntKind.bits,IntKind.signed];omega⟩
theorem Wm(n m:Int)(hm:rg m):∃x b,az I.qe [ac n,ac m]=some (.tup [ac x,.bool b])∧rg x:=by
 rw[am aeH rfl];by_cases h:m=0
 ·subst h;exact⟨_,_,by simp[axQ,aaD];first|exact⟨rfl,rfl⟩|exact rfl,by simp[rg]⟩
 obtain⟨a,ha⟩:=To n;obtain⟨b,hb,hb0⟩:=agn m h hm;obtain⟨x,t,hs,hr⟩:=O9 (IntKind.u64.wrap (a.tdiv b)) (decide (n<0) != decide (m<0));simp[bne]at hs;exact⟨_,_,by simp[axQ,aaD,al h,ha,hb,hb0,bne,hs];first|exact⟨rfl,rfl⟩|exact rfl,hr⟩
theorem aka(n m:Int)(hm:rg m):az I.qe [ac n,ac m]=some (.tup [ac (cJ I.qe n m).1,.bool (cJ I.qe n m).2]):=
 let ⟨x,b,h,_⟩:=Wm n m hm;Er ⟨x,b,h⟩
theorem abO(n m:Int)(hm:rg m):rg (cJ I.qe n m).1:=Fl (Wm n m hm)
def cd(to:Int→Int→Int×Bool)(a b:aE):aE×Int:=
 if kO 2 [a,b]=0 then (if a.k=0∨b.k=0 then (aq,0) else if (to a.n b.n).2 then (bL (to a.n b.n).1,0) else (aq,140)) else (aq,kO 2 [a,b])
theorem apD(kind:Int)(b:Bool)(v w:aE):az I.qn [ac kind,.wh b [v.a,w.a]]=some (ac (kO kind [v,w])):=Ov kind b [v,w] (by simp[most])
theorem agA(kind:Int)(b:Bool)(v:aE):az I.qn [ac kind,.wh b [v.a]]=some (ac (kO kind [v])):=Ov kind b [v] (by simp[most])
theorem aeC(f:Nat)(hp:aC f)(to:Int→Int→Int×Bool)(a b:aE)(hf:az f [ac a.n,ac b.n]=some (.tup [ac (to a.n b.n).1,.bool (to a.n b.n).2])) :
  az I.qo [a.a,b.a,.fn f [] []]=some (.tup [(cd to a b).1.a,ac (cd to a b).2]):=by
 rw[am asa rfl];have h1:=fun t=>apD 2 t a b;obtain⟨k,n,u,s⟩:=a;obtain⟨k',n',u',s'⟩:=b;simp only[dL]at *;unfold cd;by_cases h0:kO 2 [⟨k,n,u,s⟩,⟨k',n',u',s'⟩]=0
 ·rw[h0]at h1 ⊢;by_cases hk:k=0
  ·subst hk;simp[ayQ,Z6,h1,aq,dL]
  by_cases hk':k'=0
  ·subst hk';simp[ayQ,Z6,h1,al hk,hk,aq,dL]
  rcases hr:to n n' with⟨m,t⟩;rw[hr]at hf;cases t<;>simp[ayQ,Z6,h1,al hk,al hk',hk,hk',hr,hp _ _,hf,aq,dL,bL]
 simp[ayQ,Z6,h1,h0,aR h0,aq,dL]
theorem aqF(a b:aE):az I.qa [a.a,b.a]=some (.tup [(cd (cJ I.qb) a b).1.a,ac (cd (cJ I.qb) a b).2]):=by
 rw[am aqu rfl];have h:=aeC I.qb asb (cJ I.qb) a b (akO _ _);simp only[aE.a]at *;simp[axL,aok,h]
theorem aiY(a b:aE):az I.qk [a.a,b.a]=some (.tup [(cd (cJ I.ql) a b).1.a,ac (cd (cJ I.ql) a b).2]):=by
 rw[am ape rfl];have h:=aeC I.ql ass (cJ I.ql) a b (akg _ _);simp only[aE.a]at *;simp[aA0,apK,h]
theorem anY(a b:aE):az I.qh [a.a,b.a]=some (.tup [(cd (cJ I.qi) a b).1.a,ac (cd (cJ I.qi) a b).2]):=by
 rw[am aqE rfl];have h:=aeC I.qi asw (cJ I.qi) a b (alE _ _);simp only[aE.a]at *;simp[axP,am7,h]
theorem aq3(a b:aE)(hb:rg b.n):az I.qd [a.a,b.a]=some (.tup [(cd (cJ I.qe) a b).1.a,ac (cd (cJ I.qe) a b).2]):=by
 rw[am aph rfl];have h:=aeC I.qe asi (cJ I.qe) a b (aka _ _ hb);simp only[aE.a]at *;simp[axO,ang,h]
theorem an3(a:aE):az I.qj [a.a]=some (.tup [(cd (cJ I.ql) (bL 0) a).1.a,ac (cd (cJ I.ql) (bL 0) a).2]):=by
 rw[am anz rfl];have h:=aiY (bL 0) a;simp only[aE.a]at *;simp[aAy,apq,h,aE.a]
def iE(x:Int):aE:=⟨4,x/18446744073709551616,x%18446744073709551616,[]⟩
theorem Fr(x:Int):dC (iE x)=true:=by simp[dC,pu,iE]
theorem gR:dC aq=true:=by decide
theorem Rh(v:aE)(h:rg v.n):az I.qs [v.a]=some (iE v.n).a:=by
 rw[am aso rfl];unfold rg at h;have e1:v.n.fdiv 9223372036854775808=v.n/18446744073709551616:=by
  rw[avo _ (by decide)];omega
 simp only[aE.a,iE];simp[aAt,apZ,shift,IntKind.wrap,IntKind.bits,IntKind.signed,e1]
theorem Fc{x y c:Int}(hx:nv x)(hy:nv y)(hc:0≤c∧c≤1)(σ:ah) :
  bK code I.math_bits_Add64 [.int .u64 x,.int .u64 y,.int .u64 c] σ=some (.tup [.int .u64 ((x+y+c)%18446744073709551616),.int .u64 ((x+y+c)/18446744073709551616)],σ):=by
 refine pk good (k:=0) (n:=0) rfl ?_;have hp:code.prims=prims:=rfl;rw[hp];simp only[prims,Ib];rw[if_pos ⟨hx.1,hx.2,hy.1,hy.2,hc.1,hc.2⟩]
theorem wU(B:BitVec 64):IntKind.i64.wrap (B.toNat:Int)=B.toInt:=by
 rw[BitVec.toInt_eq_toNat_cond];have:=B.isLt;simp[IntKind.wrap,IntKind.bits,IntKind.signed];split<;>split<;>omega
theorem ml{a:Int}(h:rg a):(BitVec.ofInt 64 a).msb=decide (a<0):=by
 rw[avp,BitVec.toInt_ofInt];have:a.bmod (2^64)=a:=by
  unfold rg at h;rw[Int.bmod_def];split<;>omega
 rw[this]
def tx(a b:Int):Int:=IntKind.i64.wrap ((BitVec.ofInt 64 a ^^^ BitVec.ofInt 64 b).toNat:Int)
def FU(a b:Int):Int:=IntKind.i64.wrap ((BitVec.ofInt 64 a &&& BitVec.ofInt 64 b).toNat:Int)
theorem vc(a b:Int):intBits .xor .i64 a b=some (tx a b):=rfl
theorem we(a b:Int):intBits .and .i64 a b=some (FU a b):=rfl
theorem aqG{a b h:Int}(ha:rg a)(hb:rg b)(hh:rg h) :
  FU (tx a h) (tx b h)<0↔((decide (a<0) ^^ decide (h<0))&&(decide (b<0) ^^ decide (h<0)))=true:=by
 unfold FU tx;rw[wU,wU,wU,au5,au5];have:∀B:BitVec 64,B.toInt<0↔B.msb=true:=fun B=>by rw[avp];simp
 rw[this,BitVec.msb_and,avA,avA,ml ha,ml hb,ml hh]
def sz(x:Int):Prop:=-1267650600228229401496703205376≤x∧x≤1267650600228229401496703205376
theorem akB{x y:Int}(hx:sz x)(hy:sz y):az I.qp [(iE x).a,(iE y).a]=some (.tup [(iE (x+y)).a,ac 0]):=by
 rw[am aqW rfl];unfold sz at hx hy;have h1:=Fc (x:=x%18446744073709551616) (y:=y%18446744073709551616) (c:=0) (by unfold nv;omega) (by unfold nv;omega) (by omega);have h2:=Fc (x:=IntKind.u64.wrap (x/18446744073709551616)) (y:=IntKind.u64.wrap (y/18446744073709551616)) (c:=(x%18446744073709551616+y%18446744073709551616)/18446744073709551616)
  (by simp[nv,IntKind.wrap,IntKind.bits,IntKind.signed];omega) (by simp[nv,IntKind.wrap,IntKind.bits,IntKind.signed];omega) (by omega)
 have e:IntKind.i64.wrap ((IntKind.u64.wrap (x/18446744073709551616)+IntKind.u64.wrap (y/18446744073709551616)+(x%18446744073709551616+y%18446744073709551616)/18446744073709551616)%18446744073709551616)=(x+y)/18446744073709551616:=by
  simp[IntKind.wrap,IntKind.bits,IntKind.signed];omega
 have e2:(x%18446744073709551616+y%18446744073709551616)%18446744073709551616=(x+y)%18446744073709551616:=by omega
 have h3:¬(FU (tx (x/18446744073709551616) ((x+y)/18446744073709551616)) (tx (y/18446744073709551616) ((x+y)/18446744073709551616))<0):=by
  rw[aqG (by unfold rg;omega) (by unfold rg;omega) (by unfold rg;omega)];by_cases a:x/18446744073709551616<0<;>by_cases b:y/18446744073709551616<0<;>by_cases c:(x+y)/18446744073709551616<0<;>simp[a,b,c]<;>omega
 simp only[atS]at h1;simp only[aE.a,iE];simp[ayZ,aeB,h1,h2,e,e2,vc,we,h3]
def fQ:Option Int→aE
 |none=>aq
 |some x=>iE x
theorem Rm(s:Option Int):dC (fQ s)=true:=by cases s;exact gR;exact Fr _
def Wn(s:Option Int):Prop:=sz (s.getD 0)
def asH:Option Int→Option Int→Option Int
 |none,t=>t
 |s,none=>s
 |some x,some y=>some (x+y)
def gf(s:Option Int)(v:aE):Option Int:=if v.k=0 then s else some (s.getD 0+v.n)
def kM(v:aE):Int:=if dC v=false then 120 else if v.k=0∨v.k=2 then 0 else 2
theorem Tx(s:Option Int):kO 4 [fQ s]=0:=by
 unfold kO;cases s<;>simp[fQ,gR,Fr]<;>simp[aq,iE]
theorem amS(v:aE):kO 2 [v]=kM v:=by
 unfold kO kM;cases h:dC v<;>simp[h]
theorem adL(s:Option Int)(v:aE)(hs:Wn s)(hv:rg v.n) :
  az I.qm [(fQ s).a,v.a]=some (.tup [(if kM v=0 then fQ (gf s v) else aq).a,ac (kM v)]):=by
 rw[am ao9 rfl];have h1:=fun b=>agA 4 b (fQ s);have h2:=fun b=>agA 2 b v;rw[Tx]at h1;rw[amS]at h2;have h3:=Rh v hv;unfold kM at *;by_cases ho:dC v=true
 ·rw[ho]at h2 ⊢;simp only[asf,ali]at h2 ⊢;by_cases hk0:v.k=0
  ·simp[hk0]at h2;unfold gf;rw[if_pos hk0];generalize fQ s=S at *;simp only[aE.a]at *;simp[ayu,Yp,h1,h2,hk0];rw[hk0]at h2;simp[h2]
  by_cases hk2:v.k=2
  ·simp[hk2]at h2;unfold gf;rw[if_neg hk0];cases s with
   |none=>
    simp only[fQ,avi,Int.zero_add]at *;simp only[aE.a,aq]at *;rw[hk2]at h2 h3 ⊢;simp[ayu,Yp,h1,h2,h3]
   |some x=>
    have h4:=akB (x:=x) (y:=v.n) hs (by unfold rg at hv;unfold sz;omega);simp only[fQ,ary]at *;simp only[aE.a]at *;rw[hk2]at h2 h3 ⊢;have hx:(iE x).k=4:=rfl;simp only[hx]at h1 h4 ⊢;simp[ayu,Yp,h1,h2,h3,h4]
  have hk:¬(v.k=0∨v.k=2):=by omega
  rw[if_neg hk]at h2;generalize fQ s=S at *;simp only[aE.a,aq]at *;simp[ayu,Yp,h1,h2,hk]
 have ho:dC v=false:=by simpa using ho
 rw[if_pos ho]at h2;generalize fQ s=S at *;simp only[aE.a,aq]at *;simp[ayu,Yp,h1,h2,ho]
def kL:Option Int→aE×Int
 |none=>(aq,0)
 |some x=>if -9223372036854775808≤x∧x<9223372036854775808 then (bL x,0) else (aq,140)
theorem aiZ(s:Option Int)(hs:Wn s):az I.qf [(fQ s).a]=some (.tup [(kL s).1.a,ac (kL s).2]):=by
 rw[am apr rfl];have h1:=fun b=>agA 4 b (fQ s);rw[Tx]at h1;cases s with
 |none=>
  simp only[fQ,kL]at *;simp only[aE.a,aq]at *;simp[axN,Jf,h1]
 |some x=>
  have hx:(iE x).k=4:=rfl;have hr:rg (IntKind.i64.wrap (iE x).u):=by
   unfold rg;simp[IntKind.wrap,IntKind.bits,IntKind.signed];split<;>omega
  have h3:=Rh (bL (IntKind.i64.wrap (iE x).u)) hr;have ha:(iE x).a=.agg [ac 4,ac (x/18446744073709551616),.int .u64 (x%18446744073709551616),.str []]:=rfl;simp only[fQ,kL]at *;unfold Wn sz at hs;simp only[ary]at hs;have e:(iE x).u=x%18446744073709551616:=rfl;rw[e]at hr h3;rw[ha]at h1 ⊢;have hm:∀n,IntKind.i64.wrap n=IntKind.i64.wrap n:=fun _=>rfl;by_cases hrx:-9223372036854775808≤x∧x<9223372036854775808
  ·have hw:IntKind.i64.wrap (x%18446744073709551616)=x:=by
    simp[IntKind.wrap,IntKind.bits,IntKind.signed];split<;>omega
   rw[hw]at h3;rw[if_pos hrx];simp only[bL]at *;simp only[aE.a,iE]at *;simp[axN,Jf,h1,h3,hw,bL,aE.a]
  rw[if_neg hrx];have hw:rg (IntKind.i64.wrap (x%18446744073709551616)):=hr;generalize hg:IntKind.i64.wrap (x%18446744073709551616)=w at *;have hxw:x≠w:=fun h=>hrx (by rw[h];exact hw);have hne:w/18446744073709551616≠x/18446744073709551616∨w%18446744073709551616≠x%18446744073709551616:=by omega
  simp only[bL]at *;simp only[aE.a,iE]at *;by_cases hq:w/18446744073709551616=x/18446744073709551616
  ·have hq2:w%18446744073709551616≠x%18446744073709551616:=by omega
   simp[axN,Jf,h1,h3,hg,bL,aE.a,hq,al hq2,aq]
  simp[axN,Jf,h1,h3,hg,bL,aE.a,al hq,aq]
def fits(x:Int):Bool:=decide (-9223372036854775808≤x)&&decide (x≤9223372036854775807)
theorem afm{x:Int}(h:rg x):fits x=true:=by unfold rg at h;unfold fits;simp;omega
structure yM (p:Int×Bool) (x:Int):Prop where
 ok:p.2=fits x
 val:p.2=true→p.1=x
theorem T8{a b c d:Int}(ha:rg a)(hb:rg b)(hc:rg c)(hd:rg d) :
  FU (tx a b) (tx c d)<0↔((decide (a<0) ^^ decide (b<0))&&(decide (c<0) ^^ decide (d<0)))=true:=by
 unfold FU tx;rw[wU,wU,wU,au5,au5];have:∀B:BitVec 64,B.toInt<0↔B.msb=true:=fun B=>by rw[avp];simp
 rw[this,BitVec.msb_and,avA,avA,ml ha,ml hb,ml hc,ml hd]
theorem da(x:Int):IntKind.i64.wrap x=if 9223372036854775808≤x%18446744073709551616 then x%18446744073709551616-18446744073709551616 else x%18446744073709551616:=by
 simp[IntKind.wrap,IntKind.bits,IntKind.signed]
theorem bO(x:Int):IntKind.u64.wrap x=x%18446744073709551616:=by
 simp[IntKind.wrap,IntKind.bits,IntKind.signed]
theorem Bx{f:Nat}{n m c:Int}{b:Bool}(h:az f [ac n,ac m]=some (.tup [ac c,.bool b])):cJ f n m=(c,b):=by
 unfold cJ;rw[h];rfl
theorem sM{c x:Int}{b:Bool}(h1:b=true↔(-9223372036854775808≤x∧x≤9223372036854775807))(h2:b=true→c=x):yM (c,b) x:=
 ⟨by rw[arh,h1];simp[fits],h2⟩
theorem alF{n m:Int}(hn:rg n)(hm:rg m):yM (cJ I.qb n m) (n+m):=by
 have h:az I.qb [ac n,ac m]=some (.tup [ac (IntKind.i64.wrap (n+m)),.bool (decide (0≤FU (tx n (IntKind.i64.wrap (n+m))) (tx m (IntKind.i64.wrap (n+m)))))]):=by
  rw[am ago rfl];simp[axM,aeL,vc,we]
 have hs:=T8 hn (mz (n+m)) hm (mz (n+m));rw[Bx h];have hw:=da (n+m);generalize IntKind.i64.wrap (n+m)=c at *;generalize FU (tx n c) (tx m c)=z at *;unfold rg at hn hm;have hz:(z<0)↔((n<0∧m<0∧¬c<0)∨(¬n<0∧¬m<0∧c<0)):=by
  rw[hs];by_cases a1:n<0<;>by_cases a2:m<0<;>by_cases a3:c<0<;>simp[a1,a2,a3]
 refine sM ?_ ?_<;>simp only[ad7]<;>split at hw<;>omega
theorem alU{n m:Int}(hn:rg n)(hm:rg m):yM (cJ I.ql n m) (n-m):=by
 have h:az I.ql [ac n,ac m]=some (.tup [ac (IntKind.i64.wrap (n-m)),.bool (decide (0≤FU (tx n m) (tx n (IntKind.i64.wrap (n-m)))))]):=by
  rw[am aeq rfl];simp[ay2,afF,vc,we]
 have hs:=T8 hn hm hn (mz (n-m));rw[Bx h];have hw:=da (n-m);generalize IntKind.i64.wrap (n-m)=c at *;generalize FU (tx n m) (tx n c)=z at *;unfold rg at hn hm;have hz:(z<0)↔((n<0∧¬m<0∧¬c<0)∨(¬n<0∧m<0∧c<0)):=by
  rw[hs];by_cases a1:n<0<;>by_cases a2:m<0<;>by_cases a3:c<0<;>simp[a1,a2,a3]
 refine sM ?_ ?_<;>simp only[ad7]<;>split at hw<;>omega
theorem Ep{n:Int}(hn:rg n):az I.qr [ac n]=some (.int .u64 n.natAbs):=by
 rw[am alX rfl];unfold rg at hn;by_cases h:n<0
 ·have e:IntKind.u64.wrap (-IntKind.u64.wrap n)=n.natAbs:=by rw[bO,bO];omega
  simp[ayl,So,h,e]
 have e:IntKind.u64.wrap n=n.natAbs:=by rw[bO];omega
 simp[ayl,So,h,e]
theorem JY{u:Int}(hu:nv u)(b:Bool):∃c t,az I.qq [.int .u64 u,.bool b]=some (.tup [ac c,.bool t])∧yM (c,t) (if b then -u else u):=by
 rw[am aoW rfl];unfold nv at hu;cases b with
 |true=>
  have e:u≤9223372036854775808→IntKind.i64.wrap (IntKind.u64.wrap (-u))=-u:=fun h=>by
   rw[bO,da];split<;>omega
  refine⟨_,_,by simp[ayG,adO];exact⟨rfl,rfl⟩,sM ?_ ?_⟩
  ·simp;omega
  simp;exact e
 |false=>
  have e:u≤9223372036854775807→IntKind.i64.wrap u=u:=fun h=>by rw[da];split<;>omega
  refine⟨_,_,by simp[ayG,adO];exact⟨rfl,rfl⟩,sM ?_ ?_⟩
  ·simp;omega
  simp;exact e
theorem ZO(x:Int):intBits .and .u64 x 4294967295=some (x%4294967296):=by
 have h:(BitVec.ofInt 64 x &&& BitVec.ofInt 64 4294967295).toNat=(x%4294967296).toNat:=by
  rw[BitVec.toNat_and];have e1:(BitVec.ofInt 64 4294967295).toNat=2^32-1:=rfl;rw[e1,Nat.and_two_pow_sub_one_eq_mod,BitVec.toNat_ofInt];omega
 show some (IntKind.u64.wrap ((BitVec.ofInt 64 x &&& BitVec.ofInt 64 4294967295).toNat:Int))=_;rw[h,bO];congr 1;omega
theorem DS(x:Int):shift .shr .u64 x 32=some (.int .u64 (x/4294967296)):=by
 show some (aa.int .u64 (x.fdiv (2^32)))=_;rw[avo _ (by decide)];rfl
theorem abe{a b a0 a1 b0 b1:Int}(ha:a=a1*4294967296+a0)(hb:b=b1*4294967296+b0)(h1:0≤a0)(h2:a0<4294967296)(h3:0≤a1)(h4:a1<4294967296)(h5:0≤b0)(h6:b0<4294967296)(h7:0≤b1)(h8:b1<4294967296) :
  a*b=(a1*b1)*18446744073709551616+(a1*b0+a0*b1)*4294967296+a0*b0 ∧
  (0≤a0*b0∧a0*b0≤18446744065119617025)∧(0≤a1*b0∧a1*b0≤18446744065119617025)∧(0≤a0*b1∧a0*b1≤18446744065119617025)∧(0≤a1*b1∧a1*b1≤18446744065119617025):=by
 have key:∀x y:Int,0≤x→x<4294967296→0≤y→y<4294967296→0≤x*y∧x*y≤18446744065119617025:=fun x y a b c d=>
  ⟨avG a c,Int.le_trans (avZ (by omega:x≤4294967295) (by omega:y≤4294967295) c (by omega)) (by decide)⟩
 refine⟨?_,key _ _ h1 h2 h5 h6,key _ _ h3 h4 h5 h6,key _ _ h1 h2 h7 h8,key _ _ h3 h4 h7 h8⟩;subst ha hb;rw[Int.add_mul,Int.mul_add,Int.mul_add];have e1:a1*4294967296*(b1*4294967296)=(a1*b1)*18446744073709551616:=by
  rw[av0,Int.mul_left_comm 4294967296 b1,←Int.mul_assoc];rfl
 have e2:a1*4294967296*b0=(a1*b0)*4294967296:=by rw[av0,Int.mul_comm 4294967296 b0,←Int.mul_assoc]
 have e3:a0*(b1*4294967296)=(a0*b1)*4294967296:=by rw[av0]
 rw[e1,e2,e3];omega
theorem Zg{a b:Int}(ha:nv a)(hb:nv b):az I.qfk [.int .u64 a,.int .u64 b]=some (.tup [.int .u64 (a*b/18446744073709551616),.int .u64 (a*b%18446744073709551616)]):=by
 rw[am ai4 rfl];unfold nv at ha hb;obtain⟨m0,⟨m1,m2⟩,⟨m3,m4⟩,⟨m5,m6⟩,⟨m7,m8⟩⟩:=abe (a:=a) (b:=b) (a0:=a%4294967296) (a1:=a/4294967296) (b0:=b%4294967296) (b1:=b/4294967296) (by omega) (by omega) (by omega) (by omega) (by omega) (by omega) (by omega) (by omega) (by omega) (by omega);simp[azG,acm,ZO,DS,-shift,bO];rw[m0];generalize (a%4294967296)*(b%4294967296)=p at *;generalize (a/4294967296)*(b%4294967296)=q at *;generalize (a%4294967296)*(b/4294967296)=r at *;generalize (a/4294967296)*(b/4294967296)=s at *;omega
theorem Mh(n m:Int):n*m=if (decide (n<0) != decide (m<0))=true then -((n.natAbs:Int)*m.natAbs) else (n.natAbs:Int)*m.natAbs:=by
 by_cases h1:n<0<;>by_cases h2:m<0
 ·rw[show (n.natAbs:Int)=-n by omega,show (m.natAbs:Int)=-m by omega];simp[h1,h2,Int.neg_mul,Int.mul_neg]
 ·rw[show (n.natAbs:Int)=-n by omega,show (m.natAbs:Int)=m by omega];simp[h1,h2,Int.neg_mul,Int.mul_neg]
 ·rw[show (n.natAbs:Int)=n by omega,show (m.natAbs:Int)=-m by omega];simp[h1,h2,Int.neg_mul,Int.mul_neg]
 rw[show (n.natAbs:Int)=n by omega,show (m.natAbs:Int)=m by omega];simp[h1,h2]
theorem akX{n m:Int}(hn:rg n)(hm:rg m):yM (cJ I.qi n m) (n*m):=by
 have hu:∀{x:Int},rg x→nv (x.natAbs:Int):=fun h=>by unfold rg at h;unfold nv;omega
 have h1:=Ep hn;have h2:=Ep hm;have h3:=Zg (hu hn) (hu hm);have hx:=Mh n m;have hp:(0:Int)≤(n.natAbs:Int)*m.natAbs:=avG (by omega) (by omega);generalize (n.natAbs:Int)*m.natAbs=p at *;obtain⟨c,t,h4,h5⟩:=JY (u:=p%18446744073709551616) (by unfold nv;omega) (decide (n<0) != decide (m<0));have h:az I.qi [ac n,ac m]=some (.tup [ac c,.bool (t&&decide (p/18446744073709551616=0))]):=by
  rw[am akM rfl];simp only[bne]at h4;cases t<;>simp[axT,afU,h1,h2,h3]<;>(try simp[bne]at h4)<;>simp[h4]<;>rfl
 rw[Bx h];obtain⟨o,v⟩:=h5;simp only at o v;unfold fits at o;generalize hS:(decide (n<0) != decide (m<0))=S at *;refine sM ?_ ?_
 ·by_cases hz:p/18446744073709551616=0
  ·rw[ar6 hz,auq,o,hx];rw[show p%18446744073709551616=p by omega];simp
  rw[alg hz,Bool.and_false,hx];cases S<;>simp<;>omega
 intro ht;simp only[acz,ad7]at ht;rw[v ht.1,hx,show p%18446744073709551616=p by omega]
theorem abs(n:Int):cJ I.qe n 0=(0,false):=by
 refine Bx ?_;rw[am aeH rfl];simp[axQ,aaD]
def Jj(n m:Int):Int:=if (decide (n<0) != decide (m<0))=true then -((n.natAbs:Int)/m.natAbs) else (n.natAbs:Int)/m.natAbs
theorem akx{n m:Int}(hn:rg n)(hm:rg m)(h0:m≠0):yM (cJ I.qe n m) (Jj n m):=by
 have h1:=Ep hn;have h2:=Ep hm;have hq:IntKind.u64.wrap ((n.natAbs:Int).tdiv m.natAbs)=(n.natAbs:Int)/m.natAbs:=by
  rw[avn (by omega),bO];have a:0≤(n.natAbs:Int)/m.natAbs:=avu (by omega) (by omega);have b:(n.natAbs:Int)/m.natAbs≤n.natAbs:=avl _ (by omega);unfold rg at hn;omega
 have hb:nv ((n.natAbs:Int)/m.natAbs):=by
  have a:0≤(n.natAbs:Int)/m.natAbs:=avu (by omega) (by omega);have b:(n.natAbs:Int)/m.natAbs≤n.natAbs:=avl _ (by omega);unfold rg at hn;unfold nv;omega
 unfold Jj;have hm0:¬((m.natAbs:Int)=0):=by omega
 obtain⟨c,t,h4,h5⟩:=JY hb (decide (n<0) != decide (m<0));have h:az I.qe [ac n,ac m]=some (.tup [ac c,.bool t]):=by
  rw[am aeH rfl];generalize (n.natAbs:Int)/m.natAbs=p at *;generalize (n.natAbs:Int)=N at *;generalize (m.natAbs:Int)=M at *;simp[bne]at h4;simp[axQ,aaD,h0,al h0,h1,h2,hm0,hq,h4]
 rw[Bx h];exact h5
def xZ(v w:aE):Int:=if dd v=true∧dd w=true then lex (fc v.k w.k) (lex (fc v.n w.n) (qA v.s w.s)) else 0
theorem rq(b:Bool)(a c d:Int):az I.qdf [.wh b [ac a,ac c,ac d]]=some (ac (lex a (lex c d))):=by
 rw[am ab3 rfl];unfold lex;by_cases ha:a=0
 ·by_cases hc:c=0
  ·by_cases hd:d=0
   ·subst ha hc hd;simp[ax2,sL,jt,bS,ar,IntKind.wrap,IntKind.bits,IntKind.signed]
   subst ha hc;simp[ax2,sL,jt,bS,ar,IntKind.wrap,IntKind.bits,IntKind.signed,aR hd]
  subst ha;simp[ax2,sL,jt,bS,ar,IntKind.wrap,IntKind.bits,IntKind.signed,aR hc,hc]
 simp[ax2,sL,jt,bS,ar,IntKind.wrap,IntKind.bits,IntKind.signed,aR ha,ha]
theorem ZJ(s t:List UInt8)(σ:ah):bK code I.internal_bytealg_abigen_runtime_cmpstring [.str s,.str t] σ=some (ac (qA s t),σ):=by
 refine pk good (k:=3) (n:=0) rfl ?_;have hp:code.prims=prims:=rfl;rw[hp];simp only[prims,ms,qA];by_cases h1:Op.bytesLess s t=true
 ·simp[h1]
 by_cases h2:s=t
 ·subst h2;simp[h1]
 simp[h1,h2]
theorem Uu(s t:List UInt8):az I.qfj [.str s,.str t]=some (ac (qA s t)):=by
 rw[am am6 rfl];simp[aAb,ajq,ZJ]
theorem UG(s t:List UInt8):az I.qhm [.str s,.str t]=some (ac (qA s t)):=by
 rw[am anG rfl];simp[aBf,ajn,Uu]
theorem Tq(v w:aE):az I.qhr [v.a,w.a]=some (ac (xZ v w)):=by
 rw[am aoG rfl];obtain⟨k,n,u,s⟩:=v;obtain⟨k',n',u',s'⟩:=w;simp only[dL];unfold xZ;cases h1:dd ⟨k,n,u,s⟩<;>cases h2:dd ⟨k',n',u',s'⟩<;>simp[aAi,ahX,h1,h2,Kq,Kl,UG,rq]
theorem aaH(b:Bool)(v:aE):az I.qig [.wh b [v.a]]=some (ac (if dC v then 0 else 120)):=by
 rw[am ai8 rfl];obtain⟨k,n,u,s⟩:=v;simp only[dL];cases h1:dC ⟨k,n,u,s⟩<;>simp[azN,acF,K4,bS,ar,IntKind.wrap,IntKind.bits,IntKind.signed,h1]
theorem Pt(b:Bool)(v w:aE):az I.qig [.wh b [v.a,w.a]]=some (ac (if dC v&&dC w then 0 else 120)):=by
 rw[am ai8 rfl];obtain⟨k,n,u,s⟩:=v;obtain⟨k',n',u',s'⟩:=w;simp only[dL];cases h1:dC ⟨k,n,u,s⟩<;>cases h2:dC ⟨k',n',u',s'⟩<;>simp[azN,acF,K4,bS,ar,IntKind.wrap,IntKind.bits,IntKind.signed,h1,h2]
def mR(is:Int→Bool)(v w:aE):aE×Int:=
 if (dC v&&dC w)=false then (aq,120) else if v.k=4∨w.k=4∨v.k≠0∧w.k≠0∧v.k≠w.k then (aq,2) else if v.k=0∨w.k=0 then (aq,0) else (bG (is (xZ v w)),0)
theorem adK(f:Nat)(hp:aC f)(is:Int→Bool)(v w:aE)(hf:∀c,az f [ac c]=some (.bool (is c))) :
  az I.qie [v.a,w.a,.fn f [] []]=some (.tup [(mR is v w).1.a,ac (mR is v w).2]):=by
 rw[am aoh rfl];have h1:=fun b=>Pt b v w;have h2:=Tq v w;unfold mR;cases ho:(dC v&&dC w)
 ·rw[ho]at h1;simp only[aE.a,aq]at *;simp[ayb,xR,h1]
 rw[ho]at h1;generalize xZ v w=c at *;obtain⟨k,n,u,s⟩:=v;obtain⟨k',n',u',s'⟩:=w;simp only[dL]at *;simp only[asf,ali];by_cases a1:k=4
 ·subst a1;by_cases a4:k'=0
  ·subst a4;simp[ayb,xR,h1,aq,aE.a]
  simp[ayb,xR,h1,aq,aE.a,al a4]
 by_cases a3:k=0
 ·subst a3;by_cases a2:k'=4
  ·subst a2;simp[ayb,xR,h1,aq,aE.a]
  simp[ayb,xR,h1,aq,aE.a,al a2,a2]
 by_cases a2:k'=4
 ·subst a2;simp[ayb,xR,h1,aq,aE.a,al a1,a1,al a3,a3]
 by_cases a4:k'=0
 ·subst a4;simp[ayb,xR,h1,aq,aE.a,al a1,a1,al a3,a3]
 by_cases a5:k=k'
 ·subst a5;simp[ayb,xR,h1,al a1,a1,al a3,a3,h2,hp _ _,hf,bG,aE.a]
 simp[ayb,xR,h1,aq,aE.a,al a1,a1,al a3,a3,al a2,a2,al a4,a4,aR a5,a5]
@[simp] theorem adc(c:Int):az I.qht [ac c]=some (.bool (c==0)):=by
 rw[am ahm rfl];simp[aBc,ahL]
@[simp] theorem ag0(c:Int):az I.qhw [ac c]=some (.bool (decide (c<0))):=by
 rw[am ajB rfl];simp[aBq,ajF]
abbrev nR:=mR (fun c=>c==0)
abbrev kF:=mR (fun c=>decide (c<0))
theorem U9(a b:aE):az I.qhs [a.a,b.a]=some (.tup [(nR a b).1.a,ac (nR a b).2]):=by
 rw[am ajx rfl];have h:=adK I.qht ans (fun c=>c==0) a b adc;simp only[aE.a]at *;simp[aAw,aiK,h]
theorem RH(a b:aE):az I.qhv [a.a,b.a]=some (.tup [(kF a b).1.a,ac (kF a b).2]):=by
 rw[am aiw rfl];have h:=adK I.qhw aqg (fun c=>decide (c<0)) a b ag0;simp only[aE.a]at *;simp[aAU,aiP,h]
def gn(v:aE):Int:=if v.k=0 then 1 else IntKind.i64.wrap (2*v.n)
@[simp] theorem ari(k n u:Int)(s:List UInt8):az I.qih [.agg [ac k,ac n,.int .u64 u,.str s]]=some (ac (gn ⟨k,n,u,s⟩)):=by
 rw[am aoA rfl];unfold gn;by_cases h:k=0
 ·subst h;simp[azx,ab0]
 simp[azx,ab0,al h,h]
theorem FX{v:aE}(ho:dC v=true)(hk:¬1<v.k):gn v=0∨gn v=1∨gn v=2:=by
 obtain⟨k,n,u,s⟩:=v;unfold dC pu at ho;unfold gn;simp only at *;by_cases h1:k=1
 ·subst h1;by_cases h2:n≠0∧n≠1
  ·rw[if_pos rfl,if_pos h2]at ho;simp at ho
  have:n=0∨n=1:=by omega
  rcases this with rfl|rfl
  ·left;rfl
  right;right;rfl
 by_cases h0:k=0
 ·simp[h0]
 rw[if_neg h1,if_neg (by omega),if_neg h0,if_neg (by omega),if_neg (by omega)]at ho;simp[h0]at ho
def ku(n:Int):aE:=if n=0 then bG false else if n=1 then aq else bG true
def eS(to:Int→Int→Int)(v w:aE):aE×Int:=
 if (dC v&&dC w)=false then (aq,120) else if 1<v.k∨1<w.k then (aq,2) else (ku (to (gn v) (gn w)),0)
def kP(v:aE):aE×Int:=if dC v=false then (aq,120) else if 1<v.k then (aq,2) else (ku (2-gn v),0)
@[simp] theorem akc(b:Bool)(n m:Int):az I.qho [.wh b [ac n,ac m]]=some (ac (min n m)):=by
 rw[am ajh rfl];simp[aAz,ag9];split<;>omega
@[simp] theorem aoH(b:Bool)(n m:Int):az I.qib [.wh b [ac n,ac m]]=some (ac (max n m)):=by
 rw[am ahS rfl];simp[aBa,aix];split<;>omega
@[simp] theorem arU(b:Bool)(n:Int):az I.qhy [.wh b [ac n]]=some (ac (IntKind.i64.wrap (2-n))):=by
 rw[am aoj rfl];simp[aA9,ajv]
theorem Q4(f:Nat)(hp:aC f)(to:Int→Int→Int)(b:Bool)(v w:aE)(hf:∀b n m,az f [.wh b [ac n,ac m]]=some (ac (to n m)))
  (ht:∀n m,(n=0∨n=1∨n=2)→(m=0∨m=1∨m=2)→to n m=0∨to n m=1∨to n m=2) :
  az I.qif [.fn f [] [],.wh b [v.a,w.a]]=some (.tup [(eS to v w).1.a,ac (eS to v w).2]):=by
 rw[am aiz rfl];have h1:=fun b=>Pt b v w;unfold eS;cases ho:(dC v&&dC w)
 ·rw[ho]at h1;simp only[aE.a,aq]at *;simp[ayg,D9,h1]
 rw[ho]at h1;simp only[acz]at ho;simp only[asf,ali];by_cases a1:1<v.k
 ·obtain⟨k,n,u,s⟩:=v;simp only[aE.a,aq]at *;simp[ayg,D9,h1,xA,bS,ar,IntKind.wrap,IntKind.bits,IntKind.signed,a1]
 have t1:=FX ho.1 a1;by_cases a2:1<w.k
 ·obtain⟨k,n,u,s⟩:=v;obtain⟨k',n',u',s'⟩:=w;simp only[aE.a,aq]at *;simp[ayg,D9,h1,xA,bS,ar,IntKind.wrap,IntKind.bits,IntKind.signed,a1,a2,append,most,ap]
 have t2:=FX ho.2 a2;have t3:=ht _ _ t1 t2;obtain⟨k,n,u,s⟩:=v;obtain⟨k',n',u',s'⟩:=w;simp only[aE.a,aq]at *;generalize hA:gn ⟨k,n,u,s⟩=A at *;generalize hB:gn ⟨k',n',u',s'⟩=B at *;have hf':=hf false A B;have hf2:=hf true A B;rcases t3 with t3|t3|t3<;>rw[t3]at hf' hf2 ⊢ <;>
  simp[ayg,D9,h1,xA,bS,ar,IntKind.wrap,IntKind.bits,IntKind.signed,a1,a2,append,most,ap,hA,hB,hp _ _,hf',hf2,ku,bG,aq]
theorem aiF(v:aE):az I.qhx [v.a]=some (.tup [(kP v).1.a,ac (kP v).2]):=by
 have key:∀b,az I.qif [.fn I.qhy [] [],.wh b [v.a]]=some (.tup [(kP v).1.a,ac (kP v).2]):=fun b=>by
  rw[am aiz rfl];have h1:=fun b=>aaH b v;unfold kP;cases ho:dC v
  ·rw[ho]at h1;simp only[aE.a,aq]at *;simp[ayg,D9,h1]
  rw[ho]at h1;simp only[asf,ali];by_cases a1:1<v.k
  ·obtain⟨k,n,u,s⟩:=v;simp only[aE.a,aq]at *;simp[ayg,D9,h1,xA,bS,ar,IntKind.wrap,IntKind.bits,IntKind.signed,a1]
  have t1:=FX ho a1;obtain⟨k,n,u,s⟩:=v;simp only[aE.a,aq]at *;generalize hA:gn ⟨k,n,u,s⟩=A at *;rcases t1 with rfl|rfl|rfl <;>
   simp[ayg,D9,h1,xA,bS,ar,IntKind.wrap,IntKind.bits,IntKind.signed,a1,append,most,ap,hA,ku,bG,aq]
 rw[am ajz rfl];simp only[aE.a]at *;simp[aAa,aiQ,key]
theorem ano(v w:aE):az I.qhn [v.a,w.a]=some (.tup [(eS min v w).1.a,ac (eS min v w).2]):=by
 rw[am aiN rfl];have h:=fun b=>Q4 I.qho amu min b v w akc (fun n m h1 h2=>by omega);simp only[aE.a]at *;simp[az7,ahK,h]
theorem asP(v w:aE):az I.qia [v.a,w.a]=some (.tup [(eS max v w).1.a,ac (eS max v w).2]):=by
 rw[am aht rfl];have h:=fun b=>Q4 I.qib amx max b v w aoH (fun n m h1 h2=>by omega);simp only[aE.a]at *;simp[aAY,ajI,h]
abbrev Me(f:Nat):aa:=.fn f [] []
abbrev XT(f:Nat)(x:aa):aa:=.fn f [] [.cptr false x 0]
def Pc:List (aa×aa):=
 [(ac 4,XT I.qew (Me I.qj)),(ac 5,XT I.qew (Me I.qhx)),(ac 6,XT I.qfb (.bool true)),(ac 7,XT I.qfb (.bool false)),
  (ac 12,Me I.qa),(ac 13,Me I.qk),(ac 14,Me I.qh),(ac 15,Me I.qd),(ac 16,Me I.qhs),(ac 17,XT I.qez (Me I.qhs)),
  (ac 18,Me I.qhv),(ac 20,XT I.qfi (Me I.qhv)),(ac 19,XT I.qez (XT I.qfi (Me I.qhv))),(ac 21,XT I.qez (Me I.qhv)),
  (ac 22,Me I.qhn),(ac 23,Me I.qia)]
theorem alC:az I.qeu []=some (.imap false Pc):=fq (n:=40) (show bJ code 40 I.qeu [] []=some (.imap false Pc,[]) by kernel_rfl)
end Go.AM
namespace Go.AM
open P
set_option maxHeartbeats 2000000
set_option maxRecDepth 4000
def asN(two:Bool)(p:Int×Int):List aa:=if two then [vY p.1,vY p.2] else [vY p.1]
def aiM(two:Bool)(r:List aa):Prop:=∃p:Int×Int,(two=false→p.2=0)∧r=asN two p
theorem aiM.ok{two:Bool}{r:List aa}(h:aiM two r):Pv r:=by
 obtain⟨p,_,rfl⟩:=h;cases two
 ·exact afj p.1
 exact af0 p.1 p.2
theorem wv{α:Type}{F:Nat→α→Prop}(hm:∀n m x,n≤m→F n x→F m x):∀l:List α,(∀x∈l,∃n,F n x)→∃n,∀x∈l,F n x
 |[],_=>⟨0,fun _ h=>by cases h⟩
 |x::l,h=>by
  obtain⟨n,hn⟩:=h x (aoQ ..);obtain⟨m,hm'⟩:=wv hm l fun y hy=>h y (aer _ hy);refine⟨max n m,fun y hy=>?_⟩;rcases arm.1 hy with rfl|hy
  ·exact hm _ _ _ (avV ..) hn
  exact hm _ _ _ (avP ..) (hm' y hy)
end Go.AM
namespace Go.AM
open P
set_option maxHeartbeats 4000000
set_option maxRecDepth 4000
theorem Aj{α:Type}{le:aa→aa→Bool}{c:α→α→Int}{f:α→aa}{a:α}:∀{l:List α},(∀b∈l,le (f a) (f b)=decide (c a b≤0))→er le (f a) (l.map f)=(NN c a l).map f
 |[],_=>rfl
 |b::r,h=>by
  have h1:=h b (aoQ ..);simp only[af6,er,NN,h1];by_cases hc:c a b≤0
  ·simp[hc]
  simp[hc,Aj fun x hx=>h x (aer _ hx)]
theorem ze{α:Type}{le:aa→aa→Bool}{c:α→α→Int}{f:α→aa}:∀{l:List α},(∀a∈l,∀b∈l,le (f a) (f b)=decide (c a b≤0))→dt le (l.map f)=(df c l).map f
 |[],_=>rfl
 |a::r,h=>by
  simp only[af6,dt,df];rw[ze fun x hx y hy=>h x (aer _ hx) y (aer _ hy)];exact Aj fun b hb=>h a (aoQ ..) b (aer _ ((dX r).mem_iff.1 hb))
theorem Fy(rs:av):ce false rs=ed (rs.map bZ):=by simp[ce,ed,auK]
theorem Tm{rs:av}{k:Nat}(h:k<rs.length):ce false (rs.take (k+1))=ce false (rs.take k)++[.wh false (bZ rs[k])]:=by
 unfold ce;rw[am3 h,arz];rfl
theorem QM(rs:av)(top:Bool)(base:Nat)(σ:ah)(n:Nat):(ce false rs).map (fz false top base σ (n+1))=ce false rs:=by
 rw[Fy];exact uW _ top base σ n
theorem Le(rs:av)(base:Nat)(σ:ah):(ce false rs).map (aZ base σ)=ce false rs:=by
 rw[Fy];exact tj _ base σ
theorem ack(rs:av)(base:Nat)(σ:ah):(ce false rs).map (aw∘aZ base σ)=List.replicate rs.length 1:=by
 rw[Fy,Ww];simp
theorem Xx(rs:av)(fl top:Bool)(base:Nat)(σ:ah)(n:Nat):(∀a,a∈ce false rs→aw (fz fl top base σ (n+1) a)=aw a)↔True:=
 ⟨fun _=>trivial,fun _ a ha=>by
  obtain⟨r,_,rfl⟩:=afJ.1 ha;simp⟩
@[simp] theorem afN(rs:av):(ce false rs).map aw=List.replicate rs.length 1:=by
 rw[Fy,BD];simp
theorem afd(r:aJ)(fl top:Bool)(base:Nat)(σ:ah)(n:Nat):(∀a,a∈bZ r→aw (fz fl top base σ (n+2) a)=aw a)↔True:=
 ⟨fun _=>trivial,fun _ a ha=>by
  obtain⟨v,_,rfl⟩:=afJ.1 ha;simp⟩
end Go.AM
namespace Go.AM
open P
set_option maxHeartbeats 4000000
set_option maxRecDepth 4000
theorem il{α:Type}(c:α→α→Int)(l:List α):(df c l).length=l.length:=(dX l).length_eq
end Go.AM
namespace Go.AM
open P
set_option maxHeartbeats 4000000
set_option maxRecDepth 4000
def A2(res:List Q2)(r:Option (Ex×St)):Option (aa×ah):=r.bind fun r=>match r.1 with
 |.ext _=>none
 |_=>(results r.2 res).map fun v=>(v,r.2.st)
@[simp] theorem afZ(res:List Q2)(s:St):A2 res (some (.ret,s))=(results s res).map fun v=>(v,s.st):=rfl
@[simp] theorem agI(res:List Q2)(s:St):A2 res (some (.nrm,s))=(results s res).map fun v=>(v,s.st):=rfl
theorem bR{f:Nat}{g:aD}(h:code.fns f=.fn g)(hm:g.mode=.keep)(args:List aa)(σ:ah) :
  bK code f args σ=A2 g.res (run code g.body ⟨args.take g.np++List.replicate (g.nenv-g.np) .any,σ⟩):=by
 rw[vg good h];have he:enter g args σ=⟨args.take g.np++List.replicate (g.nenv-g.np) .any,σ⟩:=by unfold enter;rw[hm]
 rw[he];unfold A2;congr 1;funext r;obtain⟨e,s⟩:=r;unfold lP fo;rw[hm];cases e<;>rfl
theorem J9(r:aJ)(k:Nat):(bZ r).take k=bZ (r.take k):=by simp[bZ,auc]
theorem GO(r:aJ):∀a,a∈bZ r→aw a=4:=fun a ha=>by
 obtain⟨o,_,rfl⟩:=afJ.1 ha;rfl
theorem QV(b:Bool)(r:aJ):az I.qaa [.wh b (bZ r),.int .i64 17]=some (.frs 4 (bZ (r.take 17))):=by
 rw[am amz rfl];by_cases h:17<r.length
 ·have hi:((17:Int)<r.length):=by omega
  have h1:min 17 r.length=17:=by omega
  have h2:r.take 17≠[]:=auP (by simp;omega);have h3:bZ (r.take 17)≠[]:=auP (by simp;omega);have h4:(17:Nat)≤r.length:=by omega
  have h5:(bZ (r.take 17)).take 17=bZ (r.take 17):=aea (by simp;omega);have h7:=fun a ha=>GO r a ha;have h8:=fun a ha=>GO (r.take 17) a ha;have hf:=C1 (r.take 17) 0 1 [.arr 4 1 (bZ (r.take 17))] rfl;rw[show (r.take 17).length=17 by simp;omega]at hf;simp[azp,UM,hi,append,J9,h1,h2,h3,h4,h5,if_pos h7,if_pos h8,most,hf]
 have hi:¬((17:Int)<r.length):=by omega
 have h0:r.take 17=r:=aea (by omega);have h6:r.take r.length=r:=aea (by omega);have h7:=fun a ha=>GO r a ha;rw[h0];by_cases he:r=[]
 ·subst he;simp[azp,UM,append,bZ,ig]
 have h3:bZ r≠[]:=by simpa [bZ] using he
 have h5:(bZ r).take r.length=bZ r:=aea (by simp);have h9:r.length≤most:=by unfold most;omega
 have hf:=C1 r 0 1 [.arr 4 1 (bZ r)] rfl;simp[azp,UM,hi,append,J9,he,h3,h5,h6,if_pos h7,h9,hf]
end Go.AM
namespace Go.AM
open P
set_option maxHeartbeats 4000000
set_option maxRecDepth 8000
theorem kG{α:Type}{f:α→aa}{m:Nat}{g:Bool}[Nc f m g][Fx f](l:List α)(id ep:Nat)(σ:ah)(h:σ[id]?=some (.arr m ep (l.map f))):ig m σ (.sl id ep 0 l.length)=.frs m (l.map f):=by
 have h9:(l.map f).take l.length=l.map f:=aea (by simp);have h10:∀σ',(l.map f).map (jj σ')=l.map f:=fun σ'=>by
  rw[aqS];exact aj6 fun y _=>Fx.fx false false 0 σ' 17 y
 simp only[ig,h,h9,h10,JF];simp
theorem Ot{n:Int}(h1:-9223372036854775808≤n)(h2:n<9223372036854775808):IntKind.i64.wrap n=n:=bl ⟨h1,h2⟩
abbrev Dy(f:aa):Prop:=∀σ,fz true false 0 σ 20 f=f
def YW{α:Type}(p:α→Bool)(l:List α):Int:=if l.any p then ((l.findIdx p:Nat):Int) else -1
theorem I9{α:Type}{enc:α→aa}{b:Bool}{l:List α}{f:aa}{p:α→Bool}(hn:l.length≤most)(he:∀y,aw (enc y)=1∧isAgg (enc y)=false)(hs:Dy f)
  (h:∀y∈l,du code f [enc y] []=some (.bool (p y),[])):az I.qhi [.wh b (l.map enc),f]=some (ac (YW p l)):=by
 rw[am anH rfl];have hs0:=hs [];have hstep:∀k,k<l.length→∀y,l[k]?=some y→p y=false→bM 0 [2,3,6,7] oH (run code oH ⟨[.wh b (l.map enc),f,.any,.any,ac l.length,ac k,.any,.any],[]⟩) =
   aM code 0 [2,3,6,7] oH ⟨[.wh b (l.map enc),f,.any,.any,ac l.length,ac (k+1:Nat),.any,.any],[]⟩:=fun k hk y hy hp=>by
  have h2:=he y;have h3:=h y (aeb hy);rw[hp]at h3;have yB:((k:Int)<(l.length:Int)):=by omega
  simp[oH,hy,h2,h3,yB,aA hk hn,aH]
 unfold YW;by_cases ha:l.any p=true
 ·have yB:=atp (arL.1 ha);have hp:p l[l.findIdx p]=true:=at3 (w:=yB);have hloop:=bU (base:=0) (clr:=[2,3,6,7]) (b:=oH) (fun k=>⟨[.wh b (l.map enc),f,.any,.any,ac l.length,ac k,.any,.any],[]⟩) (l.findIdx p)
   (.ret,⟨[.wh b (l.map enc),f,ac (l.findIdx p),ac (l.findIdx p),ac l.length,ac (l.findIdx p),.bool true,.bool true],[]⟩)
   (fun k hk=>hstep k (by omega) _ (ad3 (by omega)) (by simpa using auh hk))
   (by
    have h1:l[l.findIdx p]?=some l[l.findIdx p]:=ad3 yB;have h2:=he l[l.findIdx p];have h3:=h _ (agL yB);rw[hp]at h3;have hlt':((l.findIdx p:Int)<(l.length:Int)):=by omega
    simp[oH,h1,h2,h3,hlt'])
  simp at hloop;simp[azU,acv,hs0,hloop,ha]
 have hall:∀y∈l,p y=false:=fun y hy=>by simpa using arG.1 (auw _▸ha) y hy
 have hloop:=bU (base:=0) (clr:=[2,3,6,7]) (b:=oH) (fun k=>⟨[.wh b (l.map enc),f,.any,.any,ac l.length,ac k,.any,.any],[]⟩) l.length
  (.ext 0,⟨[.wh b (l.map enc),f,.any,.any,ac l.length,ac l.length,.bool false,.any],[]⟩)
  (fun k hk=>hstep k hk _ (ad3 hk) (hall _ (agL hk)))
  (by simp[oH])
 simp at hloop;simp[azU,acv,hs0,hloop,ha]
theorem lZ{α:Type}{enc:α→aa}{b:Bool}{l:List α}{f:aa}{p:α→Bool}(hn:l.length≤most)(he:∀y,aw (enc y)=1∧isAgg (enc y)=false)(hs:Dy f)
  (h:∀y∈l,du code f [enc y] []=some (.bool (p y),[])):az I.qhb [.wh b (l.map enc),f]=some (.bool (l.any p)):=by
 rw[am anv rfl];have h:=I9 (b:=b) hn he hs h;have hs0:=hs [];unfold YW at h;cases ha:l.any p<;>rw[ha]at h<;>simp[azX,aiL,hs0,h]
theorem lR{α:Type}{enc:α→aa}{b:Bool}{l:List α}{f:aa}{p:α→Bool}(hn:l.length≤most)(he:∀y,aw (enc y)=1∧isAgg (enc y)=false)(hs:Dy f)
  (h:∀y∈l,du code f [enc y] []=some (.bool (p y),[])):az I.qhf [.wh b (l.map enc),f]=some (ac (YW p l)):=by
 rw[am ahM rfl];have hs0:=hs [];have hstep:∀k,k<l.length→∀y,l[k]?=some y→p y=false→bM 0 [2,3,6,7] gl (run code gl ⟨[.wh b (l.map enc),f,.any,.any,ac l.length,ac k,.any,.any],[]⟩) =
   aM code 0 [2,3,6,7] gl ⟨[.wh b (l.map enc),f,.any,.any,ac l.length,ac (k+1:Nat),.any,.any],[]⟩:=fun k hk y hy hp=>by
  have h2:=he y;have h3:=h y (aeb hy);rw[hp]at h3;have yB:((k:Int)<(l.length:Int)):=by omega
  simp[gl,hy,h2,h3,yB,aA hk hn,aH]
 unfold YW;by_cases ha:l.any p=true
 ·have yB:=atp (arL.1 ha);have hp:p l[l.findIdx p]=true:=at3 (w:=yB);have hloop:=bU (base:=0) (clr:=[2,3,6,7]) (b:=gl) (fun k=>⟨[.wh b (l.map enc),f,.any,.any,ac l.length,ac k,.any,.any],[]⟩) (l.findIdx p)
   (.ret,⟨[.wh b (l.map enc),f,ac (l.findIdx p),ac (l.findIdx p),ac l.length,ac (l.findIdx p),.bool true,.bool true],[]⟩)
   (fun k hk=>hstep k (by omega) _ (ad3 (by omega)) (by simpa using auh hk))
   (by
    have h1:l[l.findIdx p]?=some l[l.findIdx p]:=ad3 yB;have h2:=he l[l.findIdx p];have h3:=h _ (agL yB);rw[hp]at h3;have hlt':((l.findIdx p:Int)<(l.length:Int)):=by omega
    simp[gl,h1,h2,h3,hlt'])
  simp at hloop;simp[ayP,Pj,hs0,hloop,ha]
 have hall:∀y∈l,p y=false:=fun y hy=>by simpa using arG.1 (auw _▸ha) y hy
 have hloop:=bU (base:=0) (clr:=[2,3,6,7]) (b:=gl) (fun k=>⟨[.wh b (l.map enc),f,.any,.any,ac l.length,ac k,.any,.any],[]⟩) l.length
  (.ext 0,⟨[.wh b (l.map enc),f,.any,.any,ac l.length,ac l.length,.bool false,.any],[]⟩)
  (fun k hk=>hstep k hk _ (ad3 hk) (hall _ (agL hk)))
  (by simp[gl])
 simp at hloop;simp[ayP,Pj,hs0,hloop,ha]
theorem rC{α:Type}{enc:α→aa}{b:Bool}{l:List α}{f:aa}{p:α→Bool}(hn:l.length≤most)(he:∀y,aw (enc y)=1∧isAgg (enc y)=false)(hs:Dy f)
  (h:∀y∈l,du code f [enc y] []=some (.bool (p y),[])):az I.qgy [.wh b (l.map enc),f]=some (.bool (l.any p)):=by
 rw[am ajf rfl];have h:=lR (b:=b) hn he hs h;have hs0:=hs [];unfold YW at h;cases ha:l.any p<;>rw[ha]at h<;>simp[azJ,ad0,hs0,h]
theorem pY{α:Type}{enc:α→aa}{b:Bool}{l:List α}{f:aa}{p:α→Bool}(hn:l.length≤most)(he:∀y,aw (enc y)=4∧isAgg (enc y)=true)(hs:Dy f)
  (h:∀y∈l,du code f [enc y] []=some (.bool (p y),[])):az I.qhh [.wh b (l.map enc),f]=some (ac (YW p l)):=by
 rw[am aqy rfl];have hs0:=hs [];have hstep:∀k,k<l.length→∀y,l[k]?=some y→p y=false→bM 0 [2,3,6,7] ov (run code ov ⟨[.wh b (l.map enc),f,.any,.any,ac l.length,ac k,.any,.any],[]⟩) =
   aM code 0 [2,3,6,7] ov ⟨[.wh b (l.map enc),f,.any,.any,ac l.length,ac (k+1:Nat),.any,.any],[]⟩:=fun k hk y hy hp=>by
  have h2:=he y;have h3:=h y (aeb hy);rw[hp]at h3;have yB:((k:Int)<(l.length:Int)):=by omega
  simp[ov,hy,h2,h3,yB,aA hk hn,aH]
 unfold YW;by_cases ha:l.any p=true
 ·have yB:=atp (arL.1 ha);have hp:p l[l.findIdx p]=true:=at3 (w:=yB);have hloop:=bU (base:=0) (clr:=[2,3,6,7]) (b:=ov) (fun k=>⟨[.wh b (l.map enc),f,.any,.any,ac l.length,ac k,.any,.any],[]⟩) (l.findIdx p)
   (.ret,⟨[.wh b (l.map enc),f,ac (l.findIdx p),ac (l.findIdx p),ac l.length,ac (l.findIdx p),.bool true,.bool true],[]⟩)
   (fun k hk=>hstep k (by omega) _ (ad3 (by omega)) (by simpa using auh hk))
   (by
    have h1:l[l.findIdx p]?=some l[l.findIdx p]:=ad3 yB;have h2:=he l[l.findIdx p];have h3:=h _ (agL yB);rw[hp]at h3;have hlt':((l.findIdx p:Int)<(l.length:Int)):=by omega
    simp[ov,h1,h2,h3,hlt'])
  simp at hloop;simp[azu,ab5,hs0,hloop,ha]
 have hall:∀y∈l,p y=false:=fun y hy=>by simpa using arG.1 (auw _▸ha) y hy
 have hloop:=bU (base:=0) (clr:=[2,3,6,7]) (b:=ov) (fun k=>⟨[.wh b (l.map enc),f,.any,.any,ac l.length,ac k,.any,.any],[]⟩) l.length
  (.ext 0,⟨[.wh b (l.map enc),f,.any,.any,ac l.length,ac l.length,.bool false,.any],[]⟩)
  (fun k hk=>hstep k hk _ (ad3 hk) (hall _ (agL hk)))
  (by simp[ov])
 simp at hloop;simp[azu,ab5,hs0,hloop,ha]
theorem nO{α:Type}{enc:α→aa}{b:Bool}{l:List α}{f:aa}{p:α→Bool}(hn:l.length≤most)(he:∀y,aw (enc y)=4∧isAgg (enc y)=true)(hs:Dy f)
  (h:∀y∈l,du code f [enc y] []=some (.bool (p y),[])):az I.qha [.wh b (l.map enc),f]=some (.bool (l.any p)):=by
 rw[am aq5 rfl];have h:=pY (b:=b) hn he hs h;have hs0:=hs [];unfold YW at h;cases ha:l.any p<;>rw[ha]at h<;>simp[aAV,ajb,hs0,h]
theorem yi{α:Type}{enc:α→aa}[Nc enc 1 false][Fx enc](b:Bool)(l:List α)(hn:l.length≤most):az I.qgv [.wh b (l.map enc)]=some (.frs 1 (l.map enc)):=by
 cases l with
 |nil=>cases b<;>exact fq (n:=20) (σ:=[]) (by kernel_rfl)
 |cons v r=>
  have hall:=Ol (f:=enc) (v::r);have hl:((v::r).map enc).length=r.length+1:=by simp
  have hne:eZ [] (.wh b ((v::r).map enc))=false:=rfl;unfold az;rw[gm good aaf,hne];simp only[ai1,ali];unfold g9;have hn':r.length+1≤most:=by simpa using hn
  have hnil:pw false [] (.wh b ((v::r).map enc))=some (.bool false):=rfl;have hf:=kG (f:=enc) (v::r) 0 0 [.arr 1 0 ((v::r).map enc)] rfl;have hx:(v::r).map enc≠[]:=by simp
  have hy:∀x,x∈(v::r).map enc→aw x=1:=fun x hx=>by simpa using afz.1 hall x hx
  have ht:((v::r).map enc).take (r.length+1)=(v::r).map enc:=aea (by simp);simp only[aiG]at hf;generalize (v::r).map enc=xs at *;simp[aAO,aiE,enter,lP,append,hall,hl,hn',-pw,hnil,hx];rw[if_pos hy];simp[lP];exact hf
@[simp] theorem G3{α:Type}{enc:α→aa}[Nc enc 1 false][Fx enc](b:Bool)(l:List α)(hn:l.length≤most)(σ:ah):bK code I.qgv [.wh b (l.map enc)] σ=some (.frs 1 (l.map enc),σ):=by
 rw[xh aaf rfl,yi b l hn];rfl
theorem uK{α:Type}{enc:α→aa}[Nc enc 1 false][Fx enc](b:Bool)(l:List α)(hn:l.length≤most):az I.qgs [.wh b (l.map enc)]=some (.frs 1 (l.map enc)):=by
 cases l with
 |nil=>cases b<;>exact fq (n:=20) (σ:=[]) (by kernel_rfl)
 |cons v r=>
  have hall:=Ol (f:=enc) (v::r);have hl:((v::r).map enc).length=r.length+1:=by simp
  have hne:eZ [] (.wh b ((v::r).map enc))=false:=rfl;unfold az;rw[gm good aiA,hne];simp only[ai1,ali];unfold g9;have hn':r.length+1≤most:=by simpa using hn
  have hnil:pw false [] (.wh b ((v::r).map enc))=some (.bool false):=rfl;have hf:=kG (f:=enc) (v::r) 0 0 [.arr 1 0 ((v::r).map enc)] rfl;have hx:(v::r).map enc≠[]:=by simp
  have hy:∀x,x∈(v::r).map enc→aw x=1:=fun x hx=>by simpa using afz.1 hall x hx
  have ht:((v::r).map enc).take (r.length+1)=(v::r).map enc:=aea (by simp);simp only[aiG]at hf;generalize (v::r).map enc=xs at *;simp[aAu,ag8,enter,lP,append,hall,hl,hn',-pw,hnil,hx];rw[if_pos hy];simp[lP];exact hf
theorem sj{α:Type}{enc:α→aa}[Nc enc 4 true][Fx enc](b:Bool)(l:List α)(hn:l.length≤most):az I.qgt [.wh b (l.map enc)]=some (.frs 4 (l.map enc)):=by
 cases l with
 |nil=>cases b<;>exact fq (n:=20) (σ:=[]) (by kernel_rfl)
 |cons v r=>
  have hall:=Ol (f:=enc) (v::r);have hl:((v::r).map enc).length=r.length+1:=by simp
  have hne:eZ [] (.wh b ((v::r).map enc))=false:=rfl;unfold az;rw[gm good Vw,hne];simp only[ai1,ali];unfold g9;have hn':r.length+1≤most:=by simpa using hn
  have hnil:pw false [] (.wh b ((v::r).map enc))=some (.bool false):=rfl;have hf:=kG (f:=enc) (v::r) 0 0 [.arr 4 0 ((v::r).map enc)] rfl;have hx:(v::r).map enc≠[]:=by simp
  have hy:∀x,x∈(v::r).map enc→aw x=4:=fun x hx=>by simpa using afz.1 hall x hx
  have ht:((v::r).map enc).take (r.length+1)=(v::r).map enc:=aea (by simp);simp only[aiG]at hf;generalize (v::r).map enc=xs at *;simp[azV,ZY,enter,lP,append,hall,hl,hn',-pw,hnil,hx];rw[if_pos hy];simp[lP];exact hf
theorem p8{α:Type}{enc:α→aa}[Nc enc 4 true][Fx enc](b:Bool)(l:List α)(hn:l.length≤most):az I.qgu [.wh b (l.map enc)]=some (.frs 4 (l.map enc)):=by
 cases l with
 |nil=>cases b<;>exact fq (n:=20) (σ:=[]) (by kernel_rfl)
 |cons v r=>
  have hall:=Ol (f:=enc) (v::r);have hl:((v::r).map enc).length=r.length+1:=by simp
  have hne:eZ [] (.wh b ((v::r).map enc))=false:=rfl;unfold az;rw[gm good aiV,hne];simp only[ai1,ali];unfold g9;have hn':r.length+1≤most:=by simpa using hn
  have hnil:pw false [] (.wh b ((v::r).map enc))=some (.bool false):=rfl;have hf:=kG (f:=enc) (v::r) 0 0 [.arr 4 0 ((v::r).map enc)] rfl;have hx:(v::r).map enc≠[]:=by simp
  have hy:∀x,x∈(v::r).map enc→aw x=4:=fun x hx=>by simpa using afz.1 hall x hx
  have ht:((v::r).map enc).take (r.length+1)=(v::r).map enc:=aea (by simp);simp only[aiG]at hf;generalize (v::r).map enc=xs at *;simp[az3,aiI,enter,lP,append,hall,hl,hn',-pw,hnil,hx];rw[if_pos hy];simp[lP];exact hf
end Go.AM
namespace Go.AM
open P
set_option maxHeartbeats 4000000
set_option maxRecDepth 8000
abbrev bd(l:List Int):List aa:=l.map (.int .i64)
def cj(l:List Int):List Int:=l.foldl (fun acc x=>if acc.getLast?=some x then acc else acc++[x]) []
theorem my(l:List Int)(x:Int):cj (l++[x])=if (cj l).getLast?=some x then cj l else cj l++[x]:=by
 unfold cj;simp[au9]
theorem Ik{α:Type}{p:List α→Prop}(l:List α)(h0:p [])(h1:∀l x,p l→p (l++[x])):p l:=by
 have:∀m:List α,p m.reverse:=fun m=>by
  induction m with
  |nil=>simpa using h0
  |cons a m ih=>rw[List.reverse_cons];exact h1 _ _ ih
 simpa using this l.reverse
theorem xY(l:List Int):(cj l).getLast?=l.getLast?:=by
 refine Ik (p:=fun l=>(cj l).getLast?=l.getLast?) l rfl fun l x ih=>?_;rw[my];split
 ·rename_i h;rw[h];simp
 simp
theorem Af(l:List Int)(x:Int):x∈cj l↔x∈l:=by
 refine Ik (p:=fun l=>x∈cj l↔x∈l) l (by simp[cj]) fun l y ih=>?_;rw[my];split
 ·rename_i h;rw[ih];constructor
  ·intro h';simp[h']
  intro h';rcases aoS.1 h' with h'|h'
  ·exact h'
  simp at h';subst h';rw[xY]at h;exact List.mem_of_getLast? h
 simp[ih]
theorem uP(l:List Int):(cj l).length≤l.length:=by
 refine Ik (p:=fun l=>(cj l).length≤l.length) l (aes _) fun l y ih=>?_;rw[my];split<;>simp<;>omega
theorem rD{l:List Int}{j:Nat}(hj:j<l.length)(h0:0<j):cj (l.take (j+1))=if l[j-1]=l[j] then cj (l.take j) else cj (l.take j)++[l[j]]:=by
 rw[am3 hj,my,xY];have:(l.take j).getLast?=some l[j-1]:=by
  rw[avx];simp[auj];have:min j l.length=j:=by omega
  rw[this];simp[show j-1<j by omega,show j-1<l.length by omega]
 rw[this];simp
theorem agh{σ:ah}{id:Nat}{o o':Obj}(h:σ[id]?=some o):(σ.set id o')[id]?=some o':=by
 have:=(aaN.1 h).1;simp[this]
def ir(l:List Int)(k0:Nat):Nat→List Int×Nat
 |0=>(l,k0)
 |m+1=>let p:=ir l k0 m
  if l.getD (k0+m+1) 0=l.getD (k0+m) 0 then p else (p.1.set p.2 (l.getD (k0+m+1) 0),p.2+1)
theorem Az{l:List Int}{k0:Nat}(h0:0<k0)(hk:k0<l.length)(hd:l[k0-1]=l[k0])(hp:cj (l.take k0)=l.take k0):∀m,k0+m<l.length →
  (ir l k0 m).1.length=l.length∧(ir l k0 m).2≤k0+m∧(ir l k0 m).1.take (ir l k0 m).2=cj (l.take (k0+m+1))∧(ir l k0 m).1.drop (k0+m)=l.drop (k0+m)
 |0,_=>by
  have:=rD (l:=l) hk h0;rw[if_pos hd,hp]at this;simp[ir,this]
 |m+1,hm=>by
  obtain⟨i1,i2,i3,i4⟩:=Az h0 hk hd hp m (by omega);have g1:l.getD (k0+m+1) 0=l[k0+m+1]:=by simp[ad4,show k0+m+1<l.length by omega]
  have g2:l.getD (k0+m) 0=l[k0+m]:=by simp[ad4,show k0+m<l.length by omega]
  have hc:=rD (l:=l) (j:=k0+m+1) (by omega) (by omega);have e1:(ir l k0 m).1.drop (k0+(m+1))=l.drop (k0+(m+1)):=by
   have:=congrArg (List.drop 1) i4;simpa [avE,arJ,auf,Nat.add_left_comm] using this
  unfold ir;simp only[g1,g2];by_cases hq:l[k0+m+1]=l[k0+m]
  ·rw[if_pos hq];rw[if_pos (by simpa using hq.symm)]at hc;exact⟨i1,by omega,by rw[i3];simpa [arJ] using hc.symm,e1⟩
  rw[if_neg hq];rw[if_neg (by simpa using fun e=>hq e.symm)]at hc;refine⟨by simp[i1],by simp;omega,?_,?_⟩
  ·have h2:(ir l k0 m).2<(ir l k0 m).1.length:=by omega
   simp only;rw[am3 (by simpa using h2),List.take_set_of_le (by omega),i3];simp only[auJ];simpa [arJ] using hc.symm
  simp only;rw[List.drop_set_of_lt (by omega)];exact e1
theorem pH{l:List Int}{k:Nat}(h:k<l.length):(bd l)[k]?=some (ac l[k]):=by simp[bd,h]
theorem adC(l:List Int)(k:Nat)(x:Int):(bd l).set k (ac x)=bd (l.set k x):=by simp[bd,List.map_set]
abbrev aaE(σ:ah)(id ep n k0:Nat)(l:List Int)(m:Nat):St:=
 ⟨[.sl id ep 0 n,.any,ac ((ir l k0 m).2:Nat),.sl id ep k0 (n-k0),ac ((m+1:Nat):Int),.bool false,.bool true,.bool true,.any,.any],σ.set id (.arr 1 ep (bd (ir l k0 m).1))⟩
theorem PW{σ:ah}{id ep k0:Nat}{l:List Int}(hσ:σ[id]?=some (.arr 1 ep (bd l)))(hn:l.length≤most)(h0:0<k0)(hk:k0<l.length)(hd:l[k0-1]=l[k0])(hp:cj (l.take k0)=l.take k0) :
  aM code σ.length [8,9] zV (aaE σ id ep l.length k0 l 0)=some (.ext 2,⟨[.sl id ep 0 l.length,.any,ac ((cj l).length:Nat),.sl id ep k0 (l.length-k0),ac ((l.length-k0:Nat):Int),.bool false,.bool true,.bool true,.bool false,.any],σ.set id (.arr 1 ep (bd (ir l k0 (l.length-k0-1)).1))⟩):=by
 refine bU (aaE σ id ep l.length k0 l) (l.length-k0-1) _ (fun m hm=>?_) ?_
 ·obtain⟨i1,i2,i3,i4⟩:=Az h0 hk hd hp m (by omega);have hs:ir l k0 (m+1)=if l.getD (k0+m+1) 0=l.getD (k0+m) 0 then ir l k0 m else ((ir l k0 m).1.set (ir l k0 m).2 (l.getD (k0+m+1) 0),(ir l k0 m).2+1):=rfl
  have g1:l.getD (k0+m+1) 0=l[k0+m+1]:=by simp[ad4,show k0+m+1<l.length by omega]
  have g2:l.getD (k0+m) 0=l[k0+m]:=by simp[ad4,show k0+m<l.length by omega]
  rw[g1,g2]at hs;clear g1 g2;unfold aaE;rcases hA:ir l k0 m with⟨A,k⟩;rw[hA]at i1 i2 i3 i4 hs;rw[hs];clear hs hA;simp only at i1 i2 i3 i4;have hg:=agh (o':=.arr 1 ep (bd A)) hσ;have a1:(bd A)[k0+(m+1)]?=some (ac l[k0+m+1]):=by
   have:A[k0+(m+1)]=l[k0+m+1]:=by
    have:=congrArg (fun x=>x[1]?) i4;simp only[avz]at this;rw[ad3 (by omega),ad3 (by omega)]at this;simpa [arJ] using this
   rw[pH (by omega),this]
  have a2:(bd A)[k0+m]?=some (ac l[k0+m]):=by
   have:A[k0+m]=l[k0+m]:=by
    have:=congrArg (fun x=>x[0]?) i4;simp only[avz]at this;rw[ad3 (by omega),ad3 (by omega)]at this;simpa [arJ] using this
   rw[pH (by omega),this]
  have yB:((m:Int)+1<((l.length-k0:Nat):Int)):=by omega
  have hn':l.length≤68719476736:=hn;have w1:=Ot (n:=(m:Int)) (by omega) (by omega);have w2:=Ot (n:=(m:Int)+1+1) (by omega) (by omega);have w3:=Ot (n:=(k:Int)+1) (by omega) (by omega);have c1:m+1<l.length-k0:=by omega
  have c2:m<l.length-k0:=by omega
  have c3:k<l.length:=by omega
  have cst:((m:Int)+1).toNat=m+1:=by omega
  have nn:(0:Int)≤(m:Int)+1:=by omega
  have c4:k<A.length:=by omega
  have hset:(bd A)[k]?=some (ac A[k]):=pH c4;by_cases hq:l[k0+m+1]=l[k0+m]
  ·rw[if_pos hq];simp[zV,yB,hg,a1,a2,c1,c2,w1,w2,w3,cst,nn,hq,aH,-List.getElem?_map]
  rw[if_neg hq];simp[zV,yB,hg,a1,a2,c1,c2,c3,w1,w2,w3,cst,nn,hq,aH,hset,aR hq,-List.getElem?_map]
 obtain⟨i1,i2,i3,i4⟩:=Az h0 hk hd hp (l.length-k0-1) (by omega);have hlen:(cj l).length=(ir l k0 (l.length-k0-1)).2:=by
  rw[show k0+(l.length-k0-1)+1=l.length by omega,atd]at i3;rw[←i3,al4];omega
 rw[hlen];unfold aaE;rcases hA:ir l k0 (l.length-k0-1) with⟨A,k⟩;have hg:=agh (o':=.arr 1 ep (bd A)) hσ;have e1:l.length-k0-1+1=l.length-k0:=by omega
 rw[e1];simp[zV,hg]
theorem C6{σ:ah}{id:Nat}{o:Obj}(h:σ[id]?=some o):σ.set id o=σ:=by
 refine aup fun i=>?_;by_cases hi:id=i
 ·subst hi;rw[agh h,h]
 rw[atz hi]
theorem tm{l:List Int}(h:∀k (_:0<k) (hk:k<l.length),l[k-1]≠l[k]):∀j,j≤l.length→cj (l.take j)=l.take j
 |0,_=>by simp[cj]
 |1,hj=>by
  match l,hj with
  |a::r,_=>simp[cj]
 |j+2,hj=>by
  rw[rD (j:=j+1) (by omega) (by omega),if_neg (h (j+1) (by omega) (by omega)),tm h (j+1) (by omega),←List.take_succ_eq_append_getElem]
abbrev Lq(σ:ah)(id ep n:Nat)(m:Nat):St:=⟨[.sl id ep 0 n,.any,ac ((m+1:Nat):Int),.any,.any,.bool false,.any,.any,.any,.any],σ⟩
theorem uF{σ:ah}{id ep:Nat}{l:List Int}(hσ:σ[id]?=some (.arr 1 ep (bd l)))(hn:l.length≤most)(m:Nat)(hm:m+1<l.length)(hd:l[m]≠l[m+1]) :
  bM σ.length [1,3,4,6,7,8,9] ot (run code ot (Lq σ id ep l.length m))=aM code σ.length [1,3,4,6,7,8,9] ot (Lq σ id ep l.length (m+1)):=by
 have hn':l.length≤68719476736:=hn;have w1:=Ot (n:=(m:Int)) (by omega) (by omega);have w2:=Ot (n:=(m:Int)+1+1) (by omega) (by omega);have yB:((m:Int)+1<(l.length:Int)):=by omega
 have a1:=pH (l:=l) (k:=m+1) hm;have a2:=pH (l:=l) (k:=m) (by omega);have cst:((m:Int)+1).toNat=m+1:=by omega
 have nn:(0:Int)≤(m:Int)+1:=by omega
 have c2:m<l.length:=by omega
 have hb:(l[m+1]==l[m])=false:=al (Ne.symm hd);simp[ot,Lq,yB,hσ,a1,a2,w1,w2,cst,nn,hm,c2,hb,aH,-List.getElem?_map]
theorem X4(l:List Int):(∀k (_:0<k) (hk:k<l.length),l[k-1]≠l[k])∨∃k0,∃(_:0<k0) (hk:k0<l.length),l[k0-1]=l[k0]∧∀k (_:0<k) (hk':k<k0),l[k-1]≠l[k]:=by
 have key:∀n,n≤l.length→(∀k (_:0<k) (hk:k<n) (hk':k<l.length),l[k-1]≠l[k])∨∃k0,∃(_:0<k0) (hk:k0<l.length),l[k0-1]=l[k0]∧∀k (_:0<k) (hk':k<k0),l[k-1]≠l[k]:=by
  intro n;induction n with
  |zero=>intro _;exact .inl fun k _ hk=>absurd hk (art _)
  |succ n ih=>
   intro hn;rcases ih (by omega) with h|h
   ·by_cases h0:0<n
    ·by_cases hd:l[n-1]=l[n]
     ·exact .inr ⟨n,h0,by omega,hd,fun k hk hk'=>h k hk hk' (by omega)⟩
     exact .inl fun k hk hkn hk'=>by
      by_cases he:k=n
      ·subst he;exact hd
      exact h k hk (by omega) hk'
    exact .inl fun k hk hkn hk'=>by omega
   exact .inr h
 rcases key l.length (aes _) with h|h
 ·exact .inl fun k h0 hk=>h k h0 hk hk
 exact .inr h
theorem Mw{σ:ah}{id ep:Nat}{l:List Int}(hσ:σ[id]?=some (.arr 1 ep (bd l)))(hn:l.length≤most) :
  ∃A:List Int,bK code I.qgw [.sl id ep 0 l.length] σ=some (.sl id ep 0 (cj l).length,σ.set id (.arr 1 ep (bd A)))∧A.length=l.length∧A.take (cj l).length=cj l:=by
 rw[bR anj rfl];by_cases h2:l.length<2
 ·have hc:=tm (l:=l) (fun k h0 hk=>by omega) l.length (aes _);rw[atd]at hc;refine⟨l,?_,rfl,by rw[hc,atd]⟩;have hi:((l.length:Int)<2):=by omega
  rw[hc,C6 hσ];simp[aze,WP,hσ,hi]
 have hi:¬((l.length:Int)<2):=by omega
 rcases X4 l with h|⟨k0,h0,hk,hd,hb⟩
 ·have hc:=tm h l.length (aes _);rw[atd]at hc;refine⟨l,?_,rfl,by rw[hc,atd]⟩;have hloop:=bU (base:=σ.length) (clr:=[1,3,4,6,7,8,9]) (b:=ot) (Lq σ id ep l.length) (l.length-1)
   (.ext 0,⟨[.sl id ep 0 l.length,.any,ac l.length,.any,.any,.bool false,.bool false,.any,.any,.any],σ⟩)
   (fun m hm=>uF hσ hn m (by omega) (h (m+1) (by omega) (by omega))) (by
    unfold Lq;rw[show l.length-1+1=l.length by omega];simp[ot,hσ])
  unfold Lq at hloop;simp at hloop;rw[hc,C6 hσ];simp[aze,WP,hσ,hi,hloop]
 have hp:cj (l.take k0)=l.take k0:=by
  have:=tm (l:=l.take k0) (fun k hk0 hkk=>by
   simp at hkk;simpa using hb k hk0 (by omega)) k0 (by simp;omega)
  rwa [List.take_take,Nat.min_self]at this
 have hin:=PW (ep:=ep) hσ hn h0 hk hd hp;obtain⟨i1,i2,i3,i4⟩:=Az h0 hk hd hp (l.length-k0-1) (by omega);rw[show k0+(l.length-k0-1)+1=l.length by omega,atd]at i3;have hle:(ir l k0 (l.length-k0-1)).2=(cj l).length:=by rw[←i3,al4];omega
 rw[hle]at i3;generalize (ir l k0 (l.length-k0-1)).1=A at *;have hcl:=uP l;generalize hC:(cj l).length=c at *;have hg:=fun o'=>agh (o':=o') hσ
 refine⟨A.take c++List.replicate (l.length-c) 0++A.drop (c+(l.length-c)),?_,by simp;omega,by
  rw[at6,au3 (by simp;omega)];exact i3⟩
 have hloop:=bU (base:=σ.length) (clr:=[1,3,4,6,7,8,9]) (b:=ot) (Lq σ id ep l.length) (k0-1)
  (.ret,⟨[.sl id ep 0 l.length,.sl id ep 0 c,ac c,.sl id ep k0 (l.length-k0),ac ((l.length-k0:Nat):Int),.bool false,.bool true,.bool true,.bool false,.any],σ.set id (.arr 1 ep (bd (A.take c++List.replicate (l.length-c) 0++A.drop (c+(l.length-c)))))⟩)
  (fun m hm=>uF hσ hn m (by omega) (hb (m+1) (by omega) (by omega))) (by
   unfold Lq;rw[show k0-1+1=k0 by omega];have hn':l.length≤68719476736:=hn;have w1:=Ot (n:=(k0:Int)-1) (by omega) (by omega);have w2:((k0:Int)-1).toNat=k0-1:=by omega
   have w3:(0:Int)≤(k0:Int)-1:=by omega
   have w4:(1:Int)≤(k0:Int):=by omega
   have yB:((k0:Int)<(l.length:Int)):=by omega
   have a1:=pH (l:=l) (k:=k0) hk;have a2:=pH (l:=l) (k:=k0-1) (by omega);have c3:k0-1<l.length:=by omega
   have c4:k0≤l.length:=by omega
   have c5:c+(l.length-c)=l.length:=by omega
   unfold aaE at hin;simp[ir]at hin;rw[C6 hσ]at hin;simp[ot,yB,hσ,a1,a2,w1,w2,w3,w4,c3,c4,hd,hin,hk,hg,hcl,i1,c5,-List.getElem?_map])
 unfold Lq at hloop;simp at hloop;simp[aze,WP,hσ,hi,hloop]
end Go.AM
namespace Go.AM
instance:Nc EN.a 8 true:=⟨fun _=>rfl,fun _=>rfl⟩
instance:Fx EN.a:=⟨fun fl top base σ n y=>apP y fl top base σ (n+1)⟩
structure aT where
 tag:Int
 b:Bool
 arg:List EN
def aT.a(a:aT):aa:=.agg [ac a.tag,.wh a.b (a.arg.map EN.a)]
structure kx where
 b:Bool
 l:List EN
def kx.a(e:kx):aa:=.agg [.wh e.b (e.l.map EN.a)]
structure aO where
 op:Int
 l:Int
 r:Int
 tab:Int
 bk:Bool
 xX:List Int
 left:Bool
 bc:Bool
 cond:List EN
 by':Bool
 keys:List Int
 bg:Bool
 yo:List aT
 bi:Bool
 items:List kx
 bo:Bool
 ords:List (Int×Bool)
 limit:Int
def aO.a(n:aO):aa:=.agg [ac n.op,ac n.l,ac n.r,ac n.tab,.wh n.bk (n.xX.map (.int .i64)),.bool n.left,.wh n.bc (n.cond.map EN.a),.wh n.by' (n.keys.map (.int .i64)),.wh n.bg (n.yo.map aT.a),.wh n.bi (n.items.map kx.a),.wh n.bo (n.ords.map Ei),ac n.limit]
instance:Nc aT.a 2 true:=⟨fun _=>rfl,fun _=>rfl⟩
instance:Ft aT.a:=⟨fun fl top base σ n y h=>by cases fl<;>cases top<;>simp[aT.a]at h ⊢⟩
instance:Nc kx.a 1 true:=⟨fun _=>rfl,fun _=>rfl⟩
instance:Ft kx.a:=⟨fun fl top base σ n y h=>by cases fl<;>cases top<;>simp[kx.a]at h ⊢⟩
instance:Nc Ei 2 true:=⟨fun _=>rfl,fun _=>rfl⟩
instance:Fx Ei:=⟨fun fl top base σ n y=>by simp[Ei]⟩
instance:Nc aO.a 12 true:=⟨fun _=>rfl,fun _=>rfl⟩
instance:Ft aO.a:=⟨fun fl top base σ n y h=>by cases fl<;>cases top<;>simp[aO.a]at h ⊢⟩
instance:Nc (eJ.c (aa.int .i64)) 1 false:=⟨fun _=>rfl,fun _=>rfl⟩
instance:Ft (eJ.c (aa.int .i64)):=⟨fun fl top base σ n y h=>by cases fl<;>cases top<;>simp at h ⊢⟩
end Go.AM
namespace Go.AM
open P
set_option maxHeartbeats 64000000
set_option maxRecDepth 40000
attribute [local simp] aB aP
def bD(op:Int):Int:=if op=1∨op=9 then 0 else if op=2∨op=7 then 2 else if op=3∨op=4∨op=5∨op=6∨op=8∨op=10∨op=11 then 1 else -1
theorem ti(op:Int):az I.qfw [ac op]=some (ac (bD op)):=by
 rw[am ao8 rfl];unfold bD;simp[aBh,ag6]
 repeat' (split<;>(try simp_all))
def iM(n:aO):Bool:=
 (n.op==1 ||n.op==9 ||n.tab==0&&n.xX.length==0)&&(n.op==2 || !n.left)&&(n.op==2 ||n.op==3 ||n.cond.length==0) &&
 (n.op==4 ||n.op==10 ||n.op==11 ||(n.keys.length:Int)+n.yo.length==0)&&(n.op==5 ||n.items.length==0)&&(n.op==8 ||n.ords.length==0&&n.limit==0)
theorem tU(n:aO)(h1:n.keys.length≤most)(h2:n.yo.length≤most):az I.qfn [n.a]=some (.bool (iM n)):=by
 rw[am apO rfl];have hw:IntKind.i64.wrap ((n.keys.length:Int)+(n.yo.length:Int))=(n.keys.length:Int)+n.yo.length:=bl (by unfold most at *;omega);unfold iM;simp[aAx,ai5,aO.a,hw]
 repeat' (split<;>(try simp_all))
def rF(t:Int):Bool:=t==4 ||decide (12≤t)&&decide (t≤15)
@[simp] theorem Y9(t:Int):az I.qes [ac t]=some (.bool (rF t)):=by
 rw[am aoV rfl];unfold rF;simp[aAo,ahQ]
 repeat' (split<;>(try simp_all))
 all_goals omega
def I1(own k:Int):Int:=if k=0∨k=own then own else if own=0 then k else -1
def gq(xX:List Int)(n:EN)(l:List Int):Int×Int:=
 let own:=l.foldl I1 0
 if n.tag=1 then (n.v.k,0) else if n.tag=2 then (xX.getD n.col.toNat 0,0) else
 let want:=if rF n.tag then 2 else if n.tag=5∨n.tag=22∨n.tag=23 then 1 else own
 if own=-1∨own≠0∧own≠want then (0,201) else (if rF n.tag then 2 else 1,0)
theorem Ug(n:EN)(b:Bool)(l:List Int)(bk:Bool)(xX:List Int)(hl:l.length≤most)(hc:n.tag=2→0≤n.col∧n.col<xX.length) :
  az I.qer [n.a,.wh b (l.map (.int .i64)),.cptr true (.wh bk (xX.map (.int .i64))) 0]=some (.tup [ac (gq xX n l).1,ac (gq xX n l).2]):=by
 rw[am apW rfl];have h:=fun x=>(bB (base:=1) (clr:=[7,13,14,15]) (b:=FD) l
  (fun k (own:Int)=>⟨[n.a,.wh b (l.map (.int .i64)),.cptr true (.wh bk (xX.map (.int .i64))) 0,.ptr 0 0 0 0,ac 0,ac 0,ac own,.any,.any,.any,.wh b (l.map (.int .i64)),ac l.length,ac k,.any,.any,.any,.any,.any,.any,.any,.any],[.arr 8 0 [n.a]]⟩)
  (fun _ _=>True) I1
  (fun own=>(.ext 0,⟨[n.a,.wh b (l.map (.int .i64)),.cptr true (.wh bk (xX.map (.int .i64))) 0,.ptr 0 0 0 0,ac 0,ac 0,ac own,.any,.any,.any,.wh b (l.map (.int .i64)),ac l.length,ac l.length,.bool false,.any,.any,.any,.any,.any,.any,.any],[.arr 8 0 [n.a]]⟩))
  (fun k y own hk hy _=>by
   refine⟨?_,trivial⟩;have yB:((k:Int)<(l.length:Int)):=by omega
   unfold I1;simp[FD,yB,hy,aH]
   repeat' (split<;>(try simp_all[aA hk hl,aH])))
  (fun own _=>by simp[FD]) 0 x).1
 have h:=h trivial;simp[EN.a]at h;unfold gq;simp[aA1,aia,h,EN.a];generalize l.foldl I1 0=own
 repeat' (split<;>(try simp_all))
end Go.AM
namespace Go.AM
open P
set_option maxHeartbeats 8000000
set_option maxRecDepth 8000
def cY(l:List Nat):List aa:=l.map fun (n:Nat)=>ac (n:Int)
@[simp] theorem agR(l:List Nat):(cY l).length=l.length:=by simp[cY]
@[simp] theorem amm:cY []=[]:=rfl
theorem oJ{l:List Nat}{k:Nat}(h:k<l.length):(cY l)[k]?=some (ac (l[k]:Int)):=by simp[cY,h]
theorem tf{l:List Nat}{k:Nat}(h:k<(cY l).length):(cY l)[k]=ac ((l[k]'(by simpa using h):Nat):Int):=by simp[cY]
theorem eH(l m:List Nat):cY (l++m)=cY l++cY m:=by simp[cY]
@[simp] theorem al3(n:Nat):cY [n]=[ac (n:Int)]:=rfl
@[simp] theorem amg(n m:Nat):cY [n,m]=[ac (n:Int),ac (m:Int)]:=rfl
theorem ni(l:List Nat)(fl top:Bool)(base:Nat)(σ:ah)(m:Nat):(cY l).map (fz fl top base σ (m+1))=cY l:=by
 unfold cY;rw[aqS];exact aj6 fun n _=>by simp
theorem jw(l:List Nat)(base:Nat)(σ:ah):(cY l).map (aZ base σ)=cY l:=ni l false true base σ 19
def gX(i:Nat)(n:EN)(all opn:List Nat):Option (List Nat×List Nat):=
 if aI n.tag<0∨opn.length<aI n.tag∨cq n=false then none else
 match opn.drop (opn.length-(aI n.tag).toNat) with
 |[]=>if n.l=-1∧n.r=-1 then some (all++[i],opn++[i]) else none
 |[p]=>if n.l=p∧n.r=-1 then some (all++[min i (all.getD p 0)],opn.take (opn.length-1)++[i]) else none
 |[p,q]=>if n.l=p∧n.r=q then some (all++[min (min i (all.getD p 0)) (all.getD q 0)],opn.take (opn.length-2)++[i]) else none
 |_=>none
abbrev ek(b:Bool)(e:List EN)(k:Nat)(all opn:List Nat):St:=
 ⟨[.agg [.wh b (vx e)],.ptr 0 0 0 0,.any,.any,.sl 1 k 0 all.length,.sl 2 k 0 opn.length,.any,.any,.any,.any,.any,.any,.any,.any,.wh b (vx e),ac e.length,ac k,.any,.any,.any,.any,.any,.any,.any],
  [.arr 1 0 [.agg [.wh b (vx e)]],.arr 1 k (cY all),.arr 1 k (cY opn)]⟩
theorem iB(t:Int):-1≤aI t∧aI t≤2:=by
 unfold aI
 repeat' split
 all_goals omega
theorem VY:IntKind.i64.wrap 1=1:=rfl
theorem ahC:IntKind.i64.wrap 2=2:=rfl
theorem QW{b:Bool}{e:List EN}{k:Nat}{all opn all' opn':List Nat}(hk:k<e.length)(hn:e.length≤most)(ha:all.length=k)(ho:∀p∈opn,p<k)(hol:opn.length≤k)
  (h:gX k e[k] all opn=some (all',opn')) :
  bM 3 [2,3,6,7,8,9,10,11,12,13,17,18,19,20,21,22,23] fE (run code fE (ek b e k all opn)) =
   aM code 3 [2,3,6,7,8,9,10,11,12,13,17,18,19,20,21,22,23] fE (ek b e (k+1) all' opn'):=by
 have h1:=HZ hk;have hp:=ud e[k].tag;have hc:=Du e[k];have hlt:((k:Int)<(e.length:Int)):=by omega
 unfold gX at h;split at h
 ·cases h
 rename_i hneg;have hc1:cq e[k]=true:=by cases hq:cq e[k]<;>simp_all
 rw[hc1]at hc;have hk0:¬(aI e[k].tag<0):=by omega
 have hk1:¬((opn.length:Int)<aI e[k].tag):=by omega
 have hk2:=iB e[k].tag;have hm:k+1≤most:=by omega
 have hcases:aI e[k].tag=0∨aI e[k].tag=1∨aI e[k].tag=2:=by omega
 rcases hcases with h0|h0|h0
 ·rw[h0]at h hp;simp at h;obtain⟨⟨e1,e2⟩,rfl,rfl⟩:=h;unfold EN.a at h1 hc;rw[e1,e2]at h1 hc;have t1:(cY all).take k=cY all:=aea (by simp[ha]);have t2:(cY opn).take opn.length=cY opn:=aea (by simp);have f1:=ni all;have f2:=ni opn;have g1:=jw all;have g2:=jw opn;have hnn:¬((opn.length:Int)<0):=by omega
  have hw:IntKind.i64.wrap (opn.length:Int)=opn.length:=bl (by unfold most at hn;omega);have hm':opn.length+1≤most:=by omega
  simp[ek,fE,h1,hlt,hp,hc,ha,t1,t2,f1,f2,g1,g2,hnn,hw,append,eH,hm,hm',aA hk hn,ar,ap,bS 5,bS 6,tc]
 ·rw[h0]at h hp hk1;have hol1:1≤opn.length:=by omega
  obtain⟨o,p,rfl⟩:∃o p,opn=o++[p]:=⟨opn.dropLast,opn.getLast (by intro e;subst e;simp at hol1),(atI _).symm⟩;simp at h;obtain⟨⟨e1,e2⟩,rfl,rfl⟩:=h;have hpk:p<k:=ho p (by simp);unfold EN.a at h1 hc;rw[e1,e2]at h1 hc;have hpa:p<all.length:=by omega
  have q1:=oJ hpa;have t1:(cY all).take k=cY all:=aea (by simp[ha]);have t2:(cY (o++[p])).take o.length=cY o:=by rw[eH,au3 (by simp)]
  have t3:(cY (o++[p]))[o.length]?=some (ac (p:Int)):=by rw[eH,arD (by simp)];simp
  have f1:=ni all;have f2:=ni o;have g1:=jw all;have g2:=jw o;have hlen:(o++[p]).length=o.length+1:=by simp
  have hnn:¬((o.length:Int)+1<1):=by omega
  have hw:IntKind.i64.wrap ((o.length:Int)+1-1)=o.length:=by rw[bl (by simp at hol;unfold most at hn;omega)];omega
  have hw1:IntKind.i64.wrap (o.length:Int)=o.length:=by rw[bl (by simp at hol;unfold most at hn;omega)]
  have hm':o.length+1≤most:=by simp at hol;omega
  simp at hol;have hd:all[p]?.getD 0=all[p]:=by simp[hpa]
  have hmin:(if all[p]<k then (all[p]:Int) else (k:Int))=((min k all[p]:Nat):Int):=by split<;>omega
  simp[ek,fE,h1,hlt,hp,hc,ha,t1,t2,t3,f1,f2,g1,g2,hnn,hw,hw1,append,eH,hm,hm',aA hk hn,ar,ap,bS 5,tc,q1,hpk,hpa,tf,hmin,VY]
 rw[h0]at h hp hk1;have hol1:2≤opn.length:=by omega
 obtain⟨o',q,rfl⟩:∃o p,opn=o++[p]:=⟨opn.dropLast,opn.getLast (by intro e;subst e;simp at hol1),(atI _).symm⟩;have hol2:1≤o'.length:=by simp at hol1;omega
 obtain⟨o,p,rfl⟩:∃o p,o'=o++[p]:=⟨o'.dropLast,o'.getLast (by intro e;subst e;simp at hol2),(atI _).symm⟩;have hdrop:(o++[p]++[q]).drop ((o++[p]++[q]).length-(2:Int).toNat)=[p,q]:=by
  simp
 have htake:(o++[p]++[q]).take ((o++[p]++[q]).length-2)=o:=by
  rw[at6,au3 (by simp)]
 rw[hdrop]at h;simp only[htake]at h;split at h
 ·rename_i e12;obtain⟨e1,e2⟩:=e12;simp only[afV,atP]at h;obtain⟨rfl,rfl⟩:=h;have hpk:p<k:=ho p (by simp);have hqk:q<k:=ho q (by simp);unfold EN.a at h1 hc;rw[e1,e2]at h1 hc;have hpa:p<all.length:=by omega
  have hqa:q<all.length:=by omega
  have q1:=oJ hpa;have q2:=oJ hqa;have t1:(cY all).take k=cY all:=aea (by simp[ha]);have hN:cY (o++[p]++[q])=cY o++([ac (p:Int),ac (q:Int)]:List aa):=by simp[eH]
  have t2:(cY o++([ac (p:Int),ac (q:Int)]:List aa)).take o.length=cY o:=by rw[au3 (by simp)]
  have t3:(cY o++([ac (p:Int),ac (q:Int)]:List aa))[o.length]?=some (ac (p:Int)):=by rw[arD (by simp)];simp
  have t4:(cY o++([ac (p:Int),ac (q:Int)]:List aa))[o.length+1]?=some (ac (q:Int)):=by rw[arD (by simp)];simp
  have f1:=ni all;have f2:=ni o;have g1:=jw all;have g2:=jw o;simp at hol;have hnn:¬((o.length:Int)+1+1<2):=by omega
  have hnn':¬((o.length:Int)+2<2):=by omega
  have hw:IntKind.i64.wrap ((o.length:Int)+1+1-2)=o.length:=by rw[bl (by unfold most at hn;omega)];omega
  have hw':IntKind.i64.wrap ((o.length:Int)+2-2)=o.length:=by rw[bl (by unfold most at hn;omega)];omega
  have hw1:IntKind.i64.wrap (o.length:Int)=o.length:=by rw[bl (by unfold most at hn;omega)]
  have hm':o.length+1≤most:=by omega
  have hd:all[p]?.getD 0=all[p]:=by simp[hpa]
  have hd2:all[q]?.getD 0=all[q]:=by simp[hqa]
  have hmin:(if all[p]<k then (all[p]:Int) else (k:Int))=((min k all[p]:Nat):Int):=by split<;>omega
  have hmin2:(if all[q]<min k all[p] then (all[q]:Int) else ((min k all[p]:Nat):Int))=((min (min k all[p]) all[q]:Nat):Int):=by split<;>omega
  unfold ek;rw[hN];simp[fE,h1,hlt,hp,hc,ha,t1,t2,t3,t4,f1,f2,g1,g2,hnn,hnn',hw,hw',hw1,append,eH,hm,hm',aA hk hn,ar,ap,bS 5,tc,q1,q2,hpk,hpa,hqk,hqa,tf,hmin,hmin2,VY,ahC]
 cases h
end Go.AM
