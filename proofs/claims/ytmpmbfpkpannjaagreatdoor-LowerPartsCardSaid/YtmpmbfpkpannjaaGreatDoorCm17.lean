/- Part of the proof. -/
import Derived.Test.YtmpmbfpkpannjaaGreatDoorCm15
import Derived.Test.YtmpmbfpkpannjaaGreatDoorCards
set_option linter.unusedVariables false
set_option linter.unusedSimpArgs false
set_option linter.unusedSectionVars false
namespace Go.Proofs
open Go.Shelf Go.Lib
theorem Ju{P:Program}{w:World}{dF:Nat}{t:TypeId}{cs:List Value}{ms:Array (String×TypeId)}{nm:String}{d:DataW Unit}{p:List MemPlace}(ht:P.underlying t=some (.interface ms))(h:DataW.trod (fun _=>()) P w 0 (fun _=>true) false dF t cs=some (.iface nm d,p)):∃te pe,cs=[.iface te pe]:=by
 cases dF with
 |zero=>simp[DataW.trod]at h
 |succ n=>
  unfold DataW.trod at h;rw[ht]at h
  match cs,h with
  |[.iface u v],_=>exact⟨u,v,rfl⟩
  |[.nilIface],h=>simp at h
theorem Tryz.caseX:CaseExtra Tryz.prog Tryz.upR:={ n13:=by kernel_rfl,y13:=by kernel_rfl,c21:=by kernel_rfl,c51:=by kernel_rfl,c206:=by kernel_rfl,c208:=by kernel_rfl }
theorem Tryz.u8X:U8Extra Tryz.prog Tryz.upR:={ n3:=by kernel_rfl,n4:=by kernel_rfl,y3:=by kernel_rfl,y4:=by kernel_rfl,c5:=by kernel_rfl,c119:=by kernel_rfl,c138:=by kernel_rfl }
theorem Tryz.case_eq:YtmpmbfpkpannjaaGreatDoor.Rows.laid_unicode_CaseRanges=caseData:=by kernel_rfl
theorem Tryz.first_eq:YtmpmbfpkpannjaaGreatDoor.Rows.laid_unicode_utf8_first=firstData:=by kernel_rfl
theorem Tryz.acc_eq:YtmpmbfpkpannjaaGreatDoor.Rows.laid_unicode_utf8_acceptRanges=acceptData:=by kernel_rfl
theorem Tryz.tabs_laid(W:World)(h:laidMet Tryz.prog YtmpmbfpkpannjaaGreatDoor.Rows.lowerAllRow.laid W)(g13 g3 g4 gE:Nat)(n1:Tryz.prog.globalNamed "unicode.CaseRanges" = some g13)(n2:Tryz.prog.globalNamed "unicode/utf8.first" = some g3)(n3:Tryz.prog.globalNamed "unicode/utf8.acceptRanges" = some g4)(n4:Tryz.prog.globalNamed "strconv.ErrRange" = some gE):CaseVar g13 caseA W∧Utf8Tabs g3 g4 W∧∃ te pe,W.cell? ⟨gE,0,none⟩=some (.iface te pe):=by
 have e1:Tryz.prog.globalNamed "unicode.CaseRanges" = some 3:=by kernel_rfl
 have e2:Tryz.prog.globalNamed "unicode/utf8.first" = some 5:=by kernel_rfl
 have e3:Tryz.prog.globalNamed "unicode/utf8.acceptRanges" = some 6:=by kernel_rfl
 cases Option.some.inj (e1.symm.trans n1);cases Option.some.inj (e2.symm.trans n2);cases Option.some.inj (e3.symm.trans n3);have r1:=laidMet.reads (n:="unicode.CaseRanges") (d:=YtmpmbfpkpannjaaGreatDoor.Rows.laid_unicode_CaseRanges) h (by simp[YtmpmbfpkpannjaaGreatDoor.Rows.lowerAllRow]);have r2:=laidMet.reads (n:="unicode/utf8.first") (d:=YtmpmbfpkpannjaaGreatDoor.Rows.laid_unicode_utf8_first) h (by simp[YtmpmbfpkpannjaaGreatDoor.Rows.lowerAllRow]);have r3:=laidMet.reads (n:="unicode/utf8.acceptRanges") (d:=YtmpmbfpkpannjaaGreatDoor.Rows.laid_unicode_utf8_acceptRanges) h (by simp[YtmpmbfpkpannjaaGreatDoor.Rows.lowerAllRow]);have herr:∃te pe,W.cell? ⟨gE,0,none⟩=some (.iface te pe):=by
  obtain⟨ps,hv,_⟩:=h;obtain⟨g,t,cs,dF,p,k1,k2,k3,k4⟩:=Go.AM.laid_mem hv "strconv.ErrRange" YtmpmbfpkpannjaaGreatDoor.Rows.laid_strconv_ErrRange (by simp[YtmpmbfpkpannjaaGreatDoor.Rows.lowerAllRow]);obtain rfl:=Option.some.inj (n4.symm.trans k1);have e4:Tryz.prog.globalNamed "strconv.ErrRange" = some 8:=by kernel_rfl
  cases Option.some.inj (e4.symm.trans n4);have et:(Tryz.prog.globals[8]?).map (·.type)=some 271:=by kernel_rfl
  cases Option.some.inj (et.symm.trans k2);obtain⟨te,pe,hc⟩:=Ju Tryz.underlying271 k4;refine⟨te,pe,?_⟩;rw[World.var?_cell e4 k3 0,←Array.getElem?_toList,hc];rfl
 rw[Tryz.case_eq]at r1;rw[Tryz.first_eq]at r2;rw[Tryz.acc_eq]at r3;exact⟨caseVar_of_reads Tryz.lays274 Tryz.underlying374 Tryz.caseX r1,utf8Tabs_of_reads Tryz.lays260 Tryz.u8X r2 r3,herr⟩
end Go.Proofs
namespace Go.AM
section
variable {P:Code}
theorem aoq(env ls:List aq)(σ:aw)(x:dd):step P env ls σ (.mov x)=(some (x.eval env ls,σ)):=by
 unfold step;simp only[bJ];exact bI _
theorem aiD(env ls:List aq)(σ:aw)(c:dd)(a:dd)(b:dd):step P env ls σ (.pick c a b)=((Tl (a.eval env ls) (b.eval env ls) (c.eval env ls)).map (·,σ)):=by
 unfold step;simp only[bJ];exact bI _
theorem anO(env ls:List aq)(σ:aw)(k:Nat)(x:dd):step P env ls σ (.box k x)=(let v:=x.eval env ls;if aM v=k then some (.ptr σ.length 0 0 0,σ++[.arr k 0 [v]]) else none):=by
 unfold step;simp only[bJ];exact bI _
theorem aej(env ls:List aq)(σ:aw)(zero:List aq)(a:List (Nat×Nat×dd)):step P env ls σ (.build zero a)=((fill zero (a.map fun p=>(p.1,p.2.1,p.2.2.eval env ls))).map fun cs=>(.agg cs,σ)):=by
 unfold step;simp only[bJ];exact bI _
theorem adC(env ls:List aq)(σ:aw)(k:Nat):step P env ls σ (.mknil k)=(some (.sl σ.length 0 0 0,σ++[.arr k 0 []])):=by
 unfold step;simp only[bJ];exact bI _
theorem akK(env ls:List aq)(σ:aw)(k:Nat)(xs:List dd):step P env ls σ (.mkl k xs)=(let vs:=xs.map (·.eval env ls);if vs.all (fun v=>aM v==k) then some (.lst vs,σ) else none):=by
 unfold step;simp only[bJ];exact bI _
theorem aiP(env ls:List aq)(σ:aw)(k:Nat)(xs:List dd):step P env ls σ (.mksl k xs)=(let vs:=xs.map (·.eval env ls)
  if vs=[] then some (.ai,σ) else
  if vs.all (fun v=>aM v==k) then some (.sl σ.length 0 0 vs.length,σ++[.arr k 0 vs]) else none):=by
 unfold step;simp only[bJ];exact bI _
theorem adD(env ls:List aq)(σ:aw)(k:Nat)(zero:aq)(n:Nat)(a:List (Nat×dd)):step P env ls σ (.mkslz k zero n a)=(let vs:=Nm (List.replicate n zero) (a.map fun p=>(p.1,p.2.eval env ls))
  if vs.all (fun v=>aM v==k) then some (.sl σ.length 0 0 n,σ++[.arr k 0 vs]) else none):=by
 unfold step;simp only[bJ];exact bI _
theorem ahO(env ls:List aq)(σ:aw)(k:Nat)(zero:aq)(n:dd)(c:dd):step P env ls σ (.make k zero n c)=((rc (n.eval env ls)).bind fun m=>(rc (c.eval env ls)).bind fun d=>
   if m=d∧aM zero=k∧m≤bD then some (.sl σ.length 0 0 m,σ++[.arr k 0 (List.replicate m zero)]) else none):=by
 unfold step;simp only[bJ];exact bI _
theorem aiZ(env ls:List aq)(σ:aw)(a:Bool)(s:Nat)(x:dd):step P env ls σ (.load a s x)=((loadAt a s (x.eval env ls) σ).map (·,σ)):=by
 unfold step;simp only[bJ];exact bI _
theorem act(env ls:List aq)(σ:aw)(s:Nat)(x:dd)(v:dd):step P env ls σ (.store s x v)=((storeAt s (x.eval env ls) (v.eval env ls) σ).map (.any,·)):=by
 unfold step;simp only[bJ];exact bI _
theorem anu(env ls:List aq)(σ:aw)(off:Nat)(x:dd):step P env ls σ (.fld off x)=((JI σ off (x.eval env ls)).map (·,σ)):=by
 unfold step;simp only[bJ];exact bI _
theorem ai6(env ls:List aq)(σ:aw)(a:Bool)(s:Nat)(off:Nat)(x:dd):step P env ls σ (.fldv a s off x)=((Im a s off (x.eval env ls)).map (·,σ)):=by
 unfold step;simp only[bJ];exact bI _
theorem ahG(env ls:List aq)(σ:aw)(k:Nat)(x:dd)(i:dd):step P env ls σ (.idxs k x i)=((rc (i.eval env ls)).bind fun n=>(Dr σ k n (x.eval env ls)).map (·,σ)):=by
 unfold step;simp only[bJ];exact bI _
theorem ahJ(env ls:List aq)(σ:aw)(m:Nat)(s:Nat)(x:dd)(i:dd):step P env ls σ (.idxa m s x i)=((rc (i.eval env ls)).bind fun n=>if n<m then (JI σ (n*s) (x.eval env ls)).map (·,σ) else none):=by
 unfold step;simp only[bJ];exact bI _
theorem ai2(env ls:List aq)(σ:aw)(a:Bool)(m:Nat)(s:Nat)(x:dd)(i:dd):step P env ls σ (.idxv a m s x i)=((rc (i.eval env ls)).bind fun n=>if n<m then (Im a s (n*s) (x.eval env ls)).map (·,σ) else none):=by
 unfold step;simp only[bJ];exact bI _
theorem aik(env ls:List aq)(σ:aw)(x:dd)(i:dd):step P env ls σ (.idxt x i)=((rc (i.eval env ls)).bind fun n=>(N8 n (x.eval env ls)).map (·,σ)):=by
 unfold step;simp only[bJ];exact bI _
theorem aom(env ls:List aq)(σ:aw)(op:BinOp)(x:dd)(y:dd):step P env ls σ (.bin op x y)=((bin op (x.eval env ls) (y.eval env ls)).map (·,σ)):=by
 unfold step;simp only[bJ];exact bI _
theorem akM(env ls:List aq)(σ:aw)(n:Bool)(x:dd)(y:dd):step P env ls σ (.eqb n x y)=((eqb n (x.eval env ls) (y.eval env ls)).map (·,σ)):=by
 unfold step;simp only[bJ];exact bI _
theorem amd(env ls:List aq)(σ:aw)(n:Bool)(ks:List Nat)(x:dd)(y:dd):step P env ls σ (.eqa n ks x y)=((eqa n ks (x.eval env ls) (y.eval env ls)).map (·,σ)):=by
 unfold step;simp only[bJ];exact bI _
theorem ah6(env ls:List aq)(σ:aw)(n:Bool)(x:dd):step P env ls σ (.nils n x)=((ut n σ (x.eval env ls)).map (·,σ)):=by
 unfold step;simp only[bJ];exact bI _
theorem amF(env ls:List aq)(σ:aw)(op:UnOp)(x:dd):step P env ls σ (.una op x)=((una op (x.eval env ls)).map (·,σ)):=by
 unfold step;simp only[bJ];exact bI _
theorem ahI(env ls:List aq)(σ:aw)(k:IntKind)(x:dd):step P env ls σ (.conv k x)=((TE k (x.eval env ls)).map (·,σ)):=by
 unfold step;simp only[bJ];exact bI _
theorem adR(env ls:List aq)(σ:aw)(k:Nat)(x:dd)(lo:Option dd)(hi:Option dd):step P env ls σ (.slice k x lo hi)=(let v:=x.eval env ls
  (td σ v).bind fun n=>(ZJ env ls 0 lo).bind fun l=>(ZJ env ls n hi).bind fun h=>(aslice σ k v l h).map (·,σ)):=by
 unfold step;simp only[bJ];exact bI _
theorem abD(env ls:List aq)(σ:aw)(x:dd)(lo:Option dd)(hi:Option dd):step P env ls σ (.slicet x lo hi)=(let v:=x.eval env ls
  (JK v).bind fun n=>(ZJ env ls 0 lo).bind fun l=>(ZJ env ls n hi).bind fun h=>(vK v l h).map (·,σ)):=by
 unfold step;simp only[bJ];exact bI _
theorem Zf(env ls:List aq)(σ:aw)(x:dd):step P env ls σ (.slice0 x)=((td σ (x.eval env ls)).map fun _=>(.ai,σ)):=by
 unfold step;simp only[bJ];exact bI _
theorem Ym(env ls:List aq)(σ:aw)(n:Nat)(x:dd):step P env ls σ (.aslice n x)=((abB σ n (x.eval env ls)).map (·,σ)):=by
 unfold step;simp only[bJ];exact bI _
theorem alu(env ls:List aq)(σ:aw)(x:dd):step P env ls σ (.len x)=((td σ (x.eval env ls)).map fun (n:Nat)=>(.int .i64 (n:Int),σ)):=by
 unfold step;simp only[bJ];exact bI _
theorem ajF(env ls:List aq)(σ:aw)(x:dd):step P env ls σ (.lent x)=((JK (x.eval env ls)).map fun (n:Nat)=>(.int .i64 (n:Int),σ)):=by
 unfold step;simp only[bJ];exact bI _
theorem alT(env ls:List aq)(σ:aw)(x:dd):step P env ls σ (.cap x)=((adt (x.eval env ls)).map (·,σ)):=by
 unfold step;simp only[bJ];exact bI _
theorem akk(env ls:List aq)(σ:aw)(k:Nat)(x:dd)(y:dd):step P env ls σ (.app k x y)=((rd σ (y.eval env ls)).bind fun a=>append k (x.eval env ls) a σ):=by
 unfold step;simp only[bJ];exact bI _
theorem ai9(env ls:List aq)(σ:aw)(k:Nat)(zero:aq)(x:dd)(n:dd):step P env ls σ (.appz k zero x n)=((rc (n.eval env ls)).bind fun m=>if aM zero=k∧m≤bD then append k (x.eval env ls) (List.replicate m zero) σ else none):=by
 unfold step;simp only[bJ];exact bI _
theorem aip(env ls:List aq)(σ:aw)(k:Nat)(x:dd)(y:dd):step P env ls σ (.copy k x y)=((KU σ (ack (x.eval env ls)) (y.eval env ls)).bind fun b=>(N7 σ k b (x.eval env ls)).map fun a=>(.int .i64 (b.length:Int),a)):=by
 unfold step;simp only[bJ];exact bI _
theorem ahU(env ls:List aq)(σ:aw)(x:dd)(xs:List dd):step P env ls σ (.mins x xs)=((xa true (x.eval env ls) (xs.map (·.eval env ls))).map (·,σ)):=by
 unfold step;simp only[bJ];exact bI _
theorem aiJ(env ls:List aq)(σ:aw)(x:dd)(xs:List dd):step P env ls σ (.maxs x xs)=((xa false (x.eval env ls) (xs.map (·.eval env ls))).map (·,σ)):=by
 unfold step;simp only[bJ];exact bI _
theorem ahS(env ls:List aq)(σ:aw)(f:Nat)(first:List dd)(cap:List dd):step P env ls σ (.mkfn f first cap)=(some (.fn f (first.map (·.eval env ls)) (cap.map (·.eval env ls)),σ)):=by
 unfold step;simp only[bJ];exact bI _
theorem ams(env ls:List aq)(σ:aw)(i:Nat)(x:dd):step P env ls σ (.ext i x)=((aaI i (x.eval env ls)).map (·,σ)):=by
 unfold step;simp only[bJ];exact bI _
theorem acY(env ls:List aq)(σ:aw)(x:dd):step P env ls σ (.nilck x)=((NB σ (x.eval env ls)).map (·,σ)):=by
 unfold step;simp only[bJ];exact bI _
theorem acX(env ls:List aq)(σ:aw)  : step P env ls σ (.mkmap)=(some (.mp σ.length,σ++[.map []])):=by
 unfold step;simp only[bJ];exact bI _
theorem ah0(env ls:List aq)(σ:aw)(m:dd)(k:dd)(v:dd):step P env ls σ (.mput m k v)=((PC σ (k.eval env ls) (v.eval env ls) (m.eval env ls)).map (.any,·)):=by
 unfold step;simp only[bJ];exact bI _
theorem aiN(env ls:List aq)(σ:aw)(zero:aq)(ok:Bool)(m:dd)(k:dd):step P env ls σ (.look zero ok m k)=(if vS (k.eval env ls) then (zj σ (m.eval env ls)).bind fun es=>(lookup (k.eval env ls) es).map fun r=>(if ok then .tup [r.getD zero,.bool r.isSome] else r.getD zero,σ) else none):=by
 unfold step;simp only[bJ];exact bI _
theorem ah7(env ls:List aq)(σ:aw)(m:dd):step P env ls σ (.mlen m)=((zj σ (m.eval env ls)).map fun es=>(.int .i64 (es.length:Int),σ)):=by
 unfold step;simp only[bJ];exact bI _
theorem alw(env ls:List aq)(σ:aw)(zero:aq)(x:dd):step P env ls σ (.clr zero x)=((ZI σ zero (x.eval env ls)).map (.any,·)):=by
 unfold step;simp only[bJ];exact bI _
theorem ajs(env ls:List aq)(σ:aw)(x:dd):step P env ls σ (.rngs x)=RY σ (x.eval env ls):=by
 unfold step;simp only[bJ];exact bI _
theorem adf(env ls:List aq)(σ:aw)(x:dd):step P env ls σ (.nexts x)=uz σ (x.eval env ls):=by
 unfold step;simp only[bJ];exact bI _
theorem acM(env ls:List aq)(σ:aw)(ks:List Nat)(zero:aq)(ok:Bool)(m k:dd):step P env ls σ (.lookk ks zero ok m k)=(if gZ ks (k.eval env ls) then (zj σ (m.eval env ls)).bind fun es=>(dz ks (k.eval env ls) es).map fun r=>(if ok then .tup [r.getD zero,.bool r.isSome] else r.getD zero,σ) else none):=by
 unfold step;simp only[bJ];exact bI _
theorem acL(env ls:List aq)(σ:aw)(ks:List Nat)(m k v:dd):step P env ls σ (.mputk ks m k v)=((Iy ks σ (k.eval env ls) (v.eval env ls) (m.eval env ls)).map (.any,·)):=by
 unfold step;simp only[bJ];exact bI _
theorem anX(env ls:List aq)(σ:aw)(x:dd):step P env ls σ (.b2s x)=((abd σ (x.eval env ls)).map (·,σ)):=by
 unfold step;simp only[bJ];exact bI _
theorem akF(env ls:List aq)(σ:aw)  : step P env ls σ (.bad)=(none):=by
 unfold step;simp only[bJ];exact bI _
end
end Go.AM
namespace Go.AM
def C4.isPure:C4→Bool
 |.pure|.fresh _=>true
 |_=>false
theorem acQ(σ τ:aw):∀(n:Nat) (v:aq),fz true false 0 τ n (fz true false 0 σ n v)=fz true false 0 σ n v:=by
 intro n;induction n with
 |zero=>intro v;rfl
 |succ n g=>
  intro v;have d:∀l:List aq,(l.map (fz true false 0 σ n)).map (fz true false 0 τ n)=l.map (fz true false 0 σ n):=fun l=>by
   rw[bU];exact aU fun x _=>g x
  cases v with
  |agg cs=>simp only[fz];rw[d]
  |tup cs=>simp only[fz];rw[d]
  |fn f a c=>simp only[fz];rw[d,d]
  |aa b xs=>cases b<;>simp[fz]
  |cptr b x o=>
   cases b
   ·simp[fz]
   by_cases h:aM (fz true false 0 σ n x)=aM x
   ·simp[fz,jR,h,g]
   simp[fz,jR,h]
  |imap b xs=>cases b<;>simp[fz]
  |lst xs=>
   by_cases h:(xs.map (fz true false 0 σ n)).map aM=xs.map aM
   ·simp only[fz,oX,if_pos h];rfl
   simp only[fz,oX,if_neg h]
  |sl id ep off len=>
   simp only[fz,da,cH];cases sliceAt σ id ep off len with
   |none=>simp[fz]
   |some l=>
    by_cases h:(l.map (fz true false 0 σ n)).map aM=l.map aM
    ·simp only[Option.elim,oX,if_pos h,fz];rfl
    simp only[Option.elim,oX,if_neg h,fz]
  |ptr id ep i off=>
   simp only[fz,da,cH];cases uq σ id ep i with
   |none=>simp[fz]
   |some x=>
    by_cases h:aM (fz true false 0 σ n x)=aM x
    ·simp[fz,jR,h,g]
    simp[fz,jR,h]
  |asl id ep i off m=>simp[fz]
  |mp id=>
   simp only[fz,da,cH];cases ic σ id<;>simp[fz]
  |yld l s e=>
   simp[fz]
  |_=>simp[fz]
theorem pO(σ τ:aw)(v:aq):snap τ (snap σ v)=snap σ v:=acQ σ τ dF v
section
variable {P:Code} (hP:P.Good)
include hP
theorem O8{f:Nat}{g:br}(h:P.fns f=.fn g)(a:g.mode.isPure=true)(args:List aq)(σ:aw) :
  cD P f args σ=((cD P f (args.map (snap σ)) []).map (·.1)).map (·,σ):=by
 rw[zy hP h,zy hP h];have c:enter g args σ=enter g (args.map (snap σ)) []:=by
  have b:((args.map (snap σ)).take g.np).map (snap [])=(args.take g.np).map (snap σ):=by
   rw[←List.map_take,bU];exact aU fun x _=>pO σ [] x
  unfold enter;cases hg:g.mode<;>rw[hg]at a<;>first|exact absurd a (by decide)|(simp only[b])
 rw[c];cases run P g.body (enter g (args.map (snap σ)) []) with
 |none=>rfl
 |some r=>
  obtain⟨e,s⟩:=r;have key:(results s g.res).map (fun v=>iu g.mode σ s v)=(((results s g.res).map fun v=>iu g.mode [] s v).map (·.1)).map (·,σ):=by
   cases results s g.res with
   |none=>rfl
   |some v=>
    cases hg:g.mode<;>rw[hg]at a<;>first|exact absurd a (by decide)|rfl
  cases e with
  |ext _=>rfl
  |nrm=>exact key
  |ret=>exact key
theorem V4{f:Nat}{g:br}(h:P.fns f=.fn g)(a:g.mode.isPure=true)(args:List aq) :
  (cD P f args []).map (·.1)=(run P g.body ⟨(args.take g.np).map (snap [])++List.replicate (g.nenv-g.np) .any,[]⟩).bind fun r=>match r.1 with
   |.ext _=>none
   |_=>(results r.2 g.res).map fun v=>(iu g.mode [] r.2 v).1:=by
 rw[zy hP h];have b:enter g args []=⟨(args.take g.np).map (snap [])++List.replicate (g.nenv-g.np) .any,[]⟩:=by
  unfold enter;cases hg:g.mode<;>rw[hg]at a<;>first|exact absurd a (by decide)|rfl
 rw[b];cases run P g.body _ with
 |none=>rfl
 |some r=>
  obtain⟨e,s⟩:=r;cases e with
  |ext _=>rfl
  |nrm=>show ((results s g.res).map _).map _=_;rw[Option.map_map];rfl
  |ret=>show ((results s g.res).map _).map _=_;rw[Option.map_map];rfl
end
end Go.AM
section
set_option maxRecDepth 8000
namespace Go.AM
abbrev cC(n:Nat)(g:br):Prop:=code.fns n=.fn g
theorem good:code.Good:=P8
noncomputable def bB(f:Nat)(args:List aq):Option aq:=(cD code f args []).map (·.1)
theorem oB{f:Nat}{g:br}(h:code.fns f=.fn g)(hm:g.mode.isPure=true)(args:List aq)(σ:aw) :
  cD code f args σ=(bB f (args.map (snap σ))).map (·,σ):=O8 good h hm args σ
abbrev bG(f:Nat):Prop:=∀(args:List aq) (σ:aw),cD code f args σ=(bB f (args.map (snap σ))).map (·,σ)
theorem Xr{f:Nat}{g:br}(h:code.fns f=.fn g)(hm:g.mode.isPure=true)(args:List aq) :
  bB f args=(run code g.body ⟨(args.take g.np).map (snap [])++List.replicate (g.nenv-g.np) .any,[]⟩).bind fun r=>match r.1 with
   |.ext _=>none
   |_=>(results r.2 g.res).map fun v=>(iu g.mode [] r.2 v).1:=V4 good h hm args
theorem alt:cC 1 P.auG:=rfl
theorem anl:cC 2 P.arR:=rfl
theorem amU:cC 3 P.atQ:=rfl
theorem amD:cC 4 P.arZ:=rfl
theorem ale:cC 5 P.auk:=rfl
theorem ahi:cC 6 P.asa:=rfl
theorem amO:cC 7 P.asj:=rfl
theorem aok:cC 9 P.atG:=rfl
theorem alf:cC 10 P.au8:=rfl
theorem ak8:cC 11 P.arP:=rfl
theorem aax:code.fns 12=.nilfn P.aum:=rfl
theorem alj:cC 13 P.auP:=rfl
theorem alX:cC 14 P.auW:=rfl
theorem anY:cC 15 P.atP:=rfl
theorem an4:cC 16 P.auT:=rfl
theorem alW:cC 17 P.ass:=rfl
theorem ant:cC 18 P.asV:=rfl
theorem aos:cC 19 P.auJ:=rfl
theorem alH:cC 20 P.atN:=rfl
theorem ak6:cC 21 P.auH:=rfl
theorem al4:cC 22 P.auO:=rfl
theorem am9:cC 23 P.atX:=rfl
theorem alA:cC 24 P.au7:=rfl
theorem akU:cC 26 P.atu:=rfl
theorem amV:cC 27 P.arX:=rfl
theorem alO:cC 28 P.arJ:=rfl
theorem anh:cC 29 P.atl:=rfl
theorem alL:cC 30 P.auM:=rfl
theorem ak2:cC 31 P.arQ:=rfl
theorem anW:cC 32 P.arI:=rfl
theorem aoj:cC 33 P.arH:=rfl
theorem alk:cC 34 P.auy:=rfl
theorem akZ:cC 36 P.au4:=rfl
theorem alU:cC 37 P.atr:=rfl
theorem aoa:cC 38 P.auq:=rfl
theorem akP:cC 39 P.aul:=rfl
theorem alG:cC 40 P.au3:=rfl
theorem am5:cC 41 P.ar8:=rfl
theorem aki:cC 42 P.auI:=rfl
theorem amc:cC 48 P.asi:=rfl
theorem amp:cC 49 P.asP:=rfl
theorem agD:cC 50 P.asH:=rfl
theorem an7:cC 51 P.aui:=rfl
theorem anC:cC 52 P.auu:=rfl
theorem ani:cC 53 P.ar9:=rfl
theorem alp:cC 54 P.as2:=rfl
theorem anr:cC 55 P.arF:=rfl
theorem akd:cC 56 P.as9:=rfl
theorem alg:cC 57 P.aus:=rfl
theorem anc:cC 58 P.as4:=rfl
theorem aor:cC 60 P.au1:=rfl
theorem amu:cC 61 P.atv:=rfl
theorem alc:cC 62 P.att:=rfl
theorem akn:cC 63 P.atW:=rfl
theorem agC:code.fns 64=.nilfn P.auA:=rfl
theorem apS:cC 66 P.arE:=rfl
theorem apx:cC 67 P.ary:=rfl
theorem anq:cC 68 P.arx:=rfl
theorem am4:cC 69 P.ase:=rfl
theorem agX:code.fns 70=.nilfn P.auQ:=rfl
theorem agU:code.fns 71=.nilfn P.at5:=rfl
theorem agt:code.fns 72=.nilfn P.aut:=rfl
theorem akT:cC 73 P.atj:=rfl
theorem amq:cC 74 P.aug:=rfl
theorem an9:cC 75 P.atg:=rfl
theorem amJ:cC 76 P.auc:=rfl
theorem Zc:cC 77 P.asd:=rfl
theorem amP:cC 78 P.atA:=rfl
theorem agy:cC 79 P.atm:=rfl
theorem anp:cC 80 P.ar7:=rfl
theorem YU:cC 82 P.arG:=rfl
theorem agJ:cC 83 P.ar3:=rfl
theorem aks:cC 84 P.auZ:=rfl
theorem agk:cC 85 P.atc:=rfl
theorem aot:cC 86 P.ats:=rfl
theorem alz:cC 87 P.au9:=rfl
theorem ak5:cC 88 P.asz:=rfl
theorem aqd:cC 89 P.arC:=rfl
theorem ap1:cC 90 P.arB:=rfl
theorem amE:cC 91 P.au2:=rfl
theorem al2:cC 92 P.auh:=rfl
theorem anS:cC 93 P.arT:=rfl
theorem anV:cC 94 P.ar5:=rfl
theorem ala:cC 95 P.atC:=rfl
theorem akL:cC 96 P.auD:=rfl
theorem afm:cC 97 P.ata:=rfl
theorem anE:cC 98 P.arL:=rfl
theorem anz:cC 99 P.atz:=rfl
theorem amT:cC 100 P.aud:=rfl
theorem afR:cC 101 P.asN:=rfl
theorem an3:cC 102 P.atL:=rfl
theorem anN:cC 103 P.auR:=rfl
theorem aff:cC 104 P.asf:=rfl
theorem aop:cC 105 P.auL:=rfl
theorem ae0:cC 106 P.ash:=rfl
@[simp] theorem am7:bG 106:=oB ae0 rfl
theorem Xg:cC 107 P.asm:=rfl
theorem aoc:cC 108 P.atp:=rfl
theorem anI:cC 109 P.auv:=rfl
theorem akq:cC 110 P.atx:=rfl
theorem afW:cC 111 P.asY:=rfl
theorem akh:cC 112 P.arM:=rfl
theorem ahb:cC 113 P.atf:=rfl
theorem apX:cC 114 P.atH:=rfl
theorem aoB:cC 115 P.atI:=rfl
theorem anG:cC 116 P.atn:=rfl
theorem aqi:cC 117 P.auj:=rfl
theorem ahg:cC 118 P.asB:=rfl
theorem amx:cC 119 P.au0:=rfl
theorem aky:cC 122 P.ath:=rfl
theorem anD:cC 123 P.asc:=rfl
theorem ahp:cC 124 P.asI:=rfl
theorem al3:cC 125 P.auf:=rfl
theorem aeS:cC 126 P.asA:=rfl
theorem alr:cC 127 P.ar0:=rfl
theorem amG:cC 128 P.ar2:=rfl
theorem amQ:cC 129 P.auo:=rfl
theorem afb:cC 130 P.asU:=rfl
theorem afQ:cC 131 P.as8:=rfl
theorem akc:cC 132 P.auw:=rfl
theorem ap7:cC 133 P.asW:=rfl
theorem Yu:cC 134 P.arY:=rfl
theorem aqe:cC 135 P.arA:=rfl
theorem akX:cC 136 P.ava:=rfl
theorem al5:cC 137 P.asR:=rfl
theorem ap9:cC 138 P.arz:=rfl
theorem aps:cC 139 P.asZ:=rfl
theorem ap3:cC 140 P.aty:=rfl
theorem apZ:cC 141 P.atZ:=rfl
theorem anL:cC 142 P.aue:=rfl
theorem amk:cC 143 P.arO:=rfl
theorem amZ:cC 144 P.aub:=rfl
theorem apk:cC 145 P.ati:=rfl
theorem amN:cC 146 P.as7:=rfl
theorem ag5:cC 147 P.asK:=rfl
theorem amz:cC 148 P.auK:=rfl
theorem ak4:cC 149 P.as5:=rfl
theorem alM:cC 150 P.arK:=rfl
theorem aqh:cC 151 P.asv:=rfl
theorem akv:cC 152 P.auN:=rfl
theorem anQ:cC 153 P.asx:=rfl
theorem ape:cC 154 P.atK:=rfl
theorem akN:cC 155 P.atM:=rfl
theorem alV:cC 156 P.atb:=rfl
theorem apY:cC 157 P.asF:=rfl
theorem afz:cC 158 P.asC:=rfl
theorem alD:cC 159 P.ar6:=rfl
theorem anb:cC 160 P.atT:=rfl
theorem akg:cC 161 P.asL:=rfl
theorem amg:cC 163 P.atk:=rfl
theorem aoC:cC 164 P.au5:=rfl
theorem amo:cC 165 P.aur:=rfl
theorem Xq:cC 166 P.asu:=rfl
theorem akC:cC 167 P.atB:=rfl
theorem afu:cC 168 P.atq:=rfl
theorem ald:cC 169 P.ate:=rfl
theorem anJ:cC 170 P.as3:=rfl
theorem alv:cC 171 P.ar4:=rfl
theorem anF:cC 172 P.asO:=rfl
theorem aeH:cC 173 P.asb:=rfl
theorem akQ:cC 174 P.asJ:=rfl
theorem aqj:cC 175 P.asD:=rfl
theorem apl:cC 176 P.atD:=rfl
theorem apJ:cC 177 P.auX:=rfl
theorem anw:cC 178 P.auF:=rfl
theorem als:cC 179 P.asQ:=rfl
theorem akj:cC 180 P.arS:=rfl
theorem aln:cC 181 P.asS:=rfl
theorem aeQ:cC 182 P.atd:=rfl
theorem agc:cC 183 P.as1:=rfl
theorem alC:cC 184 P.asw:=rfl
theorem aqa:cC 189 P.arV:=rfl
theorem akm:cC 190 P.asg:=rfl
theorem amr:cC 191 P.auY:=rfl
theorem akG:cC 192 P.asy:=rfl
theorem ae8:cC 193 P.ato:=rfl
theorem afg:cC 194 P.arU:=rfl
theorem aoh:cC 195 P.atE:=rfl
theorem apz:cC 196 P.arD:=rfl
theorem aoF:cC 197 P.aua:=rfl
theorem amj:cC 198 P.asX:=rfl
theorem ak3:cC 199 P.auU:=rfl
theorem ae9:cC 200 P.arW:=rfl
@[simp] theorem ako:bG 200:=oB ae9 rfl
theorem anK:cC 201 P.aux:=rfl
theorem Xj:cC 202 P.as6:=rfl
@[simp] theorem ank:bG 202:=oB Xj rfl
theorem akI:cC 203 P.atS:=rfl
theorem am8:cC 204 P.asE:=rfl
theorem aph:cC 205 P.arN:=rfl
theorem YG:cC 215 P.asp:=rfl
theorem anM:cC 219 P.atU:=rfl
theorem alb:cC 222 P.auS:=rfl
theorem aoE:cC 224 P.ast:=rfl
theorem amY:cC 225 P.asn:=rfl
theorem amK:cC 226 P.asr:=rfl
theorem alP:cC 266 P.as0:=rfl
theorem amA:cC 267 P.ar1:=rfl
theorem am2:cC 268 P.auz:=rfl
theorem aeJ:cC 271 P.asG:=rfl
theorem alm:cC 272 P.aup:=rfl
theorem ap2:cC 275 P.asT:=rfl
theorem amL:cC 276 P.asM:=rfl
theorem ane:cC 279 P.aun:=rfl
theorem akf:cC 280 P.atV:=rfl
theorem alN:cC 281 P.asq:=rfl
theorem akB:cC 282 P.auB:=rfl
theorem aml:cC 290 P.auC:=rfl
theorem amf:cC 399 P.auE:=rfl
theorem am1:cC 401 P.atJ:=rfl
theorem agi:cC 403 P.aso:=rfl
theorem aly:cC 404 P.auV:=rfl
theorem amy:cC 405 P.atF:=rfl
theorem aoi:cC 406 P.au6:=rfl
theorem amX:cC 407 P.atY:=rfl
theorem amv:cC 408 P.atw:=rfl
theorem C7:code.fns 8=.prim 4:=rfl
theorem pq:code.fns 25=.prim 6:=rfl
theorem yp:code.fns 43=.prim 2:=rfl
theorem Nl:code.fns 65=.prim 8:=rfl
@[simp] theorem aoX:bG 1∧bG 2∧bG 3∧bG 4∧bG 5∧bG 6∧bG 7∧bG 9∧bG 10∧bG 11∧bG 13∧bG 14∧bG 15∧bG 16∧bG 17∧bG 19∧bG 21∧bG 22∧bG 23∧bG 24∧bG 26∧bG 27∧bG 28∧bG 29∧bG 30∧bG 32∧bG 33∧bG 34∧bG 36∧bG 37∧bG 38∧bG 39∧bG 40∧bG 41∧bG 42∧bG 49∧bG 50∧bG 52∧bG 53∧bG 54:=by and_intros<;>exact oB rfl rfl
@[simp] theorem aob:bG 55∧bG 56∧bG 57∧bG 58∧bG 60∧bG 61∧bG 62∧bG 66∧bG 67∧bG 68∧bG 69∧bG 74∧bG 75∧bG 76∧bG 81∧bG 83∧bG 84∧bG 85∧bG 86∧bG 87∧bG 88∧bG 89∧bG 90∧bG 92∧bG 99∧bG 100∧bG 101∧bG 104∧bG 108∧bG 114∧bG 115∧bG 116∧bG 117∧bG 119∧bG 120∧bG 121∧bG 122∧bG 123∧bG 124∧bG 125:=by and_intros<;>exact oB rfl rfl
@[simp] theorem akJ:bG 133∧bG 134∧bG 135∧bG 136∧bG 137∧bG 138∧bG 139∧bG 140∧bG 144∧bG 145∧bG 148∧bG 151∧bG 152∧bG 153∧bG 154∧bG 155∧bG 156∧bG 157∧bG 160∧bG 161∧bG 162∧bG 163∧bG 164∧bG 165∧bG 167∧bG 171∧bG 172∧bG 174∧bG 175∧bG 176∧bG 177∧bG 178∧bG 183∧bG 184∧bG 185∧bG 186∧bG 189∧bG 191∧bG 196∧bG 198:=by and_intros<;>exact oB rfl rfl
@[simp] theorem aj1:bG 199∧bG 203∧bG 204∧bG 219∧bG 222∧bG 224∧bG 225∧bG 266∧bG 267∧bG 268∧bG 272∧bG 275∧bG 276∧bG 279∧bG 280∧bG 281∧bG 282∧bG 290∧bG 398∧bG 399∧bG 400∧bG 401∧bG 402∧bG 403∧bG 404∧bG 405∧bG 406∧bG 407∧bG 408:=by and_intros<;>exact oB rfl rfl
end Go.AM
end
namespace Go.AM
noncomputable def sY(b:az)(r:Option (Ex×St)):Option (Ex×St):=r.bind fun r=>match r.1 with
 |.nrm=>run code b r.2
 |e=>some (e,r.2)
noncomputable def C8(env:List aq)(is:List cr)(ls:List aq)(q:Option (aq×aw)):Option (List aq×aw):=
 q.bind fun q=>oT code env is (ls++[q.1]) q.2
noncomputable def Gn(env:List aq)(i:cr)(is:List cr)(ls:List aq)(σ:aw)(t:Option Bool):Option (List aq×aw):=
 match t with
 |some true=>C8 env is ls (step code env ls σ i.op)
 |some false=>oT code env is (ls++[.tup []]) σ
 |none=>none
def Us(env:List aq)(os:List (Nat×dd))(r:Option (List aq×aw)):Option (Ex×St):=
 r.map fun r=>(.nrm,⟨sL env env r.1 os,r.2⟩)
def rO(id:Nat)(r:Option (Ex×St)):Option (Ex×St):=r.map fun r=>match r.1 with
 |.ext j=>if j=id then (.nrm,r.2) else r
 |_=>r
noncomputable def GJ(a b:az)(s:St)(c:aq):Option (Ex×St):=match c with
 |.bool true=>run code a s
 |.bool false=>run code b s
 |_=>none
noncomputable def dh(base:Nat)(clr:List Nat)(b:az)(r:Option (Ex×St)):Option (Ex×St):=r.bind fun r=>match r.1 with
 |.nrm=>bT code base clr b (bN base clr r.2)
 |e=>some (e,r.2)
def Uo(l:Nat)(env:List aq)(r:Option (aq×aw)):Option (Ex×St):=r.bind fun r=>sK l env r.2
noncomputable def Jn(env:List aq)(b:az)(r:Option aw):Option (Ex×St):=r.bind fun σ=>run code b ⟨env,σ⟩
noncomputable def TK(env:List aq)(is:List cr)(ls:List aq)(ss:List aw)(q:Option (aq×aw)):Option (List aq×List aw×aw):=
 q.bind fun q=>BY code env is (ls++[q.1]) ss q.2
noncomputable def Xn(env:List aq)(i:cr)(is:List cr)(ls:List aq)(ss:List aw)(σ:aw)(t:Option Bool):Option (List aq×List aw×aw):=
 match t with
 |some true=>TK env is ls (ss++[σ]) (step code env ls σ i.op)
 |some false=>BY code env is (ls++[.tup []]) (ss++[σ]) σ
 |none=>none
noncomputable def UQ(env:List aq)(os:List (Nat×dd))(is:List cr)(chk:List (Nat×Nat))(r:Option (List aq×List aw×aw)):Option (Ex×St):=
 r.bind fun r=>(sJ code env r.1 is (r.2.1++[r.2.2]) chk).map fun _=>(.nrm,⟨sL env env r.1 os,r.2.2⟩)
noncomputable def Gi(env ls:List aq)(is:List cr)(ss:List aw)(n:Nat)(τ:aw)(l:List (Nat×Nat))(q:Option (aq×aw)):Option Unit:=
 q.bind fun q=>if same q.1 (pr ls n)&&sr q.2 τ then sJ code env ls is ss l else none
noncomputable def Y8(env ls:List aq)(is:List cr)(ss:List aw)(n:Nat)(l:List (Nat×Nat))(i:Option cr)(t:Option aw):Option Unit:=
 match i,t with
 |some i,some τ=>Gi env ls is ss n τ l (step code env (ls.take n) τ i.op)
 |_,_=>none
def wG(m:C4)(res:List NG)(r:Option (Ex×St)):Option aq:=r.bind fun r=>match r.1 with
 |.ext _=>none
 |_=>(results r.2 res).map fun v=>(iu m [] r.2 v).1
@[simp ↓] theorem fy(a b:az)(s:St):run code (.seq a b) s=sY b (run code a s):=aeG good a b s
@[simp ↓] theorem apL(s:St):run code .skip s=some (.nrm,s):=Xo good s
@[simp ↓] theorem aqg(id:Nat)(s:St):run code (.exit id) s=some (.ext id,s):=aaz good id s
@[simp ↓] theorem aqv(s:St):run code .ret s=some (.ret,s):=ad2 good s
@[simp ↓] theorem aqG(a:List cr)(os:List (Nat×dd))(env:List aq)(σ:aw):run code (.reg a os) ⟨env,σ⟩=Us env os (oT code env a [] σ):=adi good a os _
@[simp ↓] theorem ap6(c:dd)(a b:az)(env:List aq)(σ:aw):run code (.cond c a b) ⟨env,σ⟩=GJ a b ⟨env,σ⟩ (c.eval env []):=by
 rw[YQ good];rfl
@[simp ↓] theorem agS(id:Nat)(b:az)(s:St):run code (.blk id b) s=rO id (run code b s):=adj good id b s
@[simp ↓] theorem aoR(b:az)(s:St):run code (.scope b) s=run code b s:=VK good b s
@[simp ↓] theorem apI(clr:List Nat)(b:az)(env:List aq)(σ:aw):run code (.loop clr b) ⟨env,σ⟩=bT code σ.length clr b ⟨clear env clr,σ⟩:=Z8 good clr b _
@[simp ↓] theorem aqn(k:Nat)(f:dd)(a:Nat)(env:List aq)(σ:aw):run code (.rng k f a) ⟨env,σ⟩=if env.length=k then Uo σ.length env (Mr code (f.eval env []) [.yld σ.length a env] (σ++[.pend false none])) else none:=acs good k f a _
@[simp ↓] theorem aid(i off k:Nat)(b:az)(env:List aq)(σ:aw):run code (.lift i off k b) ⟨env,σ⟩=Jn env b (HB (pr env i) off k σ):=aa1 good i off k b _
@[simp ↓] theorem apD(b:List cr)(os:List (Nat×dd))(a:List (Nat×Nat))(env:List aq)(σ:aw):run code (.regd b os a) ⟨env,σ⟩=UQ env os b a (BY code env b [] [] σ):=XE good b os a _
@[simp ↓] theorem aqJ(env ls:List aq)(ss:List aw)(σ:aw):BY code env [] ls ss σ=some (ls,ss,σ):=abb good env ls ss σ
@[simp ↓] theorem T_i(env ls:List aq)(ss:List aw)(σ:aw)(o:If)(a:List cr):BY code env (P.i o::a) ls ss σ=TK env a ls (ss++[σ]) (step code env ls σ o):=KW good env _ a ls ss σ
@[simp ↓] theorem T_g(env ls:List aq)(ss:List aw)(σ:aw)(x:dd)(b:Bool)(o:If)(a:List cr) :
  BY code env (P.g x b o::a) ls ss σ=Xn env (P.g x b o) a ls ss σ (wanted env ls (some (x,b))):=KW good env _ a ls ss σ
@[simp] theorem aoM(env:List aq)(x:dd)(b:Bool)(o:If)(a:List cr)(ls:List aq)(ss:List aw)(σ:aw) :
  Xn env (P.g x b o) a ls ss σ (some true)=TK env a ls (ss++[σ]) (step code env ls σ o):=rfl
@[simp] theorem ao7(env:List aq)(i:cr)(a:List cr)(ls:List aq)(ss:List aw)(σ:aw) :
  Xn env i a ls ss σ (some false)=BY code env a (ls++[.tup []]) (ss++[σ]) σ:=rfl
@[simp] theorem ai8(env:List aq)(a:List cr)(ls:List aq)(ss:List aw)(v:aq)(σ:aw):TK env a ls ss (some (v,σ))=BY code env a (ls++[v]) ss σ:=rfl
@[simp] theorem acO(env:List aq)(os:List (Nat×dd))(b:List cr)(a:List (Nat×Nat))(ls:List aq)(ss:List aw)(σ:aw) :
  UQ env os b a (some (ls,ss,σ))=(sJ code env ls b (ss++[σ]) a).map fun _=>(.nrm,⟨sL env env ls os,σ⟩):=rfl
@[simp ↓] theorem aqx(env ls:List aq)(a:List cr)(ss:List aw):sJ code env ls a ss []=some ():=P4 good env ls a ss
@[simp ↓] theorem apK(env ls:List aq)(a:List cr)(ss:List aw)(n j:Nat)(l:List (Nat×Nat)):sJ code env ls a ss ((n,j)::l)=Y8 env ls a ss n l a[n]? ss[j]?:=by
 rw[PA good];unfold Y8 Gi;cases a[n]?<;>cases ss[j]?<;>rfl
@[simp] theorem ahy(env ls:List aq)(a:List cr)(ss:List aw)(n:Nat)(l:List (Nat×Nat))(o:If)(τ:aw):Y8 env ls a ss n l (some (P.i o)) (some τ)=Gi env ls a ss n τ l (step code env (ls.take n) τ o):=rfl
@[simp] theorem acw(env ls:List aq)(a:List cr)(ss:List aw)(n:Nat)(τ:aw)(l:List (Nat×Nat))(v:aq)(σ:aw):Gi env ls a ss n τ l (some (v,σ))=if same v (pr ls n)&&sr σ τ then sJ code env ls a ss l else none:=rfl
@[simp] theorem ab3(env:List aq)(b:az)(σ:aw):Jn env b (some σ)=run code b ⟨env,σ⟩:=rfl
@[simp] theorem ars(f:Nat)(a c args:List aq)(σ:aw):Mr code (.fn f a c) args σ=cD code f (a++args++c) σ:=rfl
attribute [simp] tW jO By
@[simp ↓] theorem aqk(env ls:List aq)(σ:aw):oT code env [] ls σ=some (ls,σ):=RB good env ls σ
@[simp ↓] theorem O_i(env ls:List aq)(σ:aw)(o:If)(a:List cr):oT code env (P.i o::a) ls σ=C8 env a ls (step code env ls σ o):=FB good env _ a ls σ
@[simp ↓] theorem O_g(env ls:List aq)(σ:aw)(x:dd)(b:Bool)(o:If)(a:List cr) :
  oT code env (P.g x b o::a) ls σ=Gn env (P.g x b o) a ls σ (wanted env ls (some (x,b))):=FB good env _ a ls σ
@[simp] theorem apQ(env:List aq)(x:dd)(b:Bool)(o:If)(a:List cr)(ls:List aq)(σ:aw) :
  Gn env (P.g x b o) a ls σ (some true)=C8 env a ls (step code env ls σ o):=rfl
@[simp] theorem apm(env:List aq)(i:cr)(a:List cr)(ls:List aq)(σ:aw) :
  Gn env i a ls σ (some false)=oT code env a (ls++[.tup []]) σ:=rfl
@[simp] theorem bW(b:az)(s:St):sY b (some (.nrm,s))=run code b s:=rfl
@[simp] theorem ahe(b:az)(s:St)(id:Nat):sY b (some (.ext id,s))=some (.ext id,s):=rfl
@[simp] theorem Pm(b:az)(s:St):sY b (some (.ret,s))=some (.ret,s):=rfl
@[simp] theorem adV(env:List aq)(a:List cr)(ls:List aq)(v:aq)(σ:aw):C8 env a ls (some (v,σ))=oT code env a (ls++[v]) σ:=rfl
@[simp] theorem ad7(env:List aq)(os:List (Nat×dd))(ls:List aq)(σ:aw):Us env os (some (ls,σ))=some (.nrm,⟨sL env env ls os,σ⟩):=rfl
@[simp] theorem O4(id:Nat)(s:St):rO id (some (.nrm,s))=some (.nrm,s):=rfl
@[simp] theorem agM(id:Nat)(s:St):rO id (some (.ret,s))=some (.ret,s):=rfl
@[simp] theorem aha(id j:Nat)(s:St):rO id (some (.ext j,s))=some (if j=id then (.nrm,s) else (.ext j,s)):=by
 simp[rO]
@[simp] theorem apN(a b:az)(s:St):GJ a b s (.bool true)=run code a s:=rfl
@[simp] theorem ap5(a b:az)(s:St):GJ a b s (.bool false)=run code b s:=rfl
@[simp] theorem AQ(m:C4)(a:List NG)(s:St):wG m a (some (.ret,s))=(results s a).map fun v=>(iu m [] s v).1:=rfl
@[simp] theorem ab2(m:C4)(a:List NG)(s:St):wG m a (some (.nrm,s))=(results s a).map fun v=>(iu m [] s v).1:=rfl
theorem aR{f:Nat}{g:br}(h:code.fns f=.fn g)(a:g.mode.isPure=true)(args:List aq) :
  bB f args=wG g.mode g.res (run code g.body ⟨(args.take g.np).map (snap [])++List.replicate (g.nenv-g.np) .any,[]⟩):=Xr h a args
@[simp ↓] theorem apT(env ls:List aq)(σ:aw)(f:Nat)(args:List dd)(a:Bool) :
  step code env ls σ (.call f args a)=(cD code f (args.map (·.eval env ls)) σ).map (mater a):=WW good env ls σ f args a
@[simp ↓] theorem aoZ(env ls:List aq)(σ:aw)(f:dd)(args:List dd) :
  step code env ls σ (.callv f args)=(jh code (f.eval env ls) (args.map (·.eval env ls)) σ).map (mater false):=Qr good env ls σ f args
@[simp] theorem aiQ(f:Nat)(a c args:List aq)(σ:aw):jh code (.fn f a c) args σ=cD code f (a++args++c) σ:=rfl
attribute [simp ↓] aoq aiD anO aej adC akK aiP adD ahO aiZ act anu ai6 ahG ahJ ai2 aik aom akM amd  amF ahI adR abD Zf Ym alu ajF alT akk ai9 ah6 aip ahU aiJ ahS ams acY acX ah0 aiN ah7 alw ajs adf acM acL anX akF
attribute [simp] apy akp yJ abd vS gZ o5 oF dz re Iy RY uz eR sR ut jK HB Eb Db KU ack eqb eqa neg abB N7 JK vK aslice Im JI Dr NB TE aaI N8 zj PC ZI Tl adt fresh CX sliceAt uq Y6 ic xd Dm dd.eval pr sL clear wanted bin Lk shift una td rc rd loadAt storeAt results Az Ll iu ZJ oJ lR ang Nm fill xa
@[simp] theorem aiy(cs:List aq):aM (.agg cs)=cs.length:=rfl
@[simp] theorem ajA(k:IntKind)(n:Int):aM (.int k n)=1:=rfl
@[simp] theorem afK(b:Bool):aM (.bool b)=1:=rfl
@[simp] theorem ahX(s:List UInt8):aM (.str s)=1:=rfl
@[simp] theorem aiS(b:Bool)(xs:List aq):aM (.aa b xs)=1:=rfl
@[simp] theorem aiL(xs:List aq):aM (.lst xs)=1:=rfl
@[simp] theorem ahw:aM .ai=1:=rfl
@[simp] theorem ago:aM .nilp=1:=rfl
@[simp] theorem agv:aM .nilf=1:=rfl
@[simp] theorem ahs:aM .nilm=1:=rfl
@[simp] theorem ajU(a b c d:Nat):aM (.sl a b c d)=1:=rfl
@[simp] theorem ai4(a b c d:Nat):aM (.ptr a b c d)=1:=rfl
@[simp] theorem afv(b:Bool)(x:aq)(o:Nat):aM (.cptr b x o)=1:=rfl
@[simp] theorem ajL(f:Nat)(a c:List aq):aM (.fn f a c)=1:=rfl
@[simp] theorem aj2(i:Nat):aM (.mp i)=1:=rfl
@[simp] theorem afs(b:Bool)(e:List (aq×aq)):aM (.imap b e)=1:=rfl
@[simp] theorem aj3(cs:List aq):isAgg (.agg cs)=true:=rfl
@[simp] theorem ajN(k:IntKind)(n:Int):isAgg (.int k n)=false:=rfl
@[simp] theorem ajf(b:Bool):isAgg (.bool b)=false:=rfl
@[simp] theorem ajR(s:List UInt8):isAgg (.str s)=false:=rfl
@[simp] theorem ajQ(b:Bool)(xs:List aq):isAgg (.aa b xs)=false:=rfl
@[simp] theorem aj6(xs:List aq):isAgg (.lst xs)=false:=rfl
@[simp] theorem ajm:isAgg .ai=false:=rfl
@[simp] theorem ajE:isAgg .nilp=false:=rfl
@[simp] theorem aiT:isAgg .nilf=false:=rfl
@[simp] theorem ajj:isAgg .nilm=false:=rfl
@[simp] theorem ali(a b c d:Nat):isAgg (.sl a b c d)=false:=rfl
@[simp] theorem aj4(a b c d:Nat):isAgg (.ptr a b c d)=false:=rfl
@[simp] theorem aie(b:Bool)(x:aq)(o:Nat):isAgg (.cptr b x o)=false:=rfl
@[simp] theorem amH(f:Nat)(a c:List aq):isAgg (.fn f a c)=false:=rfl
@[simp] theorem ake(i:Nat):isAgg (.mp i)=false:=rfl
@[simp] theorem aje(b:Bool)(e:List (aq×aq)):isAgg (.imap b e)=false:=rfl
@[simp] theorem ag6(cs:List aq):cellsOf (.agg cs)=cs:=rfl
@[simp] theorem agu(k:IntKind)(n:Int):cellsOf (.int k n)=[.int k n]:=rfl
@[simp] theorem aeC(b:Bool):cellsOf (.bool b)=[.bool b]:=rfl
@[simp] theorem af5(s:List UInt8):cellsOf (.str s)=[.str s]:=rfl
@[simp] theorem afG(b:Bool)(xs:List aq):cellsOf (.aa b xs)=[.aa b xs]:=rfl
@[simp] theorem aiw(a b c d:Nat):cellsOf (.sl a b c d)=[.sl a b c d]:=rfl
@[simp] theorem ads:cellsOf .ai=[.ai]:=rfl
@[simp] theorem aiA(f:Nat)(a c:List aq):cellsOf (.fn f a c)=[.fn f a c]:=rfl
@[simp] theorem agL(a b c d:Nat):cellsOf (.ptr a b c d)=[.ptr a b c d]:=rfl
@[simp] theorem adb(b:Bool)(x:aq)(o:Nat):cellsOf (.cptr b x o)=[.cptr b x o]:=rfl
section
variable (fl top:Bool) (base:Nat) (σ:aw) (n:Nat)
@[simp] theorem apO(k:IntKind)(m:Int):fz fl top base σ (n+1) (.int k m)=.int k m:=by simp[fz]
@[simp] theorem aoT(b:Bool):fz fl top base σ (n+1) (.bool b)=.bool b:=by simp[fz]
@[simp] theorem apH(s:List UInt8):fz fl top base σ (n+1) (.str s)=.str s:=by simp[fz]
@[simp] theorem ao9:fz fl top base σ (n+1) .ai=if !fl&&top then .ai else .aa false []:=by simp[fz]
@[simp] theorem aoH:fz fl top base σ (n+1) .nilp=.nilp:=by simp[fz]
@[simp] theorem apC:fz fl top base σ (n+1) .any=.any:=by simp[fz]
@[simp] theorem apo(b:Bool):fz fl top base σ (n+1) (.emp b)=.emp b:=by simp[fz]
@[simp] theorem apd(cs:List aq):fz fl top base σ (n+1) (.agg cs)=.agg (cs.map (fz fl top base σ n)):=by simp[fz]
@[simp] theorem apW(cs:List aq):fz fl top base σ (n+1) (.tup cs)=.tup (cs.map (fz fl top base σ n)):=by simp[fz]
@[simp] theorem apg(cs:List aq):fz fl top base σ (n+1) (.lst cs)=oX fl cs (cs.map (fz fl false base σ n)):=by simp[fz]
@[simp] theorem aqQ(f:Nat)(a c:List aq):fz fl top base σ (n+1) (.fn f a c)=.fn f (a.map (fz fl top base σ n)) (c.map (fz fl top base σ n)):=by simp[fz]
@[simp] theorem ao2(xs:List aq):fz fl top base σ (n+1) (.aa false xs)=.aa false xs:=by simp[fz]
@[simp] theorem aoV(b:Bool)(xs:List aq):fz true top base σ (n+1) (.aa b xs)=.aa b xs:=by simp[fz]
@[simp] theorem ao4(b:Bool)(xs:List aq):fz fl true base σ (n+1) (.aa b xs)=.aa b xs:=by simp[fz]
@[simp] theorem akb(x:aq)(o:Nat):fz fl top base σ (n+1) (.cptr false x o)=.cptr false x o:=by simp[fz]
@[simp] theorem an5(x:aq)(o:Nat):fz true top base σ (n+1) (.cptr true x o)=jR true x (fz true false base σ n x) o:=by simp[fz]
@[simp] theorem anZ(x:aq)(o:Nat):fz false true base σ (n+1) (.cptr true x o)=jR true x (fz false true base σ n x) o:=by simp[fz]
@[simp] theorem akw(x:List (aq×aq)):fz fl top base σ (n+1) (.imap false x)=.imap false x:=by simp[fz]
@[simp] theorem aqR(id ep off len:Nat):fz fl top base σ (n+1) (.sl id ep off len)=if id<base then (if top then .sl id ep off len else .any) else (sliceAt σ id ep off len).elim .any fun l=>oX fl l (l.map (fz fl false base σ n)):=by simp only[fz]
@[simp] theorem aqc(id ep i off:Nat):fz fl top base σ (n+1) (.ptr id ep i off)=if id<base then (if top then .ptr id ep i off else .any) else (uq σ id ep i).elim .any fun x=>jR fl x (fz fl false base σ n x) off:=by simp only[fz]
@[simp] theorem aqE(id:Nat):fz fl top base σ (n+1) (.mp id)=if id<base then (if top then .mp id else .any) else (ic σ id).elim .any fun es=>.imap fl (es.map fun e=>(e.1,fz fl false base σ n e.2)):=by simp only[fz]
end
attribute [simp] oX jR KJ Vv
@[simp] theorem ajK(σ:aw)(v:aq):rC σ v=fz false false 0 σ 20 v:=rfl
@[simp] theorem GN(σ:aw)(v:aq):snap σ v=fz true false 0 σ 20 v:=rfl
@[simp] theorem aj8(b:Nat)(σ:aw)(v:aq):cq b σ v=fz false true b σ 20 v:=rfl
@[simp] theorem ab1(k:IntKind)(n:Int)(σ:aw):mater false (.int k n,σ)=(.int k n,σ):=rfl
attribute [simp] mater vO
theorem jJ{n:Int}(h:-9223372036854775808≤n∧n<9223372036854775808):IntKind.i64.wrap n=n:=by
 simp[IntKind.wrap,IntKind.bits,IntKind.signed];omega
end Go.AM
namespace Go.AM
theorem cY{base:Nat}{clr:List Nat}{b:az}(I:Nat→St)(n:Nat)(r:Ex×St)
  (step:∀k,k<n→dh base clr b (run code b (I k))=bT code base clr b (I (k+1))) (a:dh base clr b (run code b (I n))=some r) :
  bT code base clr b (I 0)=some r:=by
 have key:∀m k,k+m=n→bT code base clr b (I k)=some r:=by
  intro m;induction m with
  |zero=>
   intro k c;obtain rfl:k=n:=by omega
   rw[ry good];exact a
  |succ m d=>
   intro k c;rw[ry good];exact (step k (by omega)).trans (d (k+1) (by omega))
 exact key n 0 (by omega)
@[simp] theorem acp(base:Nat)(clr:List Nat)(b:az)(s:St):dh base clr b (some (.nrm,s))=bT code base clr b (bN base clr s):=rfl
@[simp] theorem adn(base:Nat)(clr:List Nat)(b:az)(s:St)(i:Nat):dh base clr b (some (.ext i,s))=some (.ext i,s):=rfl
@[simp] theorem acD(base:Nat)(clr:List Nat)(b:az)(s:St):dh base clr b (some (.ret,s))=some (.ret,s):=rfl
theorem cO{base:Nat}{clr:List Nat}{env:List aq}{σ:aw}(h:σ.length=base):bN base clr ⟨env,σ⟩=⟨clear env clr,σ⟩:=by
 unfold bN;rw[if_pos (.inl h)]
theorem cU{k n:Nat}(b:k<n)(a:n≤bD):IntKind.i64.wrap ((k:Int)+1)=((k+1:Nat):Int):=by
 rw[jJ (by unfold bD at a;omega)];omega
end Go.AM
namespace Go.AM
def dt{α σ ρ:Type}(g:Nat→α→σ→σ⊕ρ):List α→Nat→σ→σ⊕ρ
 |[],_,s=>.inl s
 |a::l,k,s=>match g k a s with
  |.inl s'=>dt g l (k+1) s'
  |.inr r=>.inr r
theorem aZ(base:Nat)(clr:List Nat)(b:az)(s:St):bT code base clr b s=dh base clr b (run code b s):=ry good base clr b s
theorem iL{e σ ρ:Type}{base:Nat}{clr:List Nat}{b:az}(l:List e)(S:Nat→σ→St)(yh:Nat→σ→Prop)(g:Nat→e→σ→σ⊕ρ)(E:σ→Ex×St)(Q:ρ→Ex×St→Prop)
  (a:∀k y s,k<l.length→l[k]?=some y→yh k s→match g k y s with
   |.inl s'=>dh base clr b (run code b (S k s))=bT code base clr b (S (k+1) s')∧yh (k+1) s'
   |.inr r=>∃o,dh base clr b (run code b (S k s))=some o∧Q r o)
  (d:∀s,yh l.length s→dh base clr b (run code b (S l.length s))=some (E s)) (s:σ) (h:yh 0 s) :
  match dt g l 0 s with
   |.inl s'=>yh l.length s'∧bT code base clr b (S 0 s)=some (E s')
   |.inr r=>∃o,bT code base clr b (S 0 s)=some o∧Q r o:=by
 have key:∀(m:List e) k s,l.drop k=m→k≤l.length→yh k s→match dt g m k s with
   |.inl s'=>yh l.length s'∧bT code base clr b (S k s)=some (E s')
   |.inr r=>∃o,bT code base clr b (S k s)=some o∧Q r o:=by
  intro m;induction m with
  |nil=>
   intro k s hd i hi;have:k=l.length:=by
    have:=congrArg List.length hd;simp at this;omega
   subst this;simp only[dt];exact⟨hi,by rw[aZ];exact d s hi⟩
  |cons y m p=>
   intro k s hd i hi;have f:k<l.length:=by
    have:=congrArg List.length hd;simp at this;omega
   have n:l[k]?=some y:=by
    have:=congrArg (·[0]?) hd;simpa using this
   have j:l.drop (k+1)=m:=by
    have:=congrArg List.tail hd;simpa [kL] using this
   have c:=a k y s f n hi;rw[aZ];simp only[dt];cases hg:g k y s with
   |inl s'=>
    rw[hg]at c;simp only at c ⊢;rw[c.1];exact p (k+1) s' j (by omega) c.2
   |inr r=>
    rw[hg]at c;exact c
 exact key l 0 s (by simp) (cI _) h
theorem om{f:Type}{base:Nat}{clr:List Nat}{b:az}(l:List f)(S:Nat→St)(p:f→Bool)(E:Ex×St)(Q:Ex×St→Prop)
  (e:∀k y,k<l.length→l[k]?=some y→p y=false→dh base clr b (run code b (S k))=bT code base clr b (S (k+1)))
  (d:∀k y,k<l.length→l[k]?=some y→p y=true→∃o,dh base clr b (run code b (S k))=some o∧Q o)
  (c:dh base clr b (run code b (S l.length))=some E) :
  (l.any p=false∧bT code base clr b (S 0)=some E)∨(l.any p=true∧∃o,bT code base clr b (S 0)=some o∧Q o):=by
 have h:=iL (σ:=Unit) (ρ:=Unit) (base:=base) (clr:=clr) (b:=b) l (fun k _=>S k) (fun _ _=>True) (fun _ y _=>if p y then .inr () else .inl ()) (fun _=>E) (fun _=>Q)
  (fun k y s g i _=>by
   cases hp:p y
   ·simpa using e k y g i hp
   simpa using d k y g i hp) (fun _ _=>c) () trivial
 have j:∀(m:List f) k,dt (fun _ y _=>if p y then .inr () else .inl ()) m k ()=if m.any p then .inr () else (.inl ():Unit⊕Unit):=by
  intro m;induction m with
  |nil=>intro k;rfl
  |cons a m n=>
   intro k;cases hp:p a<;>simp[dt,hp,n]
 rw[j]at h;cases hp:l.any p
 ·rw[hp]at h;exact .inl ⟨rfl,h.2⟩
 rw[hp]at h;exact .inr ⟨rfl,h⟩
theorem SO{j n:Type}{base:Nat}{clr:List Nat}{b:az}(l:List j)(S:Nat→Nat→List n→St)(f:j→List n)(E:Nat→List n→Ex×St)(m:Nat)
  (u:∀y∈l,(f y).length≤m)
  (d:∀k y ep a,k<l.length→l[k]?=some y→a.length≤k*m→∃c,dh base clr b (run code b (S k ep a))=bT code base clr b (S (k+1) c (a++f y)))
  (g:∀ep a,a.length≤l.length*m→dh base clr b (run code b (S l.length ep a))=some (E ep a)) (e:Nat) :
  ∃ep,bT code base clr b (S 0 e [])=some (E ep (l.flatMap f)):=by
 have key:∀(r:List j) k ep a,l.drop k=r→k≤l.length→a.length≤k*m→∃c,bT code base clr b (S k ep a)=some (E c (a++r.flatMap f)):=by
  intro r;induction r with
  |nil=>
   intro k ep a hd t h;have:k=l.length:=by
    have:=congrArg List.length hd;simp at this;omega
   subst this;exact⟨ep,by rw[aZ,g ep a h];simp⟩
  |cons y r x=>
   intro k ep a hd t h;have p:k<l.length:=by
    have:=congrArg List.length hd;simp at this;omega
   have o:l[k]?=some y:=by
    have:=congrArg (·[0]?) hd;simpa using this
   have v:l.drop (k+1)=r:=by
    have:=congrArg List.tail hd;simpa [kL] using this
   obtain⟨c,w⟩:=d k y ep a p o h;have i:y∈l:=aN o
   obtain⟨q,s⟩:=x (k+1) c (a++f y) v (by omega) (by
    rw[cn,Nat.succ_mul];have:=u y i;omega)
   exact⟨q,by rw[aZ,w,s];simp⟩
 have:=key l 0 e [] (by simp) (cI _) (by simp);simpa using this
end Go.AM
namespace Go.AM
theorem gL{e σ:Type}{base:Nat}{clr:List Nat}{b:az}(l:List e)(S:Nat→σ→St)(yh:Nat→σ→Prop)(g:σ→e→σ)(E:σ→Ex×St)
  (c:∀k y s,k<l.length→l[k]?=some y→yh k s→dh base clr b (run code b (S k s))=bT code base clr b (S (k+1) (g s y))∧yh (k+1) (g s y))
  (d:∀s,yh l.length s→dh base clr b (run code b (S l.length s))=some (E s)) (s:σ) (h:yh 0 s) :
  bT code base clr b (S 0 s)=some (E (l.foldl g s))∧yh l.length (l.foldl g s):=by
 have:=iL (ρ:=Empty) (base:=base) (clr:=clr) (b:=b) l S yh (fun _ y s=>.inl (g s y)) E (fun r _=>r.elim) (fun k y s i j hi=>c k y s i j hi) d s h;have f:∀(m:List e) k s,dt (ρ:=Empty) (fun _ y s=>.inl (g s y)) m k s=.inl (m.foldl g s):=by
  intro m;induction m with
  |nil=>intro k s;rfl
  |cons a m n=>intro k s;simp only[dt,dZ];exact n _ _
 rw[f]at this;exact⟨this.2,this.1⟩
end Go.AM
namespace Go.AM
open P
set_option maxHeartbeats 1000000
end Go.AM
namespace Go.AM
theorem abh{n f:Nat}{args:List aq}{σ:aw}{r:aq×aw}(h:dV code n f args σ=some r):cD code f args σ=some r:=IY (mf good f args σ) h
theorem kQ{n f:Nat}{args:List aq}{v:aq}{σ:aw}(h:dV code n f args []=some (v,σ)):bB f args=some v:=by
 unfold bB;rw[abh h];rfl
end Go.AM
namespace Go.AM
open P
set_option maxHeartbeats 2000000
theorem lD(base:Nat)(clr:List Nat)(b:az)(s:St):bT code base clr b s=dh base clr b (run code b s):=ry good base clr b s
end Go.AM
namespace Go.AM
open P
set_option maxHeartbeats 2000000
set_option maxRecDepth 4000
theorem vB{g:br}(a:g.mode.isPure=true)(args:List aq)(σ:aw):me code g args σ=((me code g (args.map (snap σ)) []).map (·.1)).map (·,σ):=by
 unfold me;have c:enter g args σ=enter g (args.map (snap σ)) []:=by
  have b:((args.map (snap σ)).take g.np).map (snap [])=(args.take g.np).map (snap σ):=by
   rw[←List.map_take,bU];exact aU fun x _=>pO σ [] x
  unfold enter;cases hg:g.mode<;>rw[hg]at a<;>first|exact absurd a (by decide)|(simp only[b])
 rw[c];cases run code g.body (enter g (args.map (snap σ)) []) with
 |none=>rfl
 |some r=>
  obtain⟨e,s⟩:=r;have key:(results s g.res).map (fun v=>iu g.mode σ s v)=(((results s g.res).map fun v=>iu g.mode [] s v).map (·.1)).map (·,σ):=by
   cases results s g.res with
   |none=>rfl
   |some v=>
    cases hg:g.mode<;>rw[hg]at a<;>first|exact absurd a (by decide)|rfl
  cases e with
  |ext _=>rfl
  |nrm=>exact key
  |ret=>exact key
theorem tS{f:Nat}{g:br}(h:code.fns f=.nilfn g)(i:g.mode.isPure=true)(b:Bool)(xs:List aq)(σ:aw) :
  cD code f [.aa b xs] σ=(bB f [.aa b xs]).map (·,σ):=by
 unfold bB;rw[kI good h,kI good h];have k:jK σ (.aa b xs)=jK [] (.aa b xs):=by simp[jK,rd]
 rw[k];have d:∀(x:aq),(∀τ,snap τ x=x)→me code g [x] σ=((me code g [x] []).map (·.1)).map (·,σ):=fun x e=>by
  have:=vB i [x] σ;simpa only [aV,bm,e] using this
 have a:∀(x:aq),(∀τ,snap τ x=x)→me code g [x] []=((me code g [x] []).map (·.1)).map (·,([]:aw)):=fun x e=>by
  have:=vB i [x] [];simpa only [aV,bm,e] using this
 have j:∀τ,snap τ (.aa b xs)=.aa b xs:=fun τ=>by simp
 have c:∀t τ,snap τ (.emp t)=.emp t:=fun t τ=>by simp
 cases jK [] (.aa b xs) with
 |false=>simpa using d _ j
 |true=>
  simp only[cw];rw[d _ (c true),d _ (c false),a _ (c true),a _ (c false)];cases me code g [.emp true] [] with
  |none=>rfl
  |some r=>cases me code g [.emp false] [] with
   |none=>rfl
   |some q=>
    simp only[dJ,cF,By,lL];split<;>rfl
def Plain(v:aq):Prop:=aM v=4∧isAgg v=true∧∀fl top base σ n,fz fl top base σ (n+2) v=v
structure aqr (r:List aq):Prop where
 vals:∀v∈r,Plain v
 clone:bB I.slices_Clone_api_Row_api_Value [.aa false r]=some (.frs 4 r)
 right:bB I.row_right [.aa false r]=some (.bool true)
def afX(rs:List (List aq)):List aq:=rs.map (.aa false)
@[simp] theorem aei(b:List (List aq)):(afX b).map aM=List.replicate b.length 1:=by
 simp only[afX,bU];rw[kS];exact⟨by simp,fun x a=>by simp at a;obtain⟨_,_,rfl⟩:=a;rfl⟩
end Go.AM
namespace Go.AM
structure Sc {α:Type} (c:α→α→Int):Prop where
 anti:∀x y,c x y<0↔0<c y x
 tr:∀x y z,c x y≤0→c y z≤0→c x z≤0
namespace Sc
variable {α:Type} {c d:α→α→Int}
theorem lt_le(h:Sc c){x y z:α}(f:c x y<0)(a:c y z≤0):c x z<0:=by
 have b:=h.anti x z;have d:=h.anti x y;have e:=h.tr y z x a;omega
theorem le_lt(h:Sc c){x y z:α}(e:c x y≤0)(f:c y z<0):c x z<0:=by
 have a:=h.anti x z;have b:=h.anti y z;have d:=h.tr z x y;omega
theorem zero(h:Sc c){x y:α}:c x y=0↔c y x=0:=by
 have:=h.anti x y;have:=h.anti y x;omega
end Sc
def lex(a b:Int):Int:=if a≠0 then a else b
theorem Sc.lex{α:Type}{c d:α→α→Int}(a:Sc c)(hd:Sc d):Sc fun x y=>lex (c x y) (d x y) where
 anti x y:=by
  have b:=a.anti x y;have e:=a.anti y x;have s:=hd.anti x y;unfold Go.AM.lex;split<;>split<;>omega
 tr x y z b e:=by
  unfold Go.AM.lex at *;have g:=fun h=>a.lt_le (x:=x) (y:=y) (z:=z) h;have i:=fun h f=>a.le_lt (x:=x) (y:=y) (z:=z) h f;have j:=a.tr x y z;have k:=hd.tr x y z;have l:=a.anti x z;have m:=a.tr z y x;have n:=a.anti x y;have o:=a.anti y z;have p:=a.anti y x;have q:=a.anti z y;have r:=a.anti z x;split at b<;>split at e<;>split<;>omega
theorem Sc.on{α a:Type}{c:α→α→Int}(h:Sc c)(f:a→α):Sc fun x y=>c (f x) (f y):=⟨fun x y=>h.anti _ _,fun x y z=>h.tr _ _ _⟩
theorem Sc.neg{α:Type}{c:α→α→Int}(h:Sc c):Sc fun x y=>-c x y where
 anti x y:=by have:=h.anti y x;have:=h.anti x y;omega
 tr x y z h1 h2:=by
  have a:=h.tr z y x;have b:=h.anti x y;have d:=h.anti y z;have e:=h.anti x z;have f:=h.anti y x;have g:=h.anti z y;have i:=h.anti z x;omega
structure wC where
 k:Int
 n:Int
 u:Int
 s:List UInt8
 deriving DecidableEq,Inhabited
section
variable {α:Type} (c:α→α→Int)
variable {c}
abbrev Pr:=List wC
abbrev al0:=List Pr
end
end Go.AM
namespace Go.AM
open P
set_option maxHeartbeats 2000000
set_option maxRecDepth 4000
def wC.a(v:wC):aq:=.agg [.int .i64 v.k,.int .i64 v.n,.int .u64 v.u,.str v.s]
def an8(r:Pr):List aq:=r.map wC.a
@[simp] theorem amb(v:wC):aM v.a=4:=rfl
@[simp] theorem aoU(v:wC):isAgg v.a=true:=rfl
@[simp] theorem ap8(v:wC)(fl top:Bool)(base:Nat)(σ:aw)(n:Nat):fz fl top base σ (n+2) v.a=v.a:=by simp[wC.a]
def Ic(v:wC):wC:=
 if v.k=1 then (if v.n≠0∧v.n≠1 then v else { v with k:=0,n:=0 })
 else if v.k=2 then { v with k:=0,n:=0 }
 else if v.k=0 then v
 else if v.k=3 then (if v.s.length≤40 then { v with k:=0,s:=[] } else v)
 else if v.k=4 then { v with k:=0,n:=0,u:=0 }
 else v
def okV(v:wC):Bool:=Ic v == ⟨0,0,0,[]⟩
theorem CW{a b:Int}(h:¬a=b):(a != b)=true:=by simp[h]
theorem fa{a b:Int}(h:¬a=b):(a==b)=false:=by simp[h]
theorem QX(v:wC):bB I.qhn [v.a]=some (Ic v).a:=by
 rw[aR alO rfl];obtain⟨k,n,u,s⟩:=v;unfold Ic wC.a;by_cases d:k=1
 ·subst d;by_cases h:n=0
  ·subst h;simp[arJ,AW]
  by_cases a:n=1
  ·subst a;simp[arJ,AW]
  simp[arJ,AW,CW h,CW a,h,a]
 by_cases e:k=2
 ·subst e;simp[arJ,AW]
 by_cases c:k=0
 ·subst c;simp[arJ,AW]
 by_cases f:k=3
 ·subst f;by_cases i:s.length≤40
  ·have b:((s.length:Int)≤40):=by omega
   simp[arJ,AW,i,b]
  have b:¬((s.length:Int)≤40):=by omega
  simp[arJ,AW,i,b]
 by_cases g:k=4
 ·subst g;simp[arJ,AW]
 simp[arJ,AW,fa d,fa e,fa c,fa f,fa g,d,e,c,f,g]
theorem W6(k n u:Int)(s:List UInt8):(wC.mk k n u s).a=.agg [.int .i64 k,.int .i64 n,.int .u64 u,.str s]:=rfl
theorem SP(v:wC):bB I.qhl [v.a]=some (.int .i64 (if okV v then 0 else 120)):=by
 rw[aR amV rfl];have h:=QX v;unfold okV;generalize f:Ic v=w at h;obtain⟨k,n,u,s⟩:=w;by_cases a:k=0
 ·by_cases b:n=0
  ·by_cases c:u=0
   ·by_cases d:s=[]
    ·subst a b c d;simp[arX,KB,h,W6]
    have e:(s==[])=false:=by simp[d]
    subst a b c;simp[arX,KB,h,W6,d,e]
   subst a b;simp[arX,KB,h,W6,c,fa c]
  subst a;simp[arX,KB,h,W6,b,fa b]
 simp[arX,KB,h,W6,a,fa a]
end Go.AM
namespace Go.AM
open P
set_option maxHeartbeats 2000000
set_option maxRecDepth 4000
def anj:aq→wC
 |.agg [.int _ k,.int _ n,.int _ u,.str s]=>⟨k,n,u,s⟩
 |_=>default
@[simp] theorem aoG(v:wC):anj v.a=v:=rfl
end Go.AM
namespace Go.AM
open P
set_option maxHeartbeats 4000000
set_option maxRecDepth 4000
end Go.AM
namespace Go.AM
open P
set_option maxHeartbeats 4000000
set_option maxRecDepth 4000
def gT(o:Int×Bool):aq:=.agg [.int .i64 o.1,.bool o.2]
end Go.AM
namespace Go.AM
open P
set_option maxHeartbeats 4000000
set_option maxRecDepth 4000
def aka:aq→Int×Bool
 |.agg [.int _ c,.bool d]=>(c,d)
 |_=>(0,false)
@[simp] theorem aoI(o:Int×Bool):aka (gT o)=o:=rfl
@[simp] theorem ae4(r:Pr):(an8 r).map aM=List.replicate r.length 4:=by
 unfold an8;rw[bU,kS];exact⟨by simp,fun x a=>by simp at a;exact a.2.symm▸rfl⟩
end Go.AM
namespace Go.AM
class Nc {α:Type} (f:α→aq) (n:outParam Nat) (g:outParam Bool):Prop where
 nc:∀y,aM (f y)=n
 ag:∀y,isAgg (f y)=g
class Fx {α:Type} (f:α→aq):Prop where
 fx:∀fl top base σ n y,fz fl top base σ (n+3) (f y)=f y
class Ft {α:Type} (f:α→aq):Prop where
 ft:∀fl top base σ n y,(fl ||top)=true→fz fl top base σ (n+3) (f y)=f y
abbrev i64(n:Int):aq:=ap n
instance:Nc (fun n=>aq.int .i64 n) 1 false:=⟨fun _=>rfl,fun _=>rfl⟩
instance:Nc (aq.int .i64) 1 false:=⟨fun _=>rfl,fun _=>rfl⟩
instance:Fx (aq.int .i64):=⟨fun _ _ _ _ _ _=>rfl⟩
instance:Nc wC.a 4 true:=⟨fun _=>rfl,fun _=>rfl⟩
instance:Fx wC.a:=⟨fun fl top base σ n y=>ap8 y fl top base σ (n+1)⟩
instance {α:Type} (f:α→aq) [Fx f]:Ft f:=⟨fun fl top base σ n y _=>Fx.fx fl top base σ n y⟩
section
variable {α:Type} {f:α→aq} {m:Nat} {g:Bool}
@[simp] theorem aoL[Fx f](fl top:Bool)(base:Nat)(σ:aw)(n:Nat)(l:List α):List.map (fz fl top base σ (n+3)∘f) l=List.map f l:=
 aU fun y _=>Fx.fx fl top base σ n y
@[simp] theorem aof[Ft f](top:Bool)(base:Nat)(σ:aw)(n:Nat)(l:List α):List.map (fz true top base σ (n+3)∘f) l=List.map f l:=
 aU fun y _=>Ft.ft true top base σ n y rfl
@[simp] theorem afo[Ft f](base:Nat)(σ:aw)(l:List α):List.map (cq base σ∘f) l=List.map f l:=
 aU fun y _=>Ft.ft false true base σ 17 y rfl
@[simp] theorem aoQ[Nc f m g](l:List α):List.map (aM∘f) l=List.replicate l.length m:=by
 rw[kS]
 exact⟨by simp,fun x a=>by
  obtain⟨y,_,rfl⟩:=bM.1 a;exact Nc.nc y⟩
theorem Hv[Nc f m g](l:List α):((l.map f).all fun y=>aM y==m)=true:=by
 rw[bd];intro x a;obtain⟨y,_,rfl⟩:=bM.1 a;simp[Nc.nc y]
@[simp] theorem Ni(l:List α)(f:α→aq):List.take l.length (List.map f l)=List.map f l:=ay (by simp)
end
end Go.AM
namespace Go.AM
structure iG (α:Type) where
 b:Bool
 l:List α
abbrev iG.c{α:Type}(f:α→aq)(s:iG α):aq:=.aa s.b (s.l.map f)
end Go.AM
namespace Go.AM
open P
set_option maxHeartbeats 64000000
set_option maxRecDepth 40000
theorem aG(a b:az)(s:St)(c:Bool):GJ a b s (aC c)=if c=true then run code a s else run code b s:=by cases c<;>rfl
theorem bj(env:List aq)(x:dd)(b:Bool)(o:If)(a:List cr)(ls:List aq)(σ:aw)(c:Bool) :
  Gn env (P.g x b o) a ls σ (some c)=if c=true then C8 env a ls (step code env ls σ o) else oT code env a (ls++[fb []]) σ:=by cases c<;>rfl
end Go.AM
namespace Go.AM
open P
set_option maxHeartbeats 2000000
set_option maxRecDepth 4000
end Go.AM
namespace Go.AM
open P
set_option maxHeartbeats 4000000
set_option maxRecDepth 4000
end Go.AM
namespace Go.AM
open P
set_option maxHeartbeats 4000000
set_option maxRecDepth 4000
end Go.AM
namespace Go.AM
open P
set_option maxHeartbeats 4000000
set_option maxRecDepth 4000
def wn(res:List NG)(r:Option (Ex×St)):Option (aq×aw):=r.bind fun r=>match r.1 with
 |.ext _=>none
 |_=>(results r.2 res).map fun v=>(v,r.2.st)
@[simp] theorem aeD(a:List NG)(s:St):wn a (some (.ret,s))=(results s a).map fun v=>(v,s.st):=rfl
@[simp] theorem ad8(a:List NG)(s:St):wn a (some (.nrm,s))=(results s a).map fun v=>(v,s.st):=rfl
theorem cz{f:Nat}{g:br}(h:code.fns f=.fn g)(a:g.mode=.keep)(args:List aq)(σ:aw) :
  cD code f args σ=wn g.res (run code g.body ⟨args.take g.np++List.replicate (g.nenv-g.np) .any,σ⟩):=by
 rw[zy good h];have b:enter g args σ=⟨args.take g.np++List.replicate (g.nenv-g.np) .any,σ⟩:=by unfold enter;rw[a]
 rw[b];unfold wn;congr 1;funext r;obtain⟨e,s⟩:=r;unfold qV iu;rw[a];cases e<;>rfl
end Go.AM
namespace Go.AM
open P
set_option maxHeartbeats 64000000
set_option maxRecDepth 40000
theorem ro{c:Type}{f:c→aq}{m:Nat}{g:Bool}[Nc f m g][Fx f](l:List c)(id ep:Nat)(σ:aw)(h:σ[id]?=some (aB m ep (l.map f))):rK m σ (.sl id ep 0 l.length)=.frs m (l.map f):=by
 have d:(l.map f).take l.length=l.map f:=ay (by simp);have b:∀a,(l.map f).map (rC a)=l.map f:=fun a=>by
  rw[bU];exact aU fun y _=>Fx.fx false false 0 a 17 y
 simp only[rK,h,d,b,Vv];simp
theorem pT{n:Int}(a:-9223372036854775808≤n)(b:n<9223372036854775808):IntKind.i64.wrap n=n:=jJ ⟨a,b⟩
abbrev rW(f:aq):Prop:=∀σ,fz true false 0 σ 20 f=f
def wc{α:Type}(p:α→Bool)(l:List α):Int:=if l.any p then ((l.findIdx p:Nat):Int) else -1
theorem JM{s:Type}{enc:s→aq}{b:Bool}{l:List s}{f:aq}{p:s→Bool}(v:l.length≤bD)(t:∀y,aM (enc y)=1∧isAgg (enc y)=false)(x:rW f)
  (h:∀y∈l,jh code f [enc y] []=some (aC (p y),[])):bB I.qhd [.aa b (l.map enc),f]=some (ap (wc p l)):=by
 rw[aR an9 rfl];have m:=x [];have c:∀k,k<l.length→∀y,l[k]?=some y→p y=false→dh 0 [2,3,6,7] tD (run code tD ⟨[.aa b (l.map enc),f,am,am,ap l.length,ap k,am,am],[]⟩) =
   bT code 0 [2,3,6,7] tD ⟨[.aa b (l.map enc),f,am,am,ap l.length,ap (k+1:Nat),am,am],[]⟩:=fun k d y o r=>by
  have q:=t y;have g:=h y (aN o);rw[r]at g;have e:((k:Int)<(l.length:Int)):=by omega
  simp[tD,o,q,g,e,cU d v,cO]
 unfold wc;by_cases n:l.any p=true
 ·have e:=bQ (cB.1 n);have r:p l[l.findIdx p]=true:=du (w:=e);have a:=cY (base:=0) (clr:=[2,3,6,7]) (b:=tD) (fun k=>⟨[.aa b (l.map enc),f,am,am,ap l.length,ap k,am,am],[]⟩) (l.findIdx p)
   (.ret,⟨[.aa b (l.map enc),f,ap (l.findIdx p),ap (l.findIdx p),ap l.length,ap (l.findIdx p),aC true,aC true],[]⟩)
   (fun k d=>c k (by omega) _ (au (by omega)) (by simpa using cW d))
   (by
    have u:l[l.findIdx p]?=some l[l.findIdx p]:=au e;have q:=t l[l.findIdx p];have g:=h _ (aJ e);rw[r]at g;have j:((l.findIdx p:Int)<(l.length:Int)):=by omega
    simp[tD,u,q,g,j])
  simp at a;simp[atg,aab,m,a,n]
 have i:∀y∈l,p y=false:=fun y o=>by simpa using cS.1 (eB _▸n) y o
 have a:=cY (base:=0) (clr:=[2,3,6,7]) (b:=tD) (fun k=>⟨[.aa b (l.map enc),f,am,am,ap l.length,ap k,am,am],[]⟩) l.length
  (.ext 0,⟨[.aa b (l.map enc),f,am,am,ap l.length,ap l.length,aC false,am],[]⟩)
  (fun k d=>c k d _ (au d) (i _ (aJ d)))
  (by simp[tD])
 simp at a;simp[atg,aab,m,a,n]
theorem rj{c:Type}{enc:c→aq}{b:Bool}{l:List c}{f:aq}{p:c→Bool}(g:l.length≤bD)(e:∀y,aM (enc y)=1∧isAgg (enc y)=false)(d:rW f)
  (h:∀y∈l,jh code f [enc y] []=some (aC (p y),[])):bB I.qgm [.aa b (l.map enc),f]=some (aC (l.any p)):=by
 rw[aR amq rfl];have h:=JM (b:=b) g e d h;have a:=d [];unfold wc at h;cases ha:l.any p<;>rw[ha]at h<;>simp[aug,ae6,a,h]
theorem yk{s:Type}{enc:s→aq}{b:Bool}{l:List s}{f:aq}{p:s→Bool}(v:l.length≤bD)(t:∀y,aM (enc y)=2∧isAgg (enc y)=true)(x:rW f)
  (h:∀y∈l,jh code f [enc y] []=some (aC (p y),[])):bB I.qgz [.aa b (l.map enc),f]=some (ap (wc p l)):=by
 rw[aR akg rfl];have m:=x [];have c:∀k,k<l.length→∀y,l[k]?=some y→p y=false→dh 0 [2,3,6,7] tQ (run code tQ ⟨[.aa b (l.map enc),f,am,am,ap l.length,ap k,am,am],[]⟩) =
   bT code 0 [2,3,6,7] tQ ⟨[.aa b (l.map enc),f,am,am,ap l.length,ap (k+1:Nat),am,am],[]⟩:=fun k d y o r=>by
  have q:=t y;have g:=h y (aN o);rw[r]at g;have e:((k:Int)<(l.length:Int)):=by omega
  simp[tQ,o,q,g,e,cU d v,cO]
 unfold wc;by_cases n:l.any p=true
 ·have e:=bQ (cB.1 n);have r:p l[l.findIdx p]=true:=du (w:=e);have a:=cY (base:=0) (clr:=[2,3,6,7]) (b:=tQ) (fun k=>⟨[.aa b (l.map enc),f,am,am,ap l.length,ap k,am,am],[]⟩) (l.findIdx p)
   (.ret,⟨[.aa b (l.map enc),f,ap (l.findIdx p),ap (l.findIdx p),ap l.length,ap (l.findIdx p),aC true,aC true],[]⟩)
   (fun k d=>c k (by omega) _ (au (by omega)) (by simpa using cW d))
   (by
    have u:l[l.findIdx p]?=some l[l.findIdx p]:=au e;have q:=t l[l.findIdx p];have g:=h _ (aJ e);rw[r]at g;have j:((l.findIdx p:Int)<(l.length:Int)):=by omega
    simp[tQ,u,q,g,j])
  simp at a;simp[asL,aaP,m,a,n]
 have i:∀y∈l,p y=false:=fun y o=>by simpa using cS.1 (eB _▸n) y o
 have a:=cY (base:=0) (clr:=[2,3,6,7]) (b:=tQ) (fun k=>⟨[.aa b (l.map enc),f,am,am,ap l.length,ap k,am,am],[]⟩) l.length
  (.ext 0,⟨[.aa b (l.map enc),f,am,am,ap l.length,ap l.length,aC false,am],[]⟩)
  (fun k d=>c k d _ (au d) (i _ (aJ d)))
  (by simp[tQ])
 simp at a;simp[asL,aaP,m,a,n]
theorem vL{c:Type}{enc:c→aq}{b:Bool}{l:List c}{f:aq}{p:c→Bool}(g:l.length≤bD)(e:∀y,aM (enc y)=2∧isAgg (enc y)=true)(d:rW f)
  (h:∀y∈l,jh code f [enc y] []=some (aC (p y),[])):bB I.qgi [.aa b (l.map enc),f]=some (aC (l.any p)):=by
 rw[aR anb rfl];have h:=yk (b:=b) g e d h;have a:=d [];unfold wc at h;cases ha:l.any p<;>rw[ha]at h<;>simp[atT,agx,a,h]
theorem AK{i:Type}{enc:i→aq}[Nc enc 1 false][Fx enc](b:Bool)(l:List i)(k:l.length≤bD):bB I.qgd [.aa b (l.map enc)]=some (.frs 1 (l.map enc)):=by
 cases l with
 |nil=>cases b<;>exact kQ (n:=20) (σ:=[]) (by kernel_rfl)
 |cons v r=>
  have a:=Hv (f:=enc) (v::r);have j:((v::r).map enc).length=r.length+1:=by simp
  have e:jK [] (.aa b ((v::r).map enc))=false:=rfl;unfold bB;rw[kI good aax,e];simp only[bq,cH];unfold me;have d:r.length+1≤bD:=by simpa using k
  have c:ut false [] (.aa b ((v::r).map enc))=some (aC false):=rfl;have h:=ro (f:=enc) (v::r) 0 0 [aB 1 0 ((v::r).map enc)] rfl;have g:(v::r).map enc≠[]:=by simp
  have m:∀x,x∈(v::r).map enc→aM x=1:=fun x g=>by simpa using bd.1 a x g
  have o:((v::r).map enc).take (r.length+1)=(v::r).map enc:=ay (by simp);simp only[bw]at h;generalize (v::r).map enc=xs at *;simp[aum,aeK,enter,qV,append,a,j,d,-ut,c,g];rw[if_pos m];simp[qV];exact h
@[simp] theorem qD{a:Type}{enc:a→aq}[Nc enc 1 false][Fx enc](b:Bool)(l:List a)(c:l.length≤bD)(σ:aw):cD code I.qgd [.aa b (l.map enc)] σ=some (.frs 1 (l.map enc),σ):=by
 rw[tS aax rfl,AK b l c];rfl
theorem Hr{t:Type}{enc:t→aq}[Nc enc 1 false][Fx enc](b:Bool)(ls:List (iG t))(N:(ls.flatMap (·.l)).length≤bD)(B:ls.length≤bD) :
  bB I.qgf [.aa b (ls.map (iG.c enc))]=some (.aa false ((ls.flatMap (·.l)).map enc)):=by
 rw[aR alP rfl];have p:∀(r:List (iG t)) (k:Nat),ls.drop k=r→(ls.flatMap (·.l)).length=((ls.take k).flatMap (·.l)).length+(r.flatMap (·.l)).length:=fun r k h=>by
  have:=congrArg (fun x=>(x.flatMap (fun (s:iG t)=>s.l)).length) (pb k ls);simp only[mb,cn,h]at this;omega
 generalize J:ls.flatMap (·.l)=F at *;have V:F.length≤68719476736:=N;have j:=p;have u:∀(r:List (iG t)) (k:Nat),ls.drop k=r→k≤ls.length→bT code 0 [3,9,10] GM ⟨[.aa b (ls.map (iG.c enc)),.ai,ap (((ls.take k).flatMap (·.l)).length:Nat),am,am,am,.aa b (ls.map (iG.c enc)),ap ls.length,ap k,am,am,am,am,am,am],[]⟩ =
   some (.ext 0,⟨[.aa b (ls.map (iG.c enc)),.ai,ap (F.length:Nat),am,am,am,.aa b (ls.map (iG.c enc)),ap ls.length,ap ls.length,aC false,am,am,am,am,am],[]⟩):=by
  intro r;induction r with
  |nil=>
   intro k hd A;have:k=ls.length:=by
    have:=congrArg List.length hd;simp at this;omega
   subst this;rw[aZ,dw,J];simp[GM]
  |cons y r c=>
   intro k hd A;have l:k<ls.length:=by
    have:=congrArg List.length hd;simp at this;omega
   have i:ls[k]?=some y:=by
    have:=congrArg (·[0]?) hd;simpa using this
   have o:ls.drop (k+1)=r:=by
    have:=congrArg List.tail hd;simpa [kL] using this
   have hi:((k:Int)<(ls.length:Int)):=by omega
   have g:=j r (k+1) o;have W:((ls.take (k+1)).flatMap (·.l)).length=((ls.take k).flatMap (·.l)).length+y.l.length:=by
    rw[eW,i];simp
   have c:=c (k+1) o (by omega);rw[W]at c g;generalize ((ls.take k).flatMap (·.l)).length=s at *;have w:=pT (n:=(s:Int)+(y.l.length:Int)) (by omega) (by omega);have C:¬((s:Int)+(y.l.length:Int)<0):=by omega
   rw[aZ,←c];simp[GM,hi,i,w,C,cU l B,cO]
 have u:=u ls 0 (by simp) (by simp);simp at u;have R:∀(r:List (iG t)) (k ep:Nat) (es:List aq),ls.drop k=r→k≤ls.length→es.take ((ls.take k).flatMap (·.l)).length=((ls.take k).flatMap (·.l)).map enc→((ls.take k).flatMap (·.l)).length≤es.length→∃a es',es'.take F.length=F.map enc∧F.length≤es'.length ∧
   bT code 1 [5,14] vm ⟨[.aa b (ls.map (iG.c enc)),.ai,ap (F.length:Nat),am,.sl 0 ep 0 ((ls.take k).flatMap (·.l)).length,am,.aa b (ls.map (iG.c enc)),ap ls.length,ap ls.length,aC false,am,.aa b (ls.map (iG.c enc)),ap ls.length,ap k,am],[aB 1 ep es]⟩ =
   some (.ext 2,⟨[.aa b (ls.map (iG.c enc)),.ai,ap (F.length:Nat),am,.sl 0 a 0 F.length,am,.aa b (ls.map (iG.c enc)),ap ls.length,ap ls.length,aC false,am,.aa b (ls.map (iG.c enc)),ap ls.length,ap ls.length,aC false],[aB 1 a es']⟩):=by
  intro r;induction r with
  |nil=>
   intro k ep es hd A z d;have:k=ls.length:=by
    have:=congrArg List.length hd;simp at this;omega
   subst this;rw[dw,J]at z d;refine⟨ep,es,z,d,?_⟩;rw[aZ,dw,J];simp[vm]
  |cons y r c=>
   intro k ep es hd A z d;have l:k<ls.length:=by
    have:=congrArg List.length hd;simp at this;omega
   have i:ls[k]?=some y:=by
    have:=congrArg (·[0]?) hd;simpa using this
   have o:ls.drop (k+1)=r:=by
    have:=congrArg List.tail hd;simpa [kL] using this
   have hi:((k:Int)<(ls.length:Int)):=by omega
   have g:=j r (k+1) o;have S:(ls.take (k+1)).flatMap (·.l)=(ls.take k).flatMap (·.l)++y.l:=by
    rw[eW,i];simp
   have c:=fun ep es=>c (k+1) ep es o (by omega);rw[S]at c g;generalize (ls.take k).flatMap (·.l)=s at *;rw[cn]at g;by_cases e:y.l=[]
   ·rw[e,dK]at c;obtain⟨a,es',D,E,q⟩:=c ep es z d;refine⟨a,es',D,E,?_⟩;rw[aZ,←q];simp[vm,hi,i,e,append,cU l B,cO]
   obtain⟨a,es',D,E,q⟩:=c (ep+1) (s.map enc++y.l.map enc) (by rw[←List.map_append];exact ay (by simp)) (by simp);refine⟨a,es',D,E,?_⟩;have U:s.length+y.l.length≤bD:=by unfold bD;omega
   have v:∀x∈y.l,aM (enc x)=1:=fun x _=>Nc.nc x;rw[cn]at q;rw[aZ,←q];simp[vm,hi,i,e,append,d,z,U,cU l B,cO];rw[if_pos v];simp[cO,cU l B]
 have m:0<F.length→cD code I.qgu [.ai,ap (F.length:Nat)] []=some (.sl 0 0 0 0,[aB 1 0 (List.replicate F.length (ap 0))]):=fun G=>by
  rw[cz aeJ rfl];generalize F.length=n at *;have O:¬((n:Int)<0):=by omega
  have P:(0:Int)<(n:Int):=by omega
  have Q:=pT (n:=(n:Int)) (by omega) (by omega);have K:IntKind.i64.wrap 0=0:=rfl;simp[asG,Yx,O,P,Q,K,append,N,G,show ¬n=0 by omega,show (n:Int).toNat=n by omega]
 have f:cD code I.qgu [.ai,ap 0] []=some (.ai,[]):=by
  rw[cz aeJ rfl];have K:IntKind.i64.wrap 0=0:=rfl;simp[asG,Yx,K]
 by_cases G:F.length=0
 ·have H:∀(r:List (iG t)) (k:Nat),ls.drop k=r→k≤ls.length→bT code 0 [5,14] vm ⟨[.aa b (ls.map (iG.c enc)),.ai,ap 0,am,.ai,am,.aa b (ls.map (iG.c enc)),ap ls.length,ap ls.length,aC false,am,.aa b (ls.map (iG.c enc)),ap ls.length,ap k,am],[]⟩ =
    some (.ext 2,⟨[.aa b (ls.map (iG.c enc)),.ai,ap 0,am,.ai,am,.aa b (ls.map (iG.c enc)),ap ls.length,ap ls.length,aC false,am,.aa b (ls.map (iG.c enc)),ap ls.length,ap ls.length,aC false],[]⟩):=by
   intro r;induction r with
   |nil=>
    intro k hd A;have:k=ls.length:=by
     have:=congrArg List.length hd;simp at this;omega
    subst this;rw[aZ];simp[vm]
   |cons y r c=>
    intro k hd A;have l:k<ls.length:=by
     have:=congrArg List.length hd;simp at this;omega
    have i:ls[k]?=some y:=by
     have:=congrArg (·[0]?) hd;simpa using this
    have o:ls.drop (k+1)=r:=by
     have:=congrArg List.tail hd;simpa [kL] using this
    have hi:((k:Int)<(ls.length:Int)):=by omega
    have e:y.l=[]:=by
     have M:=dc G;rw[←J,List.flatMap_eq_nil_iff]at M;exact M y (aN i)
    rw[aZ,←c (k+1) o (by omega)];simp[vm,hi,i,e,append,cU l B,cO]
  have H:=H ls 0 (by simp) (by simp);simp at H;have L:=dc G;subst L;simp at u;simp[as0,aah,u,H,f]
 obtain⟨ep,es,D,E,q⟩:=R ls 0 0 (List.replicate F.length (ap 0)) (by simp) (by simp) (by simp) (by simp);have T:=m (by omega);simp at q;simp[as0,aah,u,T,q,D,E];exact fun y _=>by rw[Fx.fx]
abbrev cV(l:List Int):List aq:=l.map (.int .i64)
def eA(l:List Int):List Int:=l.foldl (fun acc x=>if acc.getLast?=some x then acc else acc++[x]) []
theorem rQ(l:List Int)(x:Int):eA (l++[x])=if (eA l).getLast?=some x then eA l else eA l++[x]:=by
 unfold eA;simp[List.foldl_append]
theorem GY{b:Type}{p:List b→Prop}(l:List b)(c:p [])(d:∀l x,p l→p (l++[x])):p l:=by
 have:∀m:List b,p m.reverse:=fun m=>by
  induction m with
  |nil=>simpa using c
  |cons a m e=>rw[List.reverse_cons];exact d _ _ e
 simpa using this l.reverse
theorem AN(l:List Int):(eA l).getLast?=l.getLast?:=by
 refine GY (p:=fun l=>(eA l).getLast?=l.getLast?) l rfl fun l x a=>?_;rw[rQ];split
 ·rename_i h;rw[h];simp
 simp
theorem Cr(l:List Int)(x:Int):x∈eA l↔x∈l:=by
 refine GY (p:=fun l=>x∈eA l↔x∈l) l (by simp[eA]) fun l y b=>?_;rw[rQ];split
 ·rename_i h;rw[b];constructor
  ·intro a;simp[a]
  intro a;rcases ba.1 a with a|a
  ·exact a
  simp at a;subst a;rw[AN]at h;exact List.mem_of_getLast? h
 simp[b]
theorem yB(l:List Int):(eA l).length≤l.length:=by
 refine GY (p:=fun l=>(eA l).length≤l.length) l (aF _) fun l y a=>?_;rw[rQ];split<;>simp<;>omega
theorem vQ{l:List Int}{j:Nat}(a:j<l.length)(b:0<j):eA (l.take (j+1))=if l[j-1]=l[j] then eA (l.take j) else eA (l.take j)++[l[j]]:=by
 rw[dr a,rQ,AN];have:(l.take j).getLast?=some l[j-1]:=by
  rw[List.getLast?_eq_getElem?];simp[gp];have:min j l.length=j:=by omega
  rw[this];simp[show j-1<j by omega,show j-1<l.length by omega]
 rw[this];simp
theorem ac4{σ:aw}{id:Nat}{o o':Obj}(h:σ[id]?=some o):(σ.set id o')[id]?=some o':=by
 have:=(ak.1 h).1;simp[this]
def mE(l:List Int)(k0:Nat):Nat→List Int×Nat
 |0=>(l,k0)
 |m+1=>let p:=mE l k0 m
  if l.getD (k0+m+1) 0=l.getD (k0+m) 0 then p else (p.1.set p.2 (l.getD (k0+m+1) 0),p.2+1)
theorem Co{l:List Int}{a:Nat}(f:0<a)(g:a<l.length)(hd:l[a-1]=l[a])(h:eA (l.take a)=l.take a):∀m,a+m<l.length →
  (mE l a m).1.length=l.length∧(mE l a m).2≤a+m∧(mE l a m).1.take (mE l a m).2=eA (l.take (a+m+1))∧(mE l a m).1.drop (a+m)=l.drop (a+m)
 |0,_=>by
  have:=vQ (l:=l) g f;rw[if_pos hd,h]at this;simp[mE,this]
 |m+1,r=>by
  obtain⟨i,s,k,q⟩:=Co f g hd h m (by omega);have n:l.getD (a+m+1) 0=l[a+m+1]:=by simp[aS,show a+m+1<l.length by omega]
  have o:l.getD (a+m) 0=l[a+m]:=by simp[aS,show a+m<l.length by omega]
  have b:=vQ (l:=l) (j:=a+m+1) (by omega) (by omega);have d:(mE l a m).1.drop (a+(m+1))=l.drop (a+(m+1)):=by
   have:=congrArg (List.drop 1) q;simpa [nh,dB,im,Nat.add_left_comm] using this
  unfold mE;simp only[n,o];by_cases c:l[a+m+1]=l[a+m]
  ·rw[if_pos c];rw[if_pos (by simpa using c.symm)]at b;exact⟨i,by omega,by rw[k];simpa [dB] using b.symm,d⟩
  rw[if_neg c];rw[if_neg (by simpa using fun e=>c e.symm)]at b;refine⟨by simp[i],by simp;omega,?_,?_⟩
  ·have p:(mE l a m).2<(mE l a m).1.length:=by omega
   simp only;rw[dr (by simpa using p),List.take_set_of_le (by omega),k];simp only[iJ];simpa [dB] using b.symm
  simp only;rw[List.drop_set_of_lt (by omega)];exact d
theorem uP{l:List Int}{k:Nat}(h:k<l.length):(cV l)[k]?=some (ap l[k]):=by simp[cV,h]
abbrev Yo(σ:aw)(id ep n k0:Nat)(l:List Int)(m:Nat):St:=
 ⟨[.sl id ep 0 n,am,ap ((mE l k0 m).2:Nat),.sl id ep k0 (n-k0),ap ((m+1:Nat):Int),aC false,aC true,aC true,am,am],σ.set id (aB 1 ep (cV (mE l k0 m).1))⟩
theorem OH{σ:aw}{id ep a:Nat}{l:List Int}(f:σ[id]?=some (aB 1 ep (cV l)))(J:l.length≤bD)(y:0<a)(z:a<l.length)(hd:l[a-1]=l[a])(B:eA (l.take a)=l.take a) :
  bT code σ.length [8,9] Dc (Yo σ id ep l.length a l 0)=some (.ext 2,⟨[.sl id ep 0 l.length,am,ap ((eA l).length:Nat),.sl id ep a (l.length-a),ap ((l.length-a:Nat):Int),aC false,aC true,aC true,aC false,am],σ.set id (aB 1 ep (cV (mE l a (l.length-a-1)).1))⟩):=by
 refine cY (Yo σ id ep l.length a l) (l.length-a-1) _ (fun m L=>?_) ?_
 ·obtain⟨o,p,g,h⟩:=Co y z hd B m (by omega);have j:mE l a (m+1)=if l.getD (a+m+1) 0=l.getD (a+m) 0 then mE l a m else ((mE l a m).1.set (mE l a m).2 (l.getD (a+m+1) 0),(mE l a m).2+1):=rfl
  have v:l.getD (a+m+1) 0=l[a+m+1]:=by simp[aS,show a+m+1<l.length by omega]
  have w:l.getD (a+m) 0=l[a+m]:=by simp[aS,show a+m<l.length by omega]
  rw[v,w]at j;clear v w;unfold Yo;rcases hA:mE l a m with⟨A,k⟩;rw[hA]at o p g h j;rw[j];clear j hA;simp only at o p g h;have i:=ac4 (o':=aB 1 ep (cV A)) f;have q:(cV A)[a+(m+1)]?=some (ap l[a+m+1]):=by
   have:A[a+(m+1)]=l[a+m+1]:=by
    have:=congrArg (fun x=>x[1]?) h;simp only[mW]at this;rw[au (by omega),au (by omega)]at this;simpa [dB] using this
   rw[uP (by omega),this]
  have r:(cV A)[a+m]?=some (ap l[a+m]):=by
   have:A[a+m]=l[a+m]:=by
    have:=congrArg (fun x=>x[0]?) h;simp only[mW]at this;rw[au (by omega),au (by omega)]at this;simpa [dB] using this
   rw[uP (by omega),this]
  have s:((m:Int)+1<((l.length-a:Nat):Int)):=by omega
  have K:l.length≤68719476736:=J;have D:=pT (n:=(m:Int)) (by omega) (by omega);have E:=pT (n:=(m:Int)+1+1) (by omega) (by omega);have F:=pT (n:=(k:Int)+1) (by omega) (by omega);have t:m+1<l.length-a:=by omega
  have u:m<l.length-a:=by omega
  have G:k<l.length:=by omega
  have b:((m:Int)+1).toNat=m+1:=by omega
  have C:(0:Int)≤(m:Int)+1:=by omega
  have H:k<A.length:=by omega
  have e:(cV A)[k]?=some (ap A[k]):=uP H;by_cases d:l[a+m+1]=l[a+m]
  ·rw[if_pos d];simp[Dc,s,i,q,r,t,u,D,E,F,b,C,d,cO,-List.getElem?_map]
  rw[if_neg d];simp[Dc,s,i,q,r,t,u,G,D,E,F,b,C,d,cO,e,CW d,-List.getElem?_map]
 obtain⟨o,p,g,h⟩:=Co y z hd B (l.length-a-1) (by omega);have c:(eA l).length=(mE l a (l.length-a-1)).2:=by
  rw[show a+(l.length-a-1)+1=l.length by omega,dw]at g;rw[←g,de];omega
 rw[c];unfold Yo;rcases hA:mE l a (l.length-a-1) with⟨A,k⟩;have i:=ac4 (o':=aB 1 ep (cV A)) f;have I:l.length-a-1+1=l.length-a:=by omega
 rw[I];simp[Dc,i]
theorem EJ{σ:aw}{id:Nat}{o:Obj}(h:σ[id]?=some o):σ.set id o=σ:=by
 refine eY fun i=>?_;by_cases hi:id=i
 ·subst hi;rw[ac4 h,h]
 rw[aD hi]
theorem xh{l:List Int}(h:∀k (_:0<k) (c:k<l.length),l[k-1]≠l[k]):∀j,j≤l.length→eA (l.take j)=l.take j
 |0,_=>by simp[eA]
 |1,b=>by
  match l,b with
  |a::r,_=>simp[eA]
 |j+2,b=>by
  rw[vQ (j:=j+1) (by omega) (by omega),if_neg (h (j+1) (by omega) (by omega)),xh h (j+1) (by omega),←List.take_succ_eq_append_getElem]
abbrev M9(σ:aw)(id ep n:Nat)(m:Nat):St:=⟨[.sl id ep 0 n,am,ap ((m+1:Nat):Int),am,am,aC false,am,am,am,am],σ⟩
theorem ya{σ:aw}{id ep:Nat}{l:List Int}(b:σ[id]?=some (aB 1 ep (cV l)))(i:l.length≤bD)(m:Nat)(c:m+1<l.length)(hd:l[m]≠l[m+1]) :
  dh σ.length [1,3,4,6,7,8,9] tx (run code tx (M9 σ id ep l.length m))=bT code σ.length [1,3,4,6,7,8,9] tx (M9 σ id ep l.length (m+1)):=by
 have j:l.length≤68719476736:=i;have p:=pT (n:=(m:Int)) (by omega) (by omega);have q:=pT (n:=(m:Int)+1+1) (by omega) (by omega);have f:((m:Int)+1<(l.length:Int)):=by omega
 have d:=uP (l:=l) (k:=m+1) c;have e:=uP (l:=l) (k:=m) (by omega);have a:((m:Int)+1).toNat=m+1:=by omega
 have o:(0:Int)≤(m:Int)+1:=by omega
 have g:m<l.length:=by omega
 have h:(l[m+1]==l[m])=false:=fa (Ne.symm hd);simp[tx,M9,f,b,d,e,p,q,a,o,c,g,h,cO,-List.getElem?_map]
theorem WJ(l:List Int):(∀k (_:0<k) (b:k<l.length),l[k-1]≠l[k])∨∃c,∃(_:0<c) (b:c<l.length),l[c-1]=l[c]∧∀k (_:0<k) (a:k<c),l[k-1]≠l[k]:=by
 have key:∀n,n≤l.length→(∀k (_:0<k) (b:k<n) (a:k<l.length),l[k-1]≠l[k])∨∃c,∃(_:0<c) (b:c<l.length),l[c-1]=l[c]∧∀k (_:0<k) (a:k<c),l[k-1]≠l[k]:=by
  intro n;induction n with
  |zero=>intro _;exact .inl fun k _ b=>absurd b (da _)
  |succ n g=>
   intro i;rcases g (by omega) with h|h
   ·by_cases d:0<n
    ·by_cases hd:l[n-1]=l[n]
     ·exact .inr ⟨n,d,by omega,hd,fun k b a=>h k b a (by omega)⟩
     exact .inl fun k b e a=>by
      by_cases f:k=n
      ·subst f;exact hd
      exact h k b (by omega) a
    exact .inl fun k b e a=>by omega
   exact .inr h
 rcases key l.length (aF _) with h|h
 ·exact .inl fun k d b=>h k d b b
 exact .inr h
theorem MV{σ:aw}{id ep:Nat}{l:List Int}(e:σ[id]?=some (aB 1 ep (cV l)))(j:l.length≤bD) :
  ∃A:List Int,cD code I.qge [.sl id ep 0 l.length] σ=some (.sl id ep 0 (eA l).length,σ.set id (aB 1 ep (cV A)))∧A.length=l.length∧A.take (eA l).length=eA l:=by
 rw[cz amc rfl];by_cases L:l.length<2
 ·have g:=xh (l:=l) (fun k p i=>by omega) l.length (aF _);rw[dw]at g;refine⟨l,?_,rfl,by rw[g,dw]⟩;have hi:((l.length:Int)<2):=by omega
  rw[g,EJ e];simp[asi,Tu,e,hi]
 have hi:¬((l.length:Int)<2):=by omega
 rcases WJ l with h|⟨d,p,i,hd,u⟩
 ·have g:=xh h l.length (aF _);rw[dw]at g;refine⟨l,?_,rfl,by rw[g,dw]⟩;have a:=cY (base:=σ.length) (clr:=[1,3,4,6,7,8,9]) (b:=tx) (M9 σ id ep l.length) (l.length-1)
   (.ext 0,⟨[.sl id ep 0 l.length,am,ap l.length,am,am,aC false,aC false,am,am,am],σ⟩)
   (fun m D=>ya e j m (by omega) (h (m+1) (by omega) (by omega))) (by
    unfold M9;rw[show l.length-1+1=l.length by omega];simp[tx,e])
  unfold M9 at a;simp at a;rw[g,EJ e];simp[asi,Tu,e,hi,a]
 have v:eA (l.take d)=l.take d:=by
  have:=xh (l:=l.take d) (fun k r s=>by
   simp at s;simpa using u k r (by omega)) d (by simp;omega)
  rwa [pV,Nat.min_self]at this
 have f:=OH (ep:=ep) e j p i hd v;obtain⟨F,N,o,O⟩:=Co p i hd v (l.length-d-1) (by omega);rw[show d+(l.length-d-1)+1=l.length by omega,dw]at o;have t:(mE l d (l.length-d-1)).2=(eA l).length:=by rw[←o,de];omega
 rw[t]at o;generalize (mE l d (l.length-d-1)).1=A at *;have q:=yB l;generalize M:(eA l).length=c at *;have C:=fun o'=>ac4 (o':=o') e
 refine⟨A.take c++List.replicate (l.length-c) 0++A.drop (c+(l.length-c)),?_,by simp;omega,by
  rw[dy,fZ (by simp;omega)];exact o⟩
 have a:=cY (base:=σ.length) (clr:=[1,3,4,6,7,8,9]) (b:=tx) (M9 σ id ep l.length) (d-1)
  (.ret,⟨[.sl id ep 0 l.length,.sl id ep 0 c,ap c,.sl id ep d (l.length-d),ap ((l.length-d:Nat):Int),aC false,aC true,aC true,aC false,am],σ.set id (aB 1 ep (cV (A.take c++List.replicate (l.length-c) 0++A.drop (c+(l.length-c)))))⟩)
  (fun m D=>ya e j m (by omega) (u (m+1) (by omega) (by omega))) (by
   unfold M9;rw[show d-1+1=d by omega];have E:l.length≤68719476736:=j;have G:=pT (n:=(d:Int)-1) (by omega) (by omega);have H:((d:Int)-1).toNat=d-1:=by omega
   have J:(0:Int)≤(d:Int)-1:=by omega
   have K:(1:Int)≤(d:Int):=by omega
   have y:((d:Int)<(l.length:Int)):=by omega
   have w:=uP (l:=l) (k:=d) i;have x:=uP (l:=l) (k:=d-1) (by omega);have z:d-1<l.length:=by omega
   have B:d≤l.length:=by omega
   have c5:c+(l.length-c)=l.length:=by omega
   unfold Yo at f;simp[mE]at f;rw[EJ e]at f;simp[tx,y,e,w,x,G,H,J,K,z,B,hd,f,i,C,q,F,c5,-List.getElem?_map])
 unfold M9 at a;simp at a;simp[asi,Tu,e,hi,a]
end Go.AM
namespace Go.AM
structure EN where
 tag:Int
 l:Int
 r:Int
 col:Int
 v:wC
 deriving DecidableEq,Inhabited
def EN.a(n:EN):aq:=.agg [.int .i64 n.tag,.int .i64 n.l,.int .i64 n.r,.int .i64 n.col,.int .i64 n.v.k,.int .i64 n.v.n,.int .u64 n.v.u,.str n.v.s]
end Go.AM
namespace Go.AM
open P
set_option maxHeartbeats 4000000
set_option maxRecDepth 4000
@[simp] theorem ajJ(n:EN):aM n.a=8:=rfl
@[simp] theorem amC(n:EN):isAgg n.a=true:=rfl
@[simp] theorem agd(n:EN)(fl top:Bool)(base:Nat)(σ:aw)(m:Nat):fz fl top base σ (m+2) n.a=n.a:=by simp[EN.a]
def AC(e:List EN):List aq:=e.map EN.a
@[simp] theorem afa(e:List EN):(AC e).length=e.length:=by simp[AC]
theorem Oa{e:List EN}{k:Nat}(h:k<e.length):(AC e)[k]?=some e[k].a:=by simp[AC,h]
def Ki(b:Bool)(e:List EN):aq:=aH [.aa b (AC e)]
def dv(t:Int):Int:=if t=1∨t=2 then 0 else if 4≤t∧t≤7 then 1 else if 12≤t∧t≤23 then 2 else -1
theorem Bf(t:Int):bB I.qce [ap t]=some (ap (dv t)):=by
 rw[aR anl rfl];unfold dv;by_cases a:t=1
 ·subst a;simp[arR,FA]
 by_cases b:t=2
 ·subst b;simp[arR,FA]
 have f:¬(t=1∨t=2):=by omega
 rw[if_neg f];by_cases c:4≤t
 ·by_cases e:t≤7
  ·simp[arR,FA,fa a,fa b,c,e]
  by_cases d:12≤t
  ·by_cases g:t≤23
   ·simp[arR,FA,fa a,fa b,c,e,d,g]
   simp[arR,FA,fa a,fa b,c,e,d,g]
  simp[arR,FA,fa a,fa b,c,e,d]
 have d:¬(12≤t):=by omega
 simp[arR,FA,fa a,fa b,c,d]
def xt(v:wC):Bool:=okV v&&v.k != 4
theorem Ip(v:wC):bB I.qhm [v.a]=some (aC (xt v)):=by
 rw[aR akU rfl];have h:=SP v;unfold xt;obtain⟨k,n,u,s⟩:=v;simp only[W6]at *;cases hv:okV ⟨k,n,u,s⟩<;>rw[hv]at h<;>simp[atu,agn,h]
def CA:wC:=⟨0,0,0,[]⟩
def iv(n:EN):Bool:=if n.tag=1 then xt n.v&&n.col==0 else if n.tag=2 then n.v==CA&&decide (0≤n.col)&&decide (n.col<16) else n.v==CA&&n.col==0
theorem acr(v:wC):eR [0,0,0,2] [ap v.k,ap v.n,.int .u64 v.u,aO v.s] [ap 0,ap 0,.int .u64 0,aO []]=some (v==CA):=by
 obtain⟨k,n,u,s⟩:=v;unfold CA;by_cases a:k=0
 ·by_cases b:n=0
  ·by_cases c:u=0
   ·by_cases d:s=[]
    ·subst a b c d;simp
    have f:(s==[])=false:=by simp[d]
    have e:((⟨k,n,u,s⟩:wC) == ⟨0,0,0,[]⟩)=false:=by simp[d]
    rw[e];simp[a,b,c,f]
   have e:((⟨k,n,u,s⟩:wC) == ⟨0,0,0,[]⟩)=false:=by simp[c]
   rw[e];simp[a,b,fa c]
  have e:((⟨k,n,u,s⟩:wC) == ⟨0,0,0,[]⟩)=false:=by simp[b]
  rw[e];simp[a,fa b]
 have e:((⟨k,n,u,s⟩:wC) == ⟨0,0,0,[]⟩)=false:=by simp[a]
 rw[e];simp[fa a]
theorem FU(n:EN):bB I.qbx [n.a]=some (aC (iv n)):=by
 rw[aR amO rfl];have d:=Ip n.v;have a:=acr n.v;unfold iv EN.a;unfold wC.a at d;by_cases b:n.tag=1
 ·cases hv:xt n.v<;>rw[hv]at d<;>simp[asj,Vx,b,d]
 by_cases c:n.tag=2
 ·cases hv:(n.v==CA)<;>rw[hv]at a<;>simp[asj,Vx,c,a,-eR];by_cases e:0≤n.col<;>simp[e]
 cases hv:(n.v==CA)<;>rw[hv]at a<;>simp[asj,Vx,b,c,fa b,fa c,a,-eR]
end Go.AM
namespace Go.AM
open P
set_option maxHeartbeats 64000000
set_option maxRecDepth 40000
instance:Nc EN.a 8 true:=⟨fun _=>rfl,fun _=>rfl⟩
instance:Fx EN.a:=⟨fun fl top base σ n y=>agd y fl top base σ (n+1)⟩
structure kU where
 tag:Int
 b:Bool
 arg:List EN
def kU.a(a:kU):aq:=aH [ap a.tag,.aa a.b (a.arg.map EN.a)]
structure yV where
 b:Bool
 l:List EN
def yV.a(e:yV):aq:=aH [.aa e.b (e.l.map EN.a)]
structure cJ where
 op:Int
 l:Int
 r:Int
 tab:Int
 bk:Bool
 ac:List Int
 left:Bool
 bc:Bool
 cond:List EN
 by':Bool
 keys:List Int
 bg:Bool
 ah:List kU
 bi:Bool
 items:List yV
 bo:Bool
 ords:List (Int×Bool)
 limit:Int
def cJ.a(n:cJ):aq:=aH [ap n.op,ap n.l,ap n.r,ap n.tab,.aa n.bk (n.ac.map (.int .i64)),aC n.left,.aa n.bc (n.cond.map EN.a),.aa n.by' (n.keys.map (.int .i64)),.aa n.bg (n.ah.map kU.a),.aa n.bi (n.items.map yV.a),.aa n.bo (n.ords.map gT),ap n.limit]
instance:Nc kU.a 2 true:=⟨fun _=>rfl,fun _=>rfl⟩
instance:Ft kU.a:=⟨fun fl top base σ n y h=>by cases fl<;>cases top<;>simp[kU.a]at h ⊢⟩
instance:Nc yV.a 1 true:=⟨fun _=>rfl,fun _=>rfl⟩
instance:Ft yV.a:=⟨fun fl top base σ n y h=>by cases fl<;>cases top<;>simp[yV.a]at h ⊢⟩
instance:Nc gT 2 true:=⟨fun _=>rfl,fun _=>rfl⟩
instance:Fx gT:=⟨fun fl top base σ n y=>by simp[gT]⟩
instance:Nc cJ.a 12 true:=⟨fun _=>rfl,fun _=>rfl⟩
instance:Ft cJ.a:=⟨fun fl top base σ n y h=>by cases fl<;>cases top<;>simp[cJ.a]at h ⊢⟩
instance:Nc (iG.c (aq.int .i64)) 1 false:=⟨fun _=>rfl,fun _=>rfl⟩
instance:Ft (iG.c (aq.int .i64)):=⟨fun fl top base σ n y h=>by cases fl<;>cases top<;>simp at h ⊢⟩
end Go.AM
namespace Go.AM
open P
set_option maxHeartbeats 64000000
set_option maxRecDepth 40000
attribute [local simp] aG bj
def ajw(op:Int):Int:=if op=1∨op=9 then 0 else if op=2∨op=7 then 2 else if op=3∨op=4∨op=5∨op=6∨op=8∨op=10∨op=11 then 1 else -1
def ir(n:cJ):Bool:=
 (n.op==1 ||n.op==9 ||n.tab==0&&n.ac.length==0)&&(n.op==2 || !n.left)&&(n.op==2 ||n.op==3 ||n.cond.length==0) &&
 (n.op==4 ||n.op==10 ||n.op==11 ||(n.keys.length:Int)+n.ah.length==0)&&(n.op==5 ||n.items.length==0)&&(n.op==8 ||n.ords.length==0&&n.limit==0)
def Lf(t:Int):Bool:=t==4 ||decide (12≤t)&&decide (t≤15)
@[simp] theorem Xb(t:Int):bB I.qbw [ap t]=some (aC (Lf t)):=by
 rw[aR amJ rfl];unfold Lf;simp[auc,ae1]
 repeat' (split<;>(try simp_all))
 all_goals omega
def adJ(own k:Int):Int:=if k=0∨k=own then own else if own=0 then k else -1
def uE(ac:List Int)(n:EN)(l:List Int):Int×Int:=
 let own:=l.foldl adJ 0
 if n.tag=1 then (n.v.k,0) else if n.tag=2 then (ac.getD n.col.toNat 0,0) else
 let want:=if Lf n.tag then 2 else if n.tag=5∨n.tag=22∨n.tag=23 then 1 else own
 if own=-1∨own≠0∧own≠want then (0,201) else (if Lf n.tag then 2 else 1,0)
theorem RR(n:EN)(b:Bool)(l:List Int)(a:Bool)(ac:List Int)(e:l.length≤bD)(g:n.tag=2→0≤n.col∧n.col<ac.length) :
  bB I.qbr [n.a,.aa b (l.map (.int .i64)),.cptr true (.aa a (ac.map (.int .i64))) 0]=some (fb [ap (uE ac n l).1,ap (uE ac n l).2]):=by
 rw[aR ak6 rfl];have h:=fun x=>(gL (base:=1) (clr:=[7,13,14,15]) (b:=Gl) l
  (fun k (own:Int)=>⟨[n.a,.aa b (l.map (.int .i64)),.cptr true (.aa a (ac.map (.int .i64))) 0,aI 0 0 0 0,ap 0,ap 0,ap own,am,am,am,.aa b (l.map (.int .i64)),ap l.length,ap k,am,am,am,am,am,am,am,am],[aB 8 0 [n.a]]⟩)
  (fun _ _=>True) adJ
  (fun own=>(.ext 0,⟨[n.a,.aa b (l.map (.int .i64)),.cptr true (.aa a (ac.map (.int .i64))) 0,aI 0 0 0 0,ap 0,ap 0,ap own,am,am,am,.aa b (l.map (.int .i64)),ap l.length,ap l.length,aC false,am,am,am,am,am,am,am],[aB 8 0 [n.a]]⟩))
  (fun k y own d f _=>by
   refine⟨?_,trivial⟩;have c:((k:Int)<(l.length:Int)):=by omega
   unfold adJ;simp[Gl,c,f,cO]
   repeat' (split<;>(try simp_all[cU d e,cO])))
  (fun own _=>by simp[Gl]) 0 x).1
 have h:=h trivial;simp[EN.a]at h;unfold uE;simp[auH,agY,h,EN.a];generalize l.foldl adJ 0=own
 repeat' (split<;>(try simp_all))
end Go.AM
namespace Go.AM
open P
set_option maxHeartbeats 8000000
set_option maxRecDepth 8000
def dS(l:List Nat):List aq:=l.map fun (n:Nat)=>ap (n:Int)
@[simp] theorem ac9(l:List Nat):(dS l).length=l.length:=by simp[dS]
@[simp] theorem ajZ:dS []=[]:=rfl
theorem tZ{l:List Nat}{k:Nat}(h:k<l.length):(dS l)[k]?=some (ap (l[k]:Int)):=by simp[dS,h]
theorem wY{l:List Nat}{k:Nat}(h:k<(dS l).length):(dS l)[k]=ap ((l[k]'(by simpa using h):Nat):Int):=by simp[dS]
theorem eo(l m:List Nat):dS (l++m)=dS l++dS m:=by simp[dS]
@[simp] theorem ajV(n:Nat):dS [n]=[ap (n:Int)]:=rfl
@[simp] theorem ajY(n m:Nat):dS [n,m]=[ap (n:Int),ap (m:Int)]:=rfl
theorem sj(l:List Nat)(fl top:Bool)(base:Nat)(σ:aw)(m:Nat):(dS l).map (fz fl top base σ (m+1))=dS l:=by
 unfold dS;rw[bU];exact aU fun n _=>by simp
theorem oI(l:List Nat)(base:Nat)(σ:aw):(dS l).map (cq base σ)=dS l:=sj l false true base σ 19
def sW(i:Nat)(n:EN)(all opn:List Nat):Option (List Nat×List Nat):=
 if dv n.tag<0∨opn.length<dv n.tag∨iv n=false then none else
 match opn.drop (opn.length-(dv n.tag).toNat) with
 |[]=>if n.l=-1∧n.r=-1 then some (all++[i],opn++[i]) else none
 |[p]=>if n.l=p∧n.r=-1 then some (all++[min i (all.getD p 0)],opn.take (opn.length-1)++[i]) else none
 |[p,q]=>if n.l=p∧n.r=q then some (all++[min (min i (all.getD p 0)) (all.getD q 0)],opn.take (opn.length-2)++[i]) else none
 |_=>none
abbrev iB(b:Bool)(e:List EN)(k:Nat)(all opn:List Nat):St:=
 ⟨[aH [.aa b (AC e)],aI 0 0 0 0,am,am,.sl 1 k 0 all.length,.sl 2 k 0 opn.length,am,am,am,am,am,am,am,am,.aa b (AC e),ap e.length,ap k,am,am,am,am,am,am,am],
  [aB 1 0 [aH [.aa b (AC e)]],aB 1 k (dS all),aB 1 k (dS opn)]⟩
theorem wD(t:Int):-1≤dv t∧dv t≤2:=by
 unfold dv
 repeat' split
 all_goals omega
theorem Tr:IntKind.i64.wrap 1=1:=rfl
theorem agN:IntKind.i64.wrap 2=2:=rfl
theorem OC{b:Bool}{e:List EN}{k:Nat}{all a s t:List Nat}(Q:k<e.length)(r:e.length≤bD)(B:all.length=k)(U:∀p∈a,p<k)(j:a.length≤k)
  (h:sW k e[k] all a=some (s,t)) :
  dh 3 [2,3,6,7,8,9,10,11,12,13,17,18,19,20,21,22,23] jD (run code jD (iB b e k all a)) =
   bT code 3 [2,3,6,7,8,9,10,11,12,13,17,18,19,20,21,22,23] jD (iB b e (k+1) s t):=by
 have m:=Oa Q;have C:=Bf e[k].tag;have l:=FU e[k];have v:((k:Int)<(e.length:Int)):=by omega
 unfold sW at h;split at h
 ·cases h
 rename_i ab;have S:iv e[k]=true:=by cases hq:iv e[k]<;>simp_all
 rw[S]at l;have ae:¬(dv e[k].tag<0):=by omega
 have K:¬((a.length:Int)<dv e[k].tag):=by omega
 have af:=wD e[k].tag;have T:k+1≤bD:=by omega
 have n:dv e[k].tag=0∨dv e[k].tag=1∨dv e[k].tag=2:=by omega
 rcases n with J|J|J
 ·rw[J]at h C;simp at h;obtain⟨⟨D,E⟩,rfl,rfl⟩:=h;unfold EN.a at m l;rw[D,E]at m l;have O:(dS all).take k=dS all:=ay (by simp[B]);have P:(dS a).take a.length=dS a:=ay (by simp);have F:=sj all;have G:=sj a;have H:=oI all;have I:=oI a;have i:¬((a.length:Int)<0):=by omega
  have N:IntKind.i64.wrap (a.length:Int)=a.length:=jJ (by unfold bD at r;omega);have f:a.length+1≤bD:=by omega
  simp[iB,jD,m,v,C,l,B,O,P,F,G,H,I,i,N,append,eo,T,f,cU Q r,bN,bA,lD 5,lD 6,wR]
 ·rw[J]at h C K;have d:1≤a.length:=by omega
  obtain⟨o,p,rfl⟩:∃o p,a=o++[p]:=⟨a.dropLast,a.getLast (by intro e;subst e;simp at d),(dQ _).symm⟩;simp at h;obtain⟨⟨D,E⟩,rfl,rfl⟩:=h;have x:p<k:=U p (by simp);unfold EN.a at m l;rw[D,E]at m l;have c:p<all.length:=by omega
  have X:=tZ c;have O:(dS all).take k=dS all:=ay (by simp[B]);have P:(dS (o++[p])).take o.length=dS o:=by rw[eo,fZ (by simp)]
  have Y:(dS (o++[p]))[o.length]?=some (ap (p:Int)):=by rw[eo,bC (by simp)];simp
  have F:=sj all;have G:=sj o;have H:=oI all;have I:=oI o;have Z:(o++[p]).length=o.length+1:=by simp
  have i:¬((o.length:Int)+1<1):=by omega
  have N:IntKind.i64.wrap ((o.length:Int)+1-1)=o.length:=by rw[jJ (by simp at j;unfold bD at r;omega)];omega
  have A:IntKind.i64.wrap (o.length:Int)=o.length:=by rw[jJ (by simp at j;unfold bD at r;omega)]
  have f:o.length+1≤bD:=by simp at j;omega
  simp at j;have hd:all[p]?.getD 0=all[p]:=by simp[c]
  have g:(if all[p]<k then (all[p]:Int) else (k:Int))=((min k all[p]:Nat):Int):=by split<;>omega
  simp[iB,jD,m,v,C,l,B,O,P,Y,F,G,H,I,i,N,A,append,eo,T,f,cU Q r,bN,bA,lD 5,wR,X,x,c,wY,g,Tr]
 rw[J]at h C K;have d:2≤a.length:=by omega
 obtain⟨o',q,rfl⟩:∃o p,a=o++[p]:=⟨a.dropLast,a.getLast (by intro e;subst e;simp at d),(dQ _).symm⟩;have M:1≤o'.length:=by simp at d;omega
 obtain⟨o,p,rfl⟩:∃o p,o'=o++[p]:=⟨o'.dropLast,o'.getLast (by intro e;subst e;simp at M),(dQ _).symm⟩;have u:(o++[p]++[q]).drop ((o++[p]++[q]).length-(2:Int).toNat)=[p,q]:=by
  simp
 have z:(o++[p]++[q]).take ((o++[p]++[q]).length-2)=o:=by
  rw[dy,fZ (by simp)]
 rw[u]at h;simp only[z]at h;split at h
 ·rename_i R;obtain⟨D,E⟩:=R;simp only[aK,dY]at h;obtain⟨rfl,rfl⟩:=h;have x:p<k:=U p (by simp);have V:q<k:=U q (by simp);unfold EN.a at m l;rw[D,E]at m l;have c:p<all.length:=by omega
  have y:q<all.length:=by omega
  have X:=tZ c;have q2:=tZ y;have O:(dS all).take k=dS all:=ay (by simp[B]);have hN:dS (o++[p]++[q])=dS o++([ap (p:Int),ap (q:Int)]:List aq):=by simp[eo]
  have P:(dS o++([ap (p:Int),ap (q:Int)]:List aq)).take o.length=dS o:=by rw[fZ (by simp)]
  have Y:(dS o++([ap (p:Int),ap (q:Int)]:List aq))[o.length]?=some (ap (p:Int)):=by rw[bC (by simp)];simp
  have t4:(dS o++([ap (p:Int),ap (q:Int)]:List aq))[o.length+1]?=some (ap (q:Int)):=by rw[bC (by simp)];simp
  have F:=sj all;have G:=sj o;have H:=oI all;have I:=oI o;simp at j;have i:¬((o.length:Int)+1+1<2):=by omega
  have L:¬((o.length:Int)+2<2):=by omega
  have N:IntKind.i64.wrap ((o.length:Int)+1+1-2)=o.length:=by rw[jJ (by unfold bD at r;omega)];omega
  have W:IntKind.i64.wrap ((o.length:Int)+2-2)=o.length:=by rw[jJ (by unfold bD at r;omega)];omega
  have A:IntKind.i64.wrap (o.length:Int)=o.length:=by rw[jJ (by unfold bD at r;omega)]
  have f:o.length+1≤bD:=by omega
  have hd:all[p]?.getD 0=all[p]:=by simp[c]
  have ad:all[q]?.getD 0=all[q]:=by simp[y]
  have g:(if all[p]<k then (all[p]:Int) else (k:Int))=((min k all[p]:Nat):Int):=by split<;>omega
  have w:(if all[q]<min k all[p] then (all[q]:Int) else ((min k all[p]:Nat):Int))=((min (min k all[p]) all[q]:Nat):Int):=by split<;>omega
  unfold iB;rw[hN];simp[jD,m,v,C,l,B,O,P,Y,t4,F,G,H,I,i,L,N,W,A,append,eo,T,f,cU Q r,bN,bA,lD 5,wR,X,q2,x,c,V,y,wY,g,w,Tr,agN]
 cases h
end Go.AM
namespace Go.AM
open P
set_option maxHeartbeats 8000000
set_option maxRecDepth 8000
abbrev Ab:List Nat:=[2,3,6,7,8,9,10,11,12,13,17,18,19,20,21,22,23]
def NP(r:Option (Ex×St)):Prop:=∃s,r=some (.ret,s)∧pr s.env 2=.ai∧pr s.env 3=aC false
theorem SN{k:Nat}{n:EN}{all c:List Nat}(h:sW k n all c=none) :
  (dv n.tag<0∨c.length<dv n.tag∨iv n=false) ∨
  ((0≤dv n.tag∧dv n.tag≤c.length∧iv n=true) ∧
   ((dv n.tag=0∧¬(n.l=-1∧n.r=-1))∨(∃(o:List Nat) (p:Nat),dv n.tag=1∧c=o++[p]∧¬(n.l=(p:Int)∧n.r=-1))∨(∃(o:List Nat) (p q:Nat),dv n.tag=2∧c=o++[p,q]∧¬(n.l=(p:Int)∧n.r=(q:Int))))):=by
 unfold sW at h;split at h
 ·exact .inl (by assumption)
 rename_i l;have m:iv n=true:=by cases hq:iv n<;>simp_all
 have r:=wD n.tag;refine .inr ⟨⟨by omega,by omega,m⟩,?_⟩;rcases (show dv n.tag=0∨dv n.tag=1∨dv n.tag=2 by omega) with f|f|f
 ·rw[f]at h;simp at h;exact .inl ⟨f,fun ⟨a,b⟩=>h a b⟩
 ·rw[f]at h;have d:1≤c.length:=by omega
  obtain⟨o,p,rfl⟩:∃o p,c=o++[p]:=⟨c.dropLast,c.getLast (by intro e;subst e;simp at d),(dQ _).symm⟩;simp at h;exact .inr (.inl ⟨o,p,f,rfl,fun ⟨a,b⟩=>h a b⟩)
 rw[f]at h;have d:2≤c.length:=by omega
 obtain⟨o',q,rfl⟩:∃o p,c=o++[p]:=⟨c.dropLast,c.getLast (by intro e;subst e;simp at d),(dQ _).symm⟩;have i:1≤o'.length:=by simp at d;omega
 obtain⟨o,p,rfl⟩:∃o p,o'=o++[p]:=⟨o'.dropLast,o'.getLast (by intro e;subst e;simp at i),(dQ _).symm⟩;have g:(o++[p]++[q]).drop ((o++[p]++[q]).length-(2:Int).toNat)=[p,q]:=by simp
 rw[g]at h;simp only at h;split at h
 ·cases h
 rename_i j;exact .inr (.inr ⟨o,p,q,f,by simp,j⟩)
theorem ajD{a b c d:Int}(h:¬(c=a∧d=b)):eqa true [0,0] (aH [ap a,ap b]) (aH [ap c,ap d])=some (aC true):=by
 by_cases f:c=a
 ·have g:¬b=d:=fun e=>h ⟨f,e.symm⟩;simp[f,fa g]
 have g:¬a=c:=fun e=>f e.symm;simp[fa g]
theorem OS{b:Bool}{e:List EN}{k:Nat}{all a:List Nat}(K:k<e.length)(u:e.length≤bD)(F:all.length=k)(z:∀p∈a,p<k)(v:a.length≤k)
  (h:sW k e[k] all a=none):NP (dh 3 Ab jD (run code jD (iB b e k all a))):=by
 have m:=Oa K;have l:=Bf e[k].tag;have n:=FU e[k];have c:((k:Int)<(e.length:Int)):=by omega
 rcases SN h with H|⟨⟨t,N,G⟩,I⟩
 ·unfold EN.a at m n;by_cases d:dv e[k].tag<0
  ·exact⟨_,by simp[iB,jD,m,c,l,d];rfl,rfl,rfl⟩
  by_cases j:(a.length:Int)<dv e[k].tag
  ·exact⟨_,by simp[iB,jD,m,c,l,d,j];rfl,rfl,rfl⟩
  have y:iv e[k]=false:=H.elim (fun h=>absurd h d) fun h=>h.elim (fun h=>absurd h j) id;rw[y]at n;exact⟨_,by simp[iB,jD,m,c,l,d,j,n];rfl,rfl,rfl⟩
 have d:¬(dv e[k].tag<0):=by omega
 have j:¬((a.length:Int)<dv e[k].tag):=by omega
 rw[G]at n;unfold EN.a at m n;have C:IntKind.i64.wrap (a.length:Int)=a.length:=by rw[jJ (by unfold bD at u;omega)]
 rcases I with⟨t,f⟩|⟨o,p,t,rfl,f⟩|⟨o,p,q,t,rfl,f⟩
 ·rw[t]at l;have x:=ajD f;have g:¬((a.length:Int)<0):=by omega
  exact⟨_,by simp[iB,jD,m,c,l,g,n,C,lD 5,lD 6,wR,-eqa,x];rfl,rfl,rfl⟩
 ·rw[t]at l;have x:=ajD f;have r:p<k:=z p (by simp);have i:p<all.length:=by omega
  have D:=tZ i;simp at v;have E:(dS (o++[p]))[o.length]?=some (ap (p:Int)):=by rw[eo,bC (by simp)];simp
  have g:¬((o.length:Int)+1<1):=by omega
  have B:IntKind.i64.wrap ((o.length:Int)+1-1)=o.length:=by rw[jJ (by unfold bD at u;omega)];omega
  have s:IntKind.i64.wrap (o.length:Int)=o.length:=by rw[jJ (by unfold bD at u;omega)]
  exact⟨_,by simp[iB,jD,m,c,l,g,n,B,s,F,E,D,r,i,wY,eo,bN,bA,lD 5,wR,Tr,-eqa,x];rfl,rfl,rfl⟩
 rw[t]at l;have x:=ajD f;have r:p<k:=z p (by simp);have A:q<k:=z q (by simp);have i:p<all.length:=by omega
 have w:q<all.length:=by omega
 have D:=tZ i;have L:=tZ w;simp at v;have J:dS (o++[p,q])=dS o++([ap (p:Int),ap (q:Int)]:List aq):=by simp[eo]
 have E:(dS o++([ap (p:Int),ap (q:Int)]:List aq))[o.length]?=some (ap (p:Int)):=by rw[bC (by simp)];simp
 have M:(dS o++([ap (p:Int),ap (q:Int)]:List aq))[o.length+1]?=some (ap (q:Int)):=by rw[bC (by simp)];simp
 have g:¬((o.length:Int)+2<2):=by omega
 have B:IntKind.i64.wrap ((o.length:Int)+2-2)=o.length:=by rw[jJ (by unfold bD at u;omega)];omega
 have s:IntKind.i64.wrap (o.length:Int)=o.length:=by rw[jJ (by unfold bD at u;omega)]
 unfold iB;rw[J];exact⟨_,by simp[jD,m,c,l,g,n,B,s,F,E,M,D,L,r,i,A,w,wY,eo,bN,bA,lD 5,wR,Tr,agN,-eqa,x];rfl,rfl,rfl⟩
def iw:List EN→Nat→List Nat→List Nat→Option (List Nat×List Nat)
 |[],_,all,opn=>some (all,opn)
 |n::r,i,all,opn=>(sW i n all opn).bind fun q=>iw r (i+1) q.1 q.2
theorem V9{k:Nat}{n:EN}{all d c b:List Nat}(e:all.length=k)(f:∀p∈d,p<k)(g:d.length≤k)(h:sW k n all d=some (c,b)) :
  c.length=k+1∧(∀p∈b,p<k+1)∧b.length≤k+1:=by
 unfold sW at h;split at h
 ·cases h
 split at h
 ·split at h
  ·cases h
   exact⟨by simp[e],fun p a=>by
    rcases ba.1 a with a|a
    ·have:=f p a;omega
    simp at a;omega,by simp;omega⟩
  cases h
 ·split at h
  ·cases h
   exact⟨by simp[e],fun p a=>by
    rcases ba.1 a with a|a
    ·have:=f p (cL a);omega
    simp at a;omega,by simp;omega⟩
  cases h
 ·split at h
  ·cases h
   exact⟨by simp[e],fun p a=>by
    rcases ba.1 a with a|a
    ·have:=f p (cL a);omega
    simp at a;omega,by simp;omega⟩
  cases h
 cases h
theorem EY{b:Bool}{e:List EN}(l:e.length≤bD):∀(m k:Nat) (all a:List Nat),k+m=e.length→all.length=k→(∀p∈a,p<k)→a.length≤k →
  (match iw (e.drop k) k all a with
   |none=>NP (bT code 3 Ab jD (iB b e k all a))
   |some (c,d)=>c.length=e.length∧∃x,bT code 3 Ab jD (iB b e k all a) =
     some (.ext 0,⟨[aH [.aa b (AC e)],aI 0 0 0 0,am,am,.sl 1 e.length 0 c.length,.sl 2 e.length 0 d.length,am,am,am,am,am,am,am,am,.aa b (AC e),ap e.length,ap e.length,x,am,am,am,am,am,am],
      [aB 1 0 [aH [.aa b (AC e)]],aB 1 e.length (dS c),aB 1 e.length (dS d)]⟩))
 |0,k,all,a,j,h,i,f=>by
  have j:k=e.length:=by omega
  subst j;rw[oZ];simp only[iw];refine⟨h,aC false,?_⟩;rw[lD];simp[iB,jD]
 |m+1,k,all,a,j,h,i,f=>by
  have g:k<e.length:=by omega
  rw[dl g];simp only[iw];cases hs:sW k e[k] all a with
  |none=>
   simp only[Option.bind_none];rw[lD];exact OS g l h i f hs
  |some q=>
   obtain⟨c,d⟩:=q;simp only[cF];obtain⟨o,r,s⟩:=V9 h i f hs;have t:=EY (b:=b) l m (k+1) c d (by omega) o r s;have n:=OC (b:=b) g l h i f hs;rw[lD 3 Ab jD (iB b e k all a),n];exact t
theorem DC(l:List Nat)(fl top:Bool)(base:Nat)(σ:aw)(n:Nat):∀a,a∈dS l→aM (fz fl top base σ (n+1) a)=aM a:=fun a b=>by
 obtain⟨k,_,rfl⟩:=bM.1 b;simp
def wk(e:List EN):Bool:=match iw e 0 [] [] with
 |none=>false
 |some (all,opn)=>opn.length==1&&decide (all.length≤1000)
theorem Ob(b:Bool)(e:List EN)(n:e.length≤bD):∃x,bB I.qby [Ki b e]=some (fb [x,aC (wk e)])∧(wk e=true→∃all,iw e 0 [] []=some all∧x=.aa false (dS all.1)):=by
 rw[aR alW rfl];have h:=EY (b:=b) n e.length 0 [] [] (by omega) rfl (by simp) (by simp);rw[nq]at h;unfold wk Ki;cases hf:iw e 0 [] [] with
 |none=>
  rw[hf]at h;obtain⟨s,a,l,m⟩:=h;refine⟨.aa false [],?_,fun h=>by cases h⟩;unfold iB at a;simp at a;have d:s.env[2]?.getD am=.ai:=l;have f:s.env[3]?.getD am=aC false:=m;simp[ass,Vs,a,d,f]
 |some q=>
  rw[hf]at h;obtain⟨all,c⟩:=q;obtain⟨o,x,a⟩:=h;refine⟨.aa false (dS all),?_,fun _=>⟨_,rfl,rfl⟩⟩;unfold iB at a;simp at a;have k:(dS all).take all.length=dS all:=ay (by simp);have i:=sj all;by_cases j:c.length=1
  ·simp[ass,Vs,a,j,k,i];exact⟨DC all _ _ _ _ _,by omega⟩
  have g:¬((c.length:Int)=1):=by omega
  simp[ass,Vs,a,j,fa g,k,i];exact DC all _ _ _ _ _
theorem aeb(e:List EN)(fl top:Bool)(base:Nat)(σ:aw)(n:Nat):(AC e).map (fz fl top base σ (n+2))=AC e:=by
 unfold AC;rw[bU];exact aU fun v _=>agd v fl top base σ n
theorem zf(b:Bool)(e:List EN)(c:e.length≤bD):bB I.qbo [Ki b e]=some (ap (if wk e then 0 else 200)):=by
 rw[aR an4 rfl];obtain⟨x,h,_⟩:=Ob b e c;have d:∀a,a=b∨a=true→True:=fun _ _=>trivial;unfold Ki at *;cases ho:wk e<;>rw[ho]at h<;>simp[auT,afc,h]
end Go.AM
namespace Go.AM
open P
set_option maxHeartbeats 64000000
set_option maxRecDepth 40000
attribute [local simp] aG bj
def JC(x:Int):List Int→List Int
 |[]=>[x]
 |y::r=>if x≤y then x::y::r else y::JC x r
def rY:List Int→List Int
 |[]=>[]
 |x::r=>JC x (rY r)
theorem Pt(x z:Int):∀l:List Int,z∈JC x l↔z=x∨z∈l
 |[]=>by simp[JC]
 |y::r=>by
  unfold JC;split
  ·simp
  simp[Pt x z r];constructor<;>rintro (h|h|h)<;>simp[h]
theorem EG(z:Int):∀l:List Int,z∈rY l↔z∈l
 |[]=>by simp[rY]
 |x::r=>by simp[rY,Pt,EG z r]
theorem NT(x:Int):∀l:List Int,(JC x l).length=l.length+1
 |[]=>rfl
 |y::r=>by
  unfold JC;split<;>simp[NT x r]
theorem Ar:∀l:List Int,(rY l).length=l.length
 |[]=>rfl
 |x::r=>by simp[rY,NT,Ar r]
theorem SQ(x:Int):∀l:List Int,lJ su (ap x) (l.map (.int .i64))=(JC x l).map (.int .i64)
 |[]=>rfl
 |y::r=>by
  by_cases h:x≤y
  ·simp[lJ,JC,su,h]
  simp[lJ,JC,su,h,SQ x r]
theorem Pz:∀l:List Int,oe su (l.map (.int .i64))=(rY l).map (.int .i64)
 |[]=>rfl
 |x::r=>by simp only[aV,oe,Pz r,SQ];rfl
theorem JQ:∀l:List Int,O9 (l.map (.int .i64))=some l
 |[]=>rfl
 |x::r=>by simp[O9,JQ r]
theorem VF{σ:aw}{id ep:Nat}{l:List Int}(a:σ[id]?=some (aB 1 ep (cV l)))(d:l.length≤bD) :
  cD code I.slices_Sort_int_int [.sl id ep 0 l.length] σ=some (am,σ.set id (aB 1 ep (cV (rY l)))):=by
 refine wV good (k:=2) (n:=0) yp ?_;have e:code.prims=prims:=rfl;rw[e];have b:((cV l).drop 0).take l.length=cV l:=by simp
 have c:(cV l).drop l.length=[]:=by simp
 simp only[prims,yQ,a,b,c,cE,JQ,Pz];rw[if_pos (by simp[d])];simp
def sU(e:List EN):List Int:=e.flatMap fun n=>if n.tag=2 then [n.col] else []
theorem Px(e:List EN):(sU e).length≤e.length:=by
 induction e with
 |nil=>exact aF _
 |cons n e a=>
  unfold sU at *;simp only[gc,cn,bw];split<;>simp only[bw,bE]<;>omega
def nQ(e:List EN):List Int:=eA (rY (sU e))
theorem VN(b:Bool)(e:List EN)(d:e.length≤bD)(y:wk e=true):bB I.qbp [aH [.aa b (e.map EN.a)]]=some (.aa false (cV (nQ e))):=by
 rw[aR aki rfl];have f:=fun b=>zf b e d;rw[y]at f;simp only[Ki,AC]at f;have r:(sU e).length≤bD:=bH (Px e) d;obtain⟨ep,h⟩:=SO (base:=2) (clr:=[4,9,10]) (b:=Cq) e
  (fun k ep (a:List Int)=>⟨[aH [.aa b (e.map EN.a)],aI 0 0 0 0,.ai,.sl 1 ep 0 a.length,am,aC false,.aa b (e.map EN.a),ap e.length,ap k,am,am],[aB 1 0 [aH [.aa b (e.map EN.a)]],aB 1 ep (cV a)]⟩)
  (fun n=>if n.tag=2 then [n.col] else [])
  (fun ep a=>(.ext 0,⟨[aH [.aa b (e.map EN.a)],aI 0 0 0 0,.ai,.sl 1 ep 0 a.length,am,aC false,.aa b (e.map EN.a),ap e.length,ap e.length,aC false,am],[aB 1 0 [aH [.aa b (e.map EN.a)]],aB 1 ep (cV a)]⟩)) 1
  (fun n _=>by split<;>simp)
  (fun k n ep a q t C=>by
   have o:((k:Int)<(e.length:Int)):=by omega
   have v:a.length+1≤bD:=by omega
   by_cases j:n.tag=2
   ·exact⟨ep+1,by simp[Cq,o,t,EN.a,j,append,v,cU q d,bN,bA]⟩
   exact⟨ep,by simp[Cq,o,t,EN.a,j,fa j,cU q d,bN,bA]⟩)
  (fun ep a _=>by simp[Cq]) 0
 have z:=fun m:Obj=>VF (σ:=[m,aB 1 ep (cV (sU e))]) (id:=1) (ep:=ep) rfl r;obtain⟨A,p,B,u⟩:=MV (σ:=[aB 1 0 [aH [.aa b (e.map EN.a)]],aB 1 ep (cV (rY (sU e)))]) (id:=1) (ep:=ep) (l:=rY (sU e)) rfl (by rw[Ar];exact r);simp only[cV,bm,bE,show ((0:Nat):Int)=0 from rfl]at h;rw[Ar]at p;unfold nQ;have x:=yB (rY (sU e));have g:(e.flatMap fun n=>if n.tag=2 then [n.col] else [])=sU e:=rfl;rw[g]at h;have w:(cV A).take (eA (rY (sU e))).length=cV (eA (rY (sU e))):=by
  unfold cV;rw[←List.map_take,u]
 generalize eA (rY (sU e))=c at *;generalize rY (sU e)=s at *;generalize sU e=cs at *;have i:c.length≤A.length:=by omega
 simp[auI,af1,f,h,z,p,w,i]
end Go.AM
