/- Part of the proof. -/
import Derived.Test.YtmpmbfpkpannjaaGreatDoorBm15
import Derived.Test.YtmpmbfpkpannjaaGreatDoorCards
set_option linter.unusedVariables false
set_option linter.unusedSimpArgs false
set_option linter.unusedSectionVars false
namespace Go.Proofs
open Go.Shelf Go.Lib
theorem JD{P:Program}{w:World}{dH:Nat}{t:TypeId}{cs:List Value}{ms:Array (String×TypeId)}{nm:String}{d:DataW Unit}{p:List MemPlace}(ht:P.underlying t=some (.interface ms))(h:DataW.trod (fun _=>()) P w 0 (fun _=>true) false dH t cs=some (.iface nm d,p)):∃te pe,cs=[.iface te pe]:=by
 cases dH with
 |zero=>simp[DataW.trod]at h
 |succ n=>
  unfold DataW.trod at h;rw[ht]at h
  match cs,h with
  |[.iface u v],_=>exact⟨u,v,rfl⟩
  |[.nilIface],h=>simp at h
theorem Tryz.caseX:CaseExtra Tryz.prog Tryz.upR:={ n13:=by kernel_rfl,y13:=by kernel_rfl,c21:=by kernel_rfl,c51:=by kernel_rfl,c206:=by kernel_rfl,c208:=by kernel_rfl }
theorem Tryz.u8X:U8Extra Tryz.prog Tryz.upR:={ n3:=by kernel_rfl,n4:=by kernel_rfl,y3:=by kernel_rfl,y4:=by kernel_rfl,c5:=by kernel_rfl,c119:=by kernel_rfl,c138:=by kernel_rfl }
theorem Tryz.case_eq:YtmpmbfpkpannjaaGreatDoor.Rows.laid_unicode_CaseRanges=caseData:=by kernel_rfl
theorem Tryz.first_eq:YtmpmbfpkpannjaaGreatDoor.Rows.laid_unicode_utf8_first=firstData:=by kernel_rfl
theorem Tryz.acc_eq:YtmpmbfpkpannjaaGreatDoor.Rows.laid_unicode_utf8_acceptRanges=acceptData:=by kernel_rfl
theorem Tryz.tabs_laid(W:World)(h:laidMet Tryz.prog YtmpmbfpkpannjaaGreatDoor.Rows.lowerAllRow.laid W)(g13 g3 g4 gE:Nat)(n1:Tryz.prog.globalNamed "unicode.CaseRanges" = some g13)(n2:Tryz.prog.globalNamed "unicode/utf8.first" = some g3)(n3:Tryz.prog.globalNamed "unicode/utf8.acceptRanges" = some g4)(n4:Tryz.prog.globalNamed "strconv.ErrRange" = some gE):CaseVar g13 caseA W∧Utf8Tabs g3 g4 W∧∃ te pe,W.cell? ⟨gE,0,none⟩=some (.iface te pe):=by
 have e1:Tryz.prog.globalNamed "unicode.CaseRanges" = some 3:=by kernel_rfl
 have e2:Tryz.prog.globalNamed "unicode/utf8.first" = some 5:=by kernel_rfl
 have e3:Tryz.prog.globalNamed "unicode/utf8.acceptRanges" = some 6:=by kernel_rfl
 cases Option.some.inj (e1.symm.trans n1);cases Option.some.inj (e2.symm.trans n2);cases Option.some.inj (e3.symm.trans n3);have r1:=laidMet.reads (n:="unicode.CaseRanges") (d:=YtmpmbfpkpannjaaGreatDoor.Rows.laid_unicode_CaseRanges) h (by simp[YtmpmbfpkpannjaaGreatDoor.Rows.lowerAllRow]);have r2:=laidMet.reads (n:="unicode/utf8.first") (d:=YtmpmbfpkpannjaaGreatDoor.Rows.laid_unicode_utf8_first) h (by simp[YtmpmbfpkpannjaaGreatDoor.Rows.lowerAllRow]);have r3:=laidMet.reads (n:="unicode/utf8.acceptRanges") (d:=YtmpmbfpkpannjaaGreatDoor.Rows.laid_unicode_utf8_acceptRanges) h (by simp[YtmpmbfpkpannjaaGreatDoor.Rows.lowerAllRow]);have herr:∃te pe,W.cell? ⟨gE,0,none⟩=some (.iface te pe):=by
  obtain⟨ps,hv,_⟩:=h;obtain⟨g,t,cs,dH,p,k1,k2,k3,k4⟩:=Go.AM.laid_mem hv "strconv.ErrRange" YtmpmbfpkpannjaaGreatDoor.Rows.laid_strconv_ErrRange (by simp[YtmpmbfpkpannjaaGreatDoor.Rows.lowerAllRow]);obtain rfl:=Option.some.inj (n4.symm.trans k1);have e4:Tryz.prog.globalNamed "strconv.ErrRange" = some 8:=by kernel_rfl
  cases Option.some.inj (e4.symm.trans n4);have et:(Tryz.prog.globals[8]?).map (·.type)=some 271:=by kernel_rfl
  cases Option.some.inj (et.symm.trans k2);obtain⟨te,pe,hc⟩:=JD Tryz.underlying271 k4;refine⟨te,pe,?_⟩;rw[World.var?_cell e4 k3 0,←Array.getElem?_toList,hc];rfl
 rw[Tryz.case_eq]at r1;rw[Tryz.first_eq]at r2;rw[Tryz.acc_eq]at r3;exact⟨caseVar_of_reads Tryz.lays274 Tryz.underlying374 Tryz.caseX r1,utf8Tabs_of_reads Tryz.lays260 Tryz.u8X r2 r3,herr⟩
end Go.Proofs
namespace Go.AM
section
variable {P:Code}
theorem als(env ls:List aq)(σ:aw)(x:dc):step P env ls σ (.mov x)=(some (x.eval env ls,σ)):=by
 unfold step;simp only[bJ];exact bI _
theorem ajh(env ls:List aq)(σ:aw)(c:dc)(a:dc)(b:dc):step P env ls σ (.pick c a b)=((Vh (a.eval env ls) (b.eval env ls) (c.eval env ls)).map (·,σ)):=by
 unfold step;simp only[bJ];exact bI _
theorem alS(env ls:List aq)(σ:aw)(k:Nat)(x:dc):step P env ls σ (.box k x)=(let v:=x.eval env ls;if aM v=k then some (.ptr σ.length 0 0 0,σ++[.arr k 0 [v]]) else none):=by
 unfold step;simp only[bJ];exact bI _
theorem aem(env ls:List aq)(σ:aw)(zero:List aq)(a:List (Nat×Nat×dc)):step P env ls σ (.build zero a)=((fill zero (a.map fun p=>(p.1,p.2.1,p.2.2.eval env ls))).map fun cs=>(.agg cs,σ)):=by
 unfold step;simp only[bJ];exact bI _
theorem ac2(env ls:List aq)(σ:aw)(k:Nat):step P env ls σ (.mknil k)=(some (.sl σ.length 0 0 0,σ++[.arr k 0 []])):=by
 unfold step;simp only[bJ];exact bI _
theorem alo(env ls:List aq)(σ:aw)(k:Nat)(xs:List dc):step P env ls σ (.mkl k xs)=(let vs:=xs.map (·.eval env ls);if vs.all (fun v=>aM v==k) then some (.lst vs,σ) else none):=by
 unfold step;simp only[bJ];exact bI _
theorem ai7(env ls:List aq)(σ:aw)(k:Nat)(xs:List dc):step P env ls σ (.mksl k xs)=(let vs:=xs.map (·.eval env ls)
  if vs=[] then some (.ai,σ) else
  if vs.all (fun v=>aM v==k) then some (.sl σ.length 0 0 vs.length,σ++[.arr k 0 vs]) else none):=by
 unfold step;simp only[bJ];exact bI _
theorem adE(env ls:List aq)(σ:aw)(k:Nat)(zero:aq)(n:Nat)(a:List (Nat×dc)):step P env ls σ (.mkslz k zero n a)=(let vs:=Mz (List.replicate n zero) (a.map fun p=>(p.1,p.2.eval env ls))
  if vs.all (fun v=>aM v==k) then some (.sl σ.length 0 0 n,σ++[.arr k 0 vs]) else none):=by
 unfold step;simp only[bJ];exact bI _
theorem ahx(env ls:List aq)(σ:aw)(k:Nat)(zero:aq)(n:dc)(c:dc):step P env ls σ (.make k zero n c)=((qV (n.eval env ls)).bind fun m=>(qV (c.eval env ls)).bind fun d=>
   if m=d∧aM zero=k∧m≤bC then some (.sl σ.length 0 0 m,σ++[.arr k 0 (List.replicate m zero)]) else none):=by
 unfold step;simp only[bJ];exact bI _
theorem ahD(env ls:List aq)(σ:aw)(a:Bool)(s:Nat)(x:dc):step P env ls σ (.load a s x)=((loadAt a s (x.eval env ls) σ).map (·,σ)):=by
 unfold step;simp only[bJ];exact bI _
theorem acX(env ls:List aq)(σ:aw)(s:Nat)(x:dc)(v:dc):step P env ls σ (.store s x v)=((storeAt s (x.eval env ls) (v.eval env ls) σ).map (.any,·)):=by
 unfold step;simp only[bJ];exact bI _
theorem akJ(env ls:List aq)(σ:aw)(off:Nat)(x:dc):step P env ls σ (.fld off x)=((Jt σ off (x.eval env ls)).map (·,σ)):=by
 unfold step;simp only[bJ];exact bI _
theorem ah7(env ls:List aq)(σ:aw)(a:Bool)(s:Nat)(off:Nat)(x:dc):step P env ls σ (.fldv a s off x)=((I1 a s off (x.eval env ls)).map (·,σ)):=by
 unfold step;simp only[bJ];exact bI _
theorem aiq(env ls:List aq)(σ:aw)(k:Nat)(x:dc)(i:dc):step P env ls σ (.idxs k x i)=((qV (i.eval env ls)).bind fun n=>(CH σ k n (x.eval env ls)).map (·,σ)):=by
 unfold step;simp only[bJ];exact bI _
theorem aiy(env ls:List aq)(σ:aw)(m:Nat)(s:Nat)(x:dc)(i:dc):step P env ls σ (.idxa m s x i)=((qV (i.eval env ls)).bind fun n=>if n<m then (Jt σ (n*s) (x.eval env ls)).map (·,σ) else none):=by
 unfold step;simp only[bJ];exact bI _
theorem aiC(env ls:List aq)(σ:aw)(a:Bool)(m:Nat)(s:Nat)(x:dc)(i:dc):step P env ls σ (.idxv a m s x i)=((qV (i.eval env ls)).bind fun n=>if n<m then (I1 a s (n*s) (x.eval env ls)).map (·,σ) else none):=by
 unfold step;simp only[bJ];exact bI _
theorem aiO(env ls:List aq)(σ:aw)(x:dc)(i:dc):step P env ls σ (.idxt x i)=((qV (i.eval env ls)).bind fun n=>(NC n (x.eval env ls)).map (·,σ)):=by
 unfold step;simp only[bJ];exact bI _
theorem aj4(env ls:List aq)(σ:aw)(op:BinOp)(x:dc)(y:dc):step P env ls σ (.bin op x y)=((bin op (x.eval env ls) (y.eval env ls)).map (·,σ)):=by
 unfold step;simp only[bJ];exact bI _
theorem an8(env ls:List aq)(σ:aw)(n:Bool)(x:dc)(y:dc):step P env ls σ (.eqb n x y)=((eqb n (x.eval env ls) (y.eval env ls)).map (·,σ)):=by
 unfold step;simp only[bJ];exact bI _
theorem ang(env ls:List aq)(σ:aw)(n:Bool)(ks:List Nat)(x:dc)(y:dc):step P env ls σ (.eqa n ks x y)=((eqa n ks (x.eval env ls) (y.eval env ls)).map (·,σ)):=by
 unfold step;simp only[bJ];exact bI _
theorem aiL(env ls:List aq)(σ:aw)(n:Bool)(x:dc):step P env ls σ (.nils n x)=((uq n σ (x.eval env ls)).map (·,σ)):=by
 unfold step;simp only[bJ];exact bI _
theorem ank(env ls:List aq)(σ:aw)(op:UnOp)(x:dc):step P env ls σ (.una op x)=((una op (x.eval env ls)).map (·,σ)):=by
 unfold step;simp only[bJ];exact bI _
theorem aip(env ls:List aq)(σ:aw)(k:IntKind)(x:dc):step P env ls σ (.conv k x)=((TU k (x.eval env ls)).map (·,σ)):=by
 unfold step;simp only[bJ];exact bI _
theorem ada(env ls:List aq)(σ:aw)(k:Nat)(x:dc)(lo:Option dc)(hi:Option dc):step P env ls σ (.slice k x lo hi)=(let v:=x.eval env ls
  (sO σ v).bind fun n=>(opt env ls 0 lo).bind fun l=>(opt env ls n hi).bind fun h=>(aslice σ k v l h).map (·,σ)):=by
 unfold step;simp only[bJ];exact bI _
theorem aa3(env ls:List aq)(σ:aw)(x:dc)(lo:Option dc)(hi:Option dc):step P env ls σ (.slicet x lo hi)=(let v:=x.eval env ls
  (Jy v).bind fun n=>(opt env ls 0 lo).bind fun l=>(opt env ls n hi).bind fun h=>(vE v l h).map (·,σ)):=by
 unfold step;simp only[bJ];exact bI _
theorem Xw(env ls:List aq)(σ:aw)(x:dc):step P env ls σ (.slice0 x)=((sO σ (x.eval env ls)).map fun _=>(.ai,σ)):=by
 unfold step;simp only[bJ];exact bI _
theorem aan(env ls:List aq)(σ:aw)(n:Nat)(x:dc):step P env ls σ (.aslice n x)=((YI σ n (x.eval env ls)).map (·,σ)):=by
 unfold step;simp only[bJ];exact bI _
theorem alh(env ls:List aq)(σ:aw)(x:dc):step P env ls σ (.len x)=((sO σ (x.eval env ls)).map fun (n:Nat)=>(.int .i64 (n:Int),σ)):=by
 unfold step;simp only[bJ];exact bI _
theorem ahK(env ls:List aq)(σ:aw)(x:dc):step P env ls σ (.lent x)=((Jy (x.eval env ls)).map fun (n:Nat)=>(.int .i64 (n:Int),σ)):=by
 unfold step;simp only[bJ];exact bI _
theorem ak0(env ls:List aq)(σ:aw)(x:dc):step P env ls σ (.cap x)=((acT (x.eval env ls)).map (·,σ)):=by
 unfold step;simp only[bJ];exact bI _
theorem aka(env ls:List aq)(σ:aw)(k:Nat)(x:dc)(y:dc):step P env ls σ (.app k x y)=((rd σ (y.eval env ls)).bind fun a=>append k (x.eval env ls) a σ):=by
 unfold step;simp only[bJ];exact bI _
theorem ahP(env ls:List aq)(σ:aw)(k:Nat)(zero:aq)(x:dc)(n:dc):step P env ls σ (.appz k zero x n)=((qV (n.eval env ls)).bind fun m=>if aM zero=k∧m≤bC then append k (x.eval env ls) (List.replicate m zero) σ else none):=by
 unfold step;simp only[bJ];exact bI _
theorem aij(env ls:List aq)(σ:aw)(k:Nat)(x:dc)(y:dc):step P env ls σ (.copy k x y)=((JT σ (adC (x.eval env ls)) (y.eval env ls)).bind fun b=>(Oq σ k b (x.eval env ls)).map fun a=>(.int .i64 (b.length:Int),a)):=by
 unfold step;simp only[bJ];exact bI _
theorem ahN(env ls:List aq)(σ:aw)(x:dc)(xs:List dc):step P env ls σ (.mins x xs)=((wX true (x.eval env ls) (xs.map (·.eval env ls))).map (·,σ)):=by
 unfold step;simp only[bJ];exact bI _
theorem aii(env ls:List aq)(σ:aw)(x:dc)(xs:List dc):step P env ls σ (.maxs x xs)=((wX false (x.eval env ls) (xs.map (·.eval env ls))).map (·,σ)):=by
 unfold step;simp only[bJ];exact bI _
theorem aiQ(env ls:List aq)(σ:aw)(f:Nat)(first:List dc)(cap:List dc):step P env ls σ (.mkfn f first cap)=(some (.fn f (first.map (·.eval env ls)) (cap.map (·.eval env ls)),σ)):=by
 unfold step;simp only[bJ];exact bI _
theorem akC(env ls:List aq)(σ:aw)(i:Nat)(x:dc):step P env ls σ (.ext i x)=((Yp i (x.eval env ls)).map (·,σ)):=by
 unfold step;simp only[bJ];exact bI _
theorem acH(env ls:List aq)(σ:aw)(x:dc):step P env ls σ (.nilck x)=((K7 σ (x.eval env ls)).map (·,σ)):=by
 unfold step;simp only[bJ];exact bI _
theorem ab3(env ls:List aq)(σ:aw)  : step P env ls σ (.mkmap)=(some (.mp σ.length,σ++[.map []])):=by
 unfold step;simp only[bJ];exact bI _
theorem ah6(env ls:List aq)(σ:aw)(m:dc)(k:dc)(v:dc):step P env ls σ (.mput m k v)=((NO σ (k.eval env ls) (v.eval env ls) (m.eval env ls)).map (.any,·)):=by
 unfold step;simp only[bJ];exact bI _
theorem aiR(env ls:List aq)(σ:aw)(zero:aq)(ok:Bool)(m:dc)(k:dc):step P env ls σ (.look zero ok m k)=(if vK (k.eval env ls) then (yO σ (m.eval env ls)).bind fun es=>(lookup (k.eval env ls) es).map fun r=>(if ok then .tup [r.getD zero,.bool r.isSome] else r.getD zero,σ) else none):=by
 unfold step;simp only[bJ];exact bI _
theorem ai6(env ls:List aq)(σ:aw)(m:dc):step P env ls σ (.mlen m)=((yO σ (m.eval env ls)).map fun es=>(.int .i64 (es.length:Int),σ)):=by
 unfold step;simp only[bJ];exact bI _
theorem alM(env ls:List aq)(σ:aw)(zero:aq)(x:dc):step P env ls σ (.clr zero x)=((aa1 σ zero (x.eval env ls)).map (.any,·)):=by
 unfold step;simp only[bJ];exact bI _
theorem aho(env ls:List aq)(σ:aw)(x:dc):step P env ls σ (.rngs x)=P7 σ (x.eval env ls):=by
 unfold step;simp only[bJ];exact bI _
theorem adN(env ls:List aq)(σ:aw)(x:dc):step P env ls σ (.nexts x)=uG σ (x.eval env ls):=by
 unfold step;simp only[bJ];exact bI _
theorem ac1(env ls:List aq)(σ:aw)(ks:List Nat)(zero:aq)(ok:Bool)(m k:dc):step P env ls σ (.lookk ks zero ok m k)=(if gX ks (k.eval env ls) then (yO σ (m.eval env ls)).bind fun es=>(dy ks (k.eval env ls) es).map fun r=>(if ok then .tup [r.getD zero,.bool r.isSome] else r.getD zero,σ) else none):=by
 unfold step;simp only[bJ];exact bI _
theorem ac7(env ls:List aq)(σ:aw)(ks:List Nat)(m k v:dc):step P env ls σ (.mputk ks m k v)=((HH ks σ (k.eval env ls) (v.eval env ls) (m.eval env ls)).map (.any,·)):=by
 unfold step;simp only[bJ];exact bI _
theorem alA(env ls:List aq)(σ:aw)(x:dc):step P env ls σ (.b2s x)=((abt σ (x.eval env ls)).map (·,σ)):=by
 unfold step;simp only[bJ];exact bI _
theorem anm(env ls:List aq)(σ:aw)  : step P env ls σ (.bad)=(none):=by
 unfold step;simp only[bJ];exact bI _
end
end Go.AM
namespace Go.AM
def Cz.isPure:Cz→Bool
 |.pure|.fresh _=>true
 |_=>false
theorem acP(σ τ:aw):∀(n:Nat) (v:aq),fz true false 0 τ n (fz true false 0 σ n v)=fz true false 0 σ n v:=by
 intro n;induction n with
 |zero=>intro v;rfl
 |succ n g=>
  intro v;have d:∀l:List aq,(l.map (fz true false 0 σ n)).map (fz true false 0 τ n)=l.map (fz true false 0 σ n):=fun l=>by
   rw[bT];exact aT fun x _=>g x
  cases v with
  |agg cs=>simp only[fz];rw[d]
  |tup cs=>simp only[fz];rw[d]
  |fn f a c=>simp only[fz];rw[d,d]
  |aa b xs=>cases b<;>simp[fz]
  |cptr b x o=>
   cases b
   ·simp[fz]
   by_cases h:aM (fz true false 0 σ n x)=aM x
   ·simp[fz,jT,h,g]
   simp[fz,jT,h]
  |imap b xs=>cases b<;>simp[fz]
  |lst xs=>
   by_cases h:(xs.map (fz true false 0 σ n)).map aM=xs.map aM
   ·simp only[fz,oQ,if_pos h];rfl
   simp only[fz,oQ,if_neg h]
  |sl id ep off len=>
   simp only[fz,cZ,cH];cases sliceAt σ id ep off len with
   |none=>simp[fz]
   |some l=>
    by_cases h:(l.map (fz true false 0 σ n)).map aM=l.map aM
    ·simp only[Option.elim,oQ,if_pos h,fz];rfl
    simp only[Option.elim,oQ,if_neg h,fz]
  |ptr id ep i off=>
   simp only[fz,cZ,cH];cases tX σ id ep i with
   |none=>simp[fz]
   |some x=>
    by_cases h:aM (fz true false 0 σ n x)=aM x
    ·simp[fz,jT,h,g]
    simp[fz,jT,h]
  |asl id ep i off m=>simp[fz]
  |mp id=>
   simp only[fz,cZ,cH];cases g7 σ id<;>simp[fz]
  |yld l s e=>
   simp[fz]
  |_=>simp[fz]
theorem pI(σ τ:aw)(v:aq):snap τ (snap σ v)=snap σ v:=acP σ τ dH v
section
variable {P:Code} (hP:P.Good)
include hP
theorem OE{f:Nat}{g:br}(h:P.fns f=.fn g)(a:g.mode.isPure=true)(args:List aq)(σ:aw) :
  cC P f args σ=((cC P f (args.map (snap σ)) []).map (·.1)).map (·,σ):=by
 rw[ze hP h,ze hP h];have c:enter g args σ=enter g (args.map (snap σ)) []:=by
  have b:((args.map (snap σ)).take g.np).map (snap [])=(args.take g.np).map (snap σ):=by
   rw[←List.map_take,bT];exact aT fun x _=>pI σ [] x
  unfold enter;cases hg:g.mode<;>rw[hg]at a<;>first|exact absurd a (by decide)|(simp only[b])
 rw[c];cases run P g.body (enter g (args.map (snap σ)) []) with
 |none=>rfl
 |some r=>
  obtain⟨e,s⟩:=r;have key:(results s g.res).map (fun v=>ij g.mode σ s v)=(((results s g.res).map fun v=>ij g.mode [] s v).map (·.1)).map (·,σ):=by
   cases results s g.res with
   |none=>rfl
   |some v=>
    cases hg:g.mode<;>rw[hg]at a<;>first|exact absurd a (by decide)|rfl
  cases e with
  |ext _=>rfl
  |nrm=>exact key
  |ret=>exact key
theorem Wj{f:Nat}{g:br}(h:P.fns f=.fn g)(a:g.mode.isPure=true)(args:List aq) :
  (cC P f args []).map (·.1)=(run P g.body ⟨(args.take g.np).map (snap [])++List.replicate (g.nenv-g.np) .any,[]⟩).bind fun r=>match r.1 with
   |.ext _=>none
   |_=>(results r.2 g.res).map fun v=>(ij g.mode [] r.2 v).1:=by
 rw[ze hP h];have b:enter g args []=⟨(args.take g.np).map (snap [])++List.replicate (g.nenv-g.np) .any,[]⟩:=by
  unfold enter;cases hg:g.mode<;>rw[hg]at a<;>first|exact absurd a (by decide)|rfl
 rw[b];cases run P g.body _ with
 |none=>rfl
 |some r=>
  obtain⟨e,s⟩:=r;cases e with
  |ext _=>rfl
  |nrm=>show ((results s g.res).map _).map _=_;rw[Option.map_map];rfl
  |ret=>show ((results s g.res).map _).map _=_;rw[Option.map_map];rfl
end
end Go.AM
section
set_option maxRecDepth 8000
namespace Go.AM
abbrev cE(n:Nat)(g:br):Prop:=code.fns n=.fn g
theorem good:code.Good:=Qn
noncomputable def bw(f:Nat)(args:List aq):Option aq:=(cC code f args []).map (·.1)
theorem nZ{f:Nat}{g:br}(h:code.fns f=.fn g)(hm:g.mode.isPure=true)(args:List aq)(σ:aw) :
  cC code f args σ=(bw f (args.map (snap σ))).map (·,σ):=OE good h hm args σ
abbrev bG(f:Nat):Prop:=∀(args:List aq) (σ:aw),cC code f args σ=(bw f (args.map (snap σ))).map (·,σ)
theorem Zp{f:Nat}{g:br}(h:code.fns f=.fn g)(hm:g.mode.isPure=true)(args:List aq) :
  bw f args=(run code g.body ⟨(args.take g.np).map (snap [])++List.replicate (g.nenv-g.np) .any,[]⟩).bind fun r=>match r.1 with
   |.ext _=>none
   |_=>(results r.2 g.res).map fun v=>(ij g.mode [] r.2 v).1:=Wj good h hm args
theorem ak7:cE 1 P.atP:=rfl
theorem akU:cE 2 P.arG:=rfl
theorem ano:cE 3 P.atD:=rfl
theorem anG:cE 4 P.arM:=rfl
theorem al5:cE 5 P.atp:=rfl
theorem afE:cE 6 P.ar0:=rfl
theorem an0:cE 7 P.ar8:=rfl
theorem akT:cE 9 P.atu:=rfl
theorem alD:cE 10 P.atK:=rfl
theorem akk:cE 11 P.arB:=rfl
theorem aae:code.fns 12=.nilfn P.atq:=rfl
theorem amM:cE 13 P.auX:=rfl
theorem alm:cE 14 P.ats:=rfl
theorem amW:cE 15 P.atS:=rfl
theorem amn:cE 16 P.auA:=rfl
theorem aj1:cE 17 P.ar9:=rfl
theorem alz:cE 18 P.as9:=rfl
theorem ant:cE 19 P.atZ:=rfl
theorem amr:cE 20 P.atF:=rfl
theorem akx:cE 21 P.auC:=rfl
theorem ami:cE 22 P.auu:=rfl
theorem amK:cE 23 P.aue:=rfl
theorem anH:cE 24 P.auG:=rfl
theorem alQ:cE 26 P.atE:=rfl
theorem akX:cE 27 P.arW:=rfl
theorem aki:cE 28 P.arx:=rfl
theorem ako:cE 29 P.ast:=rfl
theorem alb:cE 30 P.aux:=rfl
theorem ak4:cE 31 P.arH:=rfl
theorem anp:cE 32 P.arz:=rfl
theorem ak2:cE 33 P.arv:=rfl
theorem amg:cE 34 P.auq:=rfl
theorem ame:cE 36 P.auF:=rfl
theorem amd:cE 37 P.ati:=rfl
theorem amz:cE 38 P.at5:=rfl
theorem aop:cE 39 P.auf:=rfl
theorem ans:cE 40 P.atN:=rfl
theorem amS:cE 41 P.ar1:=rfl
theorem alI:cE 42 P.att:=rfl
theorem al3:cE 48 P.ar5:=rfl
theorem ane:cE 49 P.asy:=rfl
theorem ag5:cE 50 P.atb:=rfl
theorem am8:cE 51 P.atw:=rfl
theorem aj6:cE 52 P.aui:=rfl
theorem akY:cE 53 P.ar2:=rfl
theorem aol:cE 54 P.asu:=rfl
theorem aku:cE 55 P.aru:=rfl
theorem aoj:cE 56 P.ath:=rfl
theorem aj2:cE 57 P.auV:=rfl
theorem al4:cE 58 P.as8:=rfl
theorem amm:cE 60 P.auU:=rfl
theorem amh:cE 61 P.auT:=rfl
theorem akH:cE 62 P.as0:=rfl
theorem amX:cE 63 P.auY:=rfl
theorem aeF:code.fns 64=.nilfn P.aun:=rfl
theorem apd:cE 66 P.art:=rfl
theorem ao5:cE 67 P.arm:=rfl
theorem aly:cE 68 P.arl:=rfl
theorem amP:cE 69 P.ar3:=rfl
theorem afR:code.fns 70=.nilfn P.auW:=rfl
theorem agF:code.fns 71=.nilfn P.atQ:=rfl
theorem ag6:code.fns 72=.nilfn P.aud:=rfl
theorem amL:cE 73 P.asI:=rfl
theorem anW:cE 74 P.aul:=rfl
theorem alJ:cE 75 P.asK:=rfl
theorem anv:cE 76 P.atW:=rfl
theorem YX:cE 77 P.arX:=rfl
theorem anY:cE 78 P.auv:=rfl
theorem afG:cE 79 P.asJ:=rfl
theorem alY:cE 80 P.arV:=rfl
theorem abp:cE 82 P.arw:=rfl
theorem af7:cE 83 P.arU:=rfl
theorem akP:cE 84 P.auw:=rfl
theorem afA:cE 85 P.asO:=rfl
theorem akm:cE 86 P.asG:=rfl
theorem aoh:cE 87 P.auP:=rfl
theorem akV:cE 88 P.as1:=rfl
theorem apq:cE 89 P.arq:=rfl
theorem aps:cE 90 P.arp:=rfl
theorem alx:cE 91 P.auI:=rfl
theorem al6:cE 92 P.aus:=rfl
theorem anL:cE 93 P.arJ:=rfl
theorem aj7:cE 94 P.arR:=rfl
theorem amY:cE 95 P.atL:=rfl
theorem alU:cE 96 P.atY:=rfl
theorem ahh:cE 97 P.asT:=rfl
theorem ak5:cE 98 P.arA:=rfl
theorem anC:cE 99 P.auJ:=rfl
theorem aot:cE 100 P.aub:=rfl
theorem afL:cE 101 P.asL:=rfl
theorem akN:cE 102 P.auk:=rfl
theorem akc:cE 103 P.atT:=rfl
theorem afj:cE 104 P.asb:=rfl
theorem alX:cE 105 P.aug:=rfl
theorem aeR:cE 106 P.asf:=rfl
@[simp] theorem am0:bG 106:=nZ aeR rfl
theorem Zy:cE 107 P.ash:=rfl
theorem akS:cE 108 P.asw:=rfl
theorem ak9:cE 109 P.auz:=rfl
theorem alZ:cE 110 P.aty:=rfl
theorem agA:cE 111 P.as2:=rfl
theorem alG:cE 112 P.arE:=rfl
theorem agT:cE 113 P.asr:=rfl
theorem apK:cE 114 P.atC:=rfl
theorem amU:cE 115 P.atB:=rfl
theorem anr:cE 116 P.asp:=rfl
theorem apo:cE 117 P.atr:=rfl
theorem afD:cE 118 P.asn:=rfl
theorem aou:cE 119 P.aut:=rfl
theorem al2:cE 122 P.as6:=rfl
theorem amH:cE 123 P.arZ:=rfl
theorem agG:cE 124 P.asP:=rfl
theorem anu:cE 125 P.auE:=rfl
theorem aeX:cE 126 P.atd:=rfl
theorem anJ:cE 127 P.arN:=rfl
theorem aks:cE 128 P.arP:=rfl
theorem aln:cE 129 P.aup:=rfl
theorem aev:cE 130 P.ass:=rfl
theorem aga:cE 131 P.asF:=rfl
theorem akz:cE 132 P.atX:=rfl
theorem apa:cE 133 P.as5:=rfl
theorem Xe:cE 134 P.arL:=rfl
theorem apP:cE 135 P.aro:=rfl
theorem alH:cE 136 P.auj:=rfl
theorem anE:cE 137 P.asY:=rfl
theorem apA:cE 138 P.arn:=rfl
theorem apr:cE 139 P.ate:=rfl
theorem apu:cE 140 P.auM:=rfl
theorem apf:cE 141 P.ato:=rfl
theorem anS:cE 142 P.aua:=rfl
theorem aov:cE 143 P.arC:=rfl
theorem akb:cE 144 P.atn:=rfl
theorem apL:cE 145 P.asZ:=rfl
theorem akO:cE 146 P.asx:=rfl
theorem aha:cE 147 P.atg:=rfl
theorem alr:cE 148 P.atV:=rfl
theorem akB:cE 149 P.as3:=rfl
theorem am3:cE 150 P.ary:=rfl
theorem ap0:cE 151 P.asd:=rfl
theorem amv:cE 152 P.atA:=rfl
theorem amw:cE 153 P.asV:=rfl
theorem apD:cE 154 P.atl:=rfl
theorem anZ:cE 155 P.auc:=rfl
theorem am2:cE 156 P.asH:=rfl
theorem apl:cE 157 P.asQ:=rfl
theorem agR:cE 158 P.asz:=rfl
theorem anB:cE 159 P.arS:=rfl
theorem alt:cE 160 P.auH:=rfl
theorem alw:cE 161 P.asv:=rfl
theorem akv:cE 163 P.atf:=rfl
theorem akF:cE 164 P.auO:=rfl
theorem aod:cE 165 P.atm:=rfl
theorem XF:cE 166 P.ar4:=rfl
theorem ale:cE 167 P.auD:=rfl
theorem afw:cE 168 P.asW:=rfl
theorem an7:cE 169 P.asC:=rfl
theorem alk:cE 170 P.asB:=rfl
theorem am1:cE 171 P.arO:=rfl
theorem ams:cE 172 P.ata:=rfl
theorem afN:cE 173 P.arY:=rfl
theorem akg:cE 174 P.asD:=rfl
theorem ao4:cE 175 P.asR:=rfl
theorem ap3:cE 176 P.auB:=rfl
theorem apz:cE 177 P.auS:=rfl
theorem amp:cE 178 P.atH:=rfl
theorem aj3:cE 179 P.asN:=rfl
theorem aky:cE 180 P.arF:=rfl
theorem akp:cE 181 P.aso:=rfl
theorem agj:cE 182 P.asM:=rfl
theorem aeO:cE 183 P.asS:=rfl
theorem alj:cE 184 P.asg:=rfl
theorem apN:cE 189 P.arI:=rfl
theorem anT:cE 190 P.asj:=rfl
theorem an5:cE 191 P.atG:=rfl
theorem ak8:cE 192 P.asq:=rfl
theorem afI:cE 193 P.as4:=rfl
theorem agX:cE 194 P.arK:=rfl
theorem anz:cE 195 P.atJ:=rfl
theorem apJ:cE 196 P.ars:=rfl
theorem aj8:cE 197 P.atM:=rfl
theorem amD:cE 198 P.asm:=rfl
theorem anX:cE 199 P.auK:=rfl
theorem aeQ:cE 200 P.arT:=rfl
@[simp] theorem ajZ:bG 200:=nZ aeQ rfl
theorem an6:cE 201 P.auQ:=rfl
theorem ZY:cE 202 P.asX:=rfl
@[simp] theorem amb:bG 202:=nZ ZY rfl
theorem alv:cE 203 P.atx:=rfl
theorem anN:cE 204 P.asA:=rfl
theorem apc:cE 205 P.arD:=rfl
theorem YD:cE 215 P.ar7:=rfl
theorem anf:cE 222 P.auR:=rfl
theorem amc:cE 224 P.asi:=rfl
theorem alV:cE 225 P.asc:=rfl
theorem ala:cE 226 P.asa:=rfl
theorem alg:cE 266 P.as7:=rfl
theorem alC:cE 267 P.arQ:=rfl
theorem anq:cE 268 P.atj:=rfl
theorem aeP:cE 271 P.asU:=rfl
theorem alq:cE 272 P.atz:=rfl
theorem apH:cE 275 P.atc:=rfl
theorem akQ:cE 276 P.asE:=rfl
theorem amZ:cE 279 P.auh:=rfl
theorem aom:cE 280 P.atI:=rfl
theorem ama:cE 281 P.ase:=rfl
theorem an2:cE 282 P.auo:=rfl
theorem amB:cE 290 P.auL:=rfl
theorem amN:cE 399 P.aum:=rfl
theorem ali:cE 401 P.aur:=rfl
theorem agQ:cE 402 P.ar6:=rfl
theorem amR:cE 404 P.atv:=rfl
theorem al7:cE 405 P.auy:=rfl
theorem am7:cE 406 P.atU:=rfl
theorem ani:cE 407 P.atk:=rfl
theorem akI:cE 408 P.auN:=rfl
theorem BX:code.fns 8=.prim 4:=rfl
theorem pj:code.fns 25=.prim 6:=rfl
theorem yd:code.fns 43=.prim 2:=rfl
theorem My:code.fns 65=.prim 8:=rfl
@[simp] theorem aow:bG 1∧bG 2∧bG 3∧bG 4∧bG 5∧bG 6∧bG 7∧bG 9∧bG 10∧bG 11∧bG 13∧bG 14∧bG 15∧bG 16∧bG 17∧bG 19∧bG 21∧bG 22∧bG 23∧bG 24∧bG 26∧bG 27∧bG 28∧bG 29∧bG 30∧bG 32∧bG 33∧bG 34∧bG 36∧bG 37∧bG 38∧bG 39∧bG 40∧bG 41∧bG 42∧bG 49∧bG 50∧bG 52∧bG 53∧bG 54:=by and_intros<;>exact nZ rfl rfl
@[simp] theorem aoo:bG 55∧bG 56∧bG 57∧bG 58∧bG 60∧bG 61∧bG 62∧bG 66∧bG 67∧bG 68∧bG 69∧bG 74∧bG 75∧bG 76∧bG 81∧bG 83∧bG 84∧bG 85∧bG 86∧bG 87∧bG 88∧bG 89∧bG 90∧bG 92∧bG 99∧bG 100∧bG 101∧bG 104∧bG 108∧bG 114∧bG 115∧bG 116∧bG 117∧bG 119∧bG 120∧bG 121∧bG 122∧bG 123∧bG 124∧bG 125:=by and_intros<;>exact nZ rfl rfl
@[simp] theorem anx:bG 133∧bG 134∧bG 135∧bG 136∧bG 137∧bG 138∧bG 139∧bG 140∧bG 144∧bG 145∧bG 148∧bG 151∧bG 152∧bG 153∧bG 154∧bG 155∧bG 156∧bG 157∧bG 160∧bG 161∧bG 162∧bG 163∧bG 164∧bG 165∧bG 167∧bG 171∧bG 172∧bG 174∧bG 175∧bG 176∧bG 177∧bG 178∧bG 183∧bG 184∧bG 185∧bG 186∧bG 189∧bG 191∧bG 196∧bG 198:=by and_intros<;>exact nZ rfl rfl
@[simp] theorem ajN:bG 199∧bG 203∧bG 204∧bG 219∧bG 222∧bG 224∧bG 225∧bG 266∧bG 267∧bG 268∧bG 272∧bG 275∧bG 276∧bG 279∧bG 280∧bG 281∧bG 282∧bG 290∧bG 398∧bG 399∧bG 400∧bG 401∧bG 402∧bG 403∧bG 404∧bG 405∧bG 406∧bG 407∧bG 408:=by and_intros<;>exact nZ rfl rfl
end Go.AM
end
namespace Go.AM
noncomputable def tu(b:az)(r:Option (Ex×St)):Option (Ex×St):=r.bind fun r=>match r.1 with
 |.nrm=>run code b r.2
 |e=>some (e,r.2)
noncomputable def CW(env:List aq)(is:List cq)(ls:List aq)(q:Option (aq×aw)):Option (List aq×aw):=
 q.bind fun q=>oT code env is (ls++[q.1]) q.2
noncomputable def Gy(env:List aq)(i:cq)(is:List cq)(ls:List aq)(σ:aw)(t:Option Bool):Option (List aq×aw):=
 match t with
 |some true=>CW env is ls (step code env ls σ i.op)
 |some false=>oT code env is (ls++[.tup []]) σ
 |none=>none
def Vr(env:List aq)(os:List (Nat×dc))(r:Option (List aq×aw)):Option (Ex×St):=
 r.map fun r=>(.nrm,⟨sn env env r.1 os,r.2⟩)
def rH(id:Nat)(r:Option (Ex×St)):Option (Ex×St):=r.map fun r=>match r.1 with
 |.ext j=>if j=id then (.nrm,r.2) else r
 |_=>r
noncomputable def Gq(a b:az)(s:St)(c:aq):Option (Ex×St):=match c with
 |.bool true=>run code a s
 |.bool false=>run code b s
 |_=>none
noncomputable def dg(base:Nat)(clr:List Nat)(b:az)(r:Option (Ex×St)):Option (Ex×St):=r.bind fun r=>match r.1 with
 |.nrm=>bU code base clr b (bR base clr r.2)
 |e=>some (e,r.2)
def Uj(l:Nat)(env:List aq)(r:Option (aq×aw)):Option (Ex×St):=r.bind fun r=>sG l env r.2
noncomputable def HX(env:List aq)(b:az)(r:Option aw):Option (Ex×St):=r.bind fun σ=>run code b ⟨env,σ⟩
noncomputable def Tr(env:List aq)(is:List cq)(ls:List aq)(ss:List aw)(q:Option (aq×aw)):Option (List aq×List aw×aw):=
 q.bind fun q=>BR code env is (ls++[q.1]) ss q.2
noncomputable def XZ(env:List aq)(i:cq)(is:List cq)(ls:List aq)(ss:List aw)(σ:aw)(t:Option Bool):Option (List aq×List aw×aw):=
 match t with
 |some true=>Tr env is ls (ss++[σ]) (step code env ls σ i.op)
 |some false=>BR code env is (ls++[.tup []]) (ss++[σ]) σ
 |none=>none
noncomputable def T7(env:List aq)(os:List (Nat×dc))(is:List cq)(chk:List (Nat×Nat))(r:Option (List aq×List aw×aw)):Option (Ex×St):=
 r.bind fun r=>(sH code env r.1 is (r.2.1++[r.2.2]) chk).map fun _=>(.nrm,⟨sn env env r.1 os,r.2.2⟩)
noncomputable def F7(env ls:List aq)(is:List cq)(ss:List aw)(n:Nat)(τ:aw)(l:List (Nat×Nat))(q:Option (aq×aw)):Option Unit:=
 q.bind fun q=>if same q.1 (pt ls n)&&rN q.2 τ then sH code env ls is ss l else none
noncomputable def aak(env ls:List aq)(is:List cq)(ss:List aw)(n:Nat)(l:List (Nat×Nat))(i:Option cq)(t:Option aw):Option Unit:=
 match i,t with
 |some i,some τ=>F7 env ls is ss n τ l (step code env (ls.take n) τ i.op)
 |_,_=>none
def wE(m:Cz)(res:List OL)(r:Option (Ex×St)):Option aq:=r.bind fun r=>match r.1 with
 |.ext _=>none
 |_=>(results r.2 res).map fun v=>(ij m [] r.2 v).1
@[simp ↓] theorem fy(a b:az)(s:St):run code (.seq a b) s=tu b (run code a s):=acz good a b s
@[simp ↓] theorem apy(s:St):run code .skip s=some (.nrm,s):=XR good s
@[simp ↓] theorem apO(id:Nat)(s:St):run code (.exit id) s=some (.ext id,s):=aaN good id s
@[simp ↓] theorem aqf(s:St):run code .ret s=some (.ret,s):=acb good s
@[simp ↓] theorem aqo(a:List cq)(os:List (Nat×dc))(env:List aq)(σ:aw):run code (.reg a os) ⟨env,σ⟩=Vr env os (oT code env a [] σ):=acJ good a os _
@[simp ↓] theorem apB(c:dc)(a b:az)(env:List aq)(σ:aw):run code (.cond c a b) ⟨env,σ⟩=Gq a b ⟨env,σ⟩ (c.eval env []):=by
 rw[aay good];rfl
@[simp ↓] theorem aeD(id:Nat)(b:az)(s:St):run code (.blk id b) s=rH id (run code b s):=adG good id b s
@[simp ↓] theorem aoU(b:az)(s:St):run code (.scope b) s=run code b s:=VB good b s
@[simp ↓] theorem apI(clr:List Nat)(b:az)(env:List aq)(σ:aw):run code (.loop clr b) ⟨env,σ⟩=bU code σ.length clr b ⟨clear env clr,σ⟩:=X9 good clr b _
@[simp ↓] theorem aqe(k:Nat)(f:dc)(a:Nat)(env:List aq)(σ:aw):run code (.rng k f a) ⟨env,σ⟩=if env.length=k then Uj σ.length env (Lw code (f.eval env []) [.yld σ.length a env] (σ++[.pend false none])) else none:=acI good k f a _
@[simp ↓] theorem ai0(i off k:Nat)(b:az)(env:List aq)(σ:aw):run code (.lift i off k b) ⟨env,σ⟩=HX env b (Ho (pt env i) off k σ):=Yf good i off k b _
@[simp ↓] theorem apS(b:List cq)(os:List (Nat×dc))(a:List (Nat×Nat))(env:List aq)(σ:aw):run code (.regd b os a) ⟨env,σ⟩=T7 env os b a (BR code env b [] [] σ):=abd good b os a _
@[simp ↓] theorem aqw(env ls:List aq)(ss:List aw)(σ:aw):BR code env [] ls ss σ=some (ls,ss,σ):=aby good env ls ss σ
@[simp ↓] theorem T_i(env ls:List aq)(ss:List aw)(σ:aw)(o:IM)(a:List cq):BR code env (P.i o::a) ls ss σ=Tr env a ls (ss++[σ]) (step code env ls σ o):=KU good env _ a ls ss σ
@[simp ↓] theorem T_g(env ls:List aq)(ss:List aw)(σ:aw)(x:dc)(b:Bool)(o:IM)(a:List cq) :
  BR code env (P.g x b o::a) ls ss σ=XZ env (P.g x b o) a ls ss σ (wanted env ls (some (x,b))):=KU good env _ a ls ss σ
@[simp] theorem aoC(env:List aq)(x:dc)(b:Bool)(o:IM)(a:List cq)(ls:List aq)(ss:List aw)(σ:aw) :
  XZ env (P.g x b o) a ls ss σ (some true)=Tr env a ls (ss++[σ]) (step code env ls σ o):=rfl
@[simp] theorem aoG(env:List aq)(i:cq)(a:List cq)(ls:List aq)(ss:List aw)(σ:aw) :
  XZ env i a ls ss σ (some false)=BR code env a (ls++[.tup []]) (ss++[σ]) σ:=rfl
@[simp] theorem aiZ(env:List aq)(a:List cq)(ls:List aq)(ss:List aw)(v:aq)(σ:aw):Tr env a ls ss (some (v,σ))=BR code env a (ls++[v]) ss σ:=rfl
@[simp] theorem ac8(env:List aq)(os:List (Nat×dc))(b:List cq)(a:List (Nat×Nat))(ls:List aq)(ss:List aw)(σ:aw) :
  T7 env os b a (some (ls,ss,σ))=(sH code env ls b (ss++[σ]) a).map fun _=>(.nrm,⟨sn env env ls os,σ⟩):=rfl
@[simp ↓] theorem aqx(env ls:List aq)(a:List cq)(ss:List aw):sH code env ls a ss []=some ():=Qu good env ls a ss
@[simp ↓] theorem apj(env ls:List aq)(a:List cq)(ss:List aw)(n j:Nat)(l:List (Nat×Nat)):sH code env ls a ss ((n,j)::l)=aak env ls a ss n l a[n]? ss[j]?:=by
 rw[NZ good];unfold aak F7;cases a[n]?<;>cases ss[j]?<;>rfl
@[simp] theorem ah5(env ls:List aq)(a:List cq)(ss:List aw)(n:Nat)(l:List (Nat×Nat))(o:IM)(τ:aw):aak env ls a ss n l (some (P.i o)) (some τ)=F7 env ls a ss n τ l (step code env (ls.take n) τ o):=rfl
@[simp] theorem acO(env ls:List aq)(a:List cq)(ss:List aw)(n:Nat)(τ:aw)(l:List (Nat×Nat))(v:aq)(σ:aw):F7 env ls a ss n τ l (some (v,σ))=if same v (pt ls n)&&rN σ τ then sH code env ls a ss l else none:=rfl
@[simp] theorem abR(env:List aq)(b:az)(σ:aw):HX env b (some σ)=run code b ⟨env,σ⟩:=rfl
@[simp] theorem aqO(f:Nat)(a c args:List aq)(σ:aw):Lw code (.fn f a c) args σ=cC code f (a++args++c) σ:=rfl
attribute [simp] tL jR Bw
@[simp ↓] theorem aqk(env ls:List aq)(σ:aw):oT code env [] ls σ=some (ls,σ):=Ru good env ls σ
@[simp ↓] theorem O_i(env ls:List aq)(σ:aw)(o:IM)(a:List cq):oT code env (P.i o::a) ls σ=CW env a ls (step code env ls σ o):=EP good env _ a ls σ
@[simp ↓] theorem O_g(env ls:List aq)(σ:aw)(x:dc)(b:Bool)(o:IM)(a:List cq) :
  oT code env (P.g x b o::a) ls σ=Gy env (P.g x b o) a ls σ (wanted env ls (some (x,b))):=EP good env _ a ls σ
@[simp] theorem apk(env:List aq)(x:dc)(b:Bool)(o:IM)(a:List cq)(ls:List aq)(σ:aw) :
  Gy env (P.g x b o) a ls σ (some true)=CW env a ls (step code env ls σ o):=rfl
@[simp] theorem apY(env:List aq)(i:cq)(a:List cq)(ls:List aq)(σ:aw) :
  Gy env i a ls σ (some false)=oT code env a (ls++[.tup []]) σ:=rfl
@[simp] theorem bW(b:az)(s:St):tu b (some (.nrm,s))=run code b s:=rfl
@[simp] theorem agN(b:az)(s:St)(id:Nat):tu b (some (.ext id,s))=some (.ext id,s):=rfl
@[simp] theorem Oj(b:az)(s:St):tu b (some (.ret,s))=some (.ret,s):=rfl
@[simp] theorem adI(env:List aq)(a:List cq)(ls:List aq)(v:aq)(σ:aw):CW env a ls (some (v,σ))=oT code env a (ls++[v]) σ:=rfl
@[simp] theorem aca(env:List aq)(os:List (Nat×dc))(ls:List aq)(σ:aw):Vr env os (some (ls,σ))=some (.nrm,⟨sn env env ls os,σ⟩):=rfl
@[simp] theorem N8(id:Nat)(s:St):rH id (some (.nrm,s))=some (.nrm,s):=rfl
@[simp] theorem agV(id:Nat)(s:St):rH id (some (.ret,s))=some (.ret,s):=rfl
@[simp] theorem afi(id j:Nat)(s:St):rH id (some (.ext j,s))=some (if j=id then (.nrm,s) else (.ext j,s)):=by
 simp[rH]
@[simp] theorem ap1(a b:az)(s:St):Gq a b s (.bool true)=run code a s:=rfl
@[simp] theorem apn(a b:az)(s:St):Gq a b s (.bool false)=run code b s:=rfl
@[simp] theorem AU(m:Cz)(a:List OL)(s:St):wE m a (some (.ret,s))=(results s a).map fun v=>(ij m [] s v).1:=rfl
@[simp] theorem abT(m:Cz)(a:List OL)(s:St):wE m a (some (.nrm,s))=(results s a).map fun v=>(ij m [] s v).1:=rfl
theorem aS{f:Nat}{g:br}(h:code.fns f=.fn g)(a:g.mode.isPure=true)(args:List aq) :
  bw f args=wE g.mode g.res (run code g.body ⟨(args.take g.np).map (snap [])++List.replicate (g.nenv-g.np) .any,[]⟩):=Zp h a args
@[simp ↓] theorem apF(env ls:List aq)(σ:aw)(f:Nat)(args:List dc)(a:Bool) :
  step code env ls σ (.call f args a)=(cC code f (args.map (·.eval env ls)) σ).map (mater a):=WO good env ls σ f args a
@[simp ↓] theorem aoT(env ls:List aq)(σ:aw)(f:dc)(args:List dc) :
  step code env ls σ (.callv f args)=(iY code (f.eval env ls) (args.map (·.eval env ls)) σ).map (mater false):=Qc good env ls σ f args
@[simp] theorem ai1(f:Nat)(a c args:List aq)(σ:aw):iY code (.fn f a c) args σ=cC code f (a++args++c) σ:=rfl
attribute [simp ↓] als ajh alS aem ac2 alo ai7 adE ahx ahD acX akJ ah7 aiq aiy aiC aiO aj4 an8 ang  ank aip ada aa3 Xw aan alh ahK ak0 aka ahP aiL aij ahN aii aiQ akC acH ab3 ah6 aiR ai6 alM aho adN ac1 ac7 alA anm
attribute [simp] apZ aj5 zt abt vK gX oN oA dy qP HH P7 uG eQ sI uq jJ Ho D0 B7 JT adC eqb eqa neg YI Oq Jy vE aslice I1 Jt CH K7 TU Yp NC yO NO aa1 Vh acT fresh CP sliceAt tX Xl g7 xr Ci dc.eval pt sn clear wanted bin Mp shift una sO qV rd loadAt storeAt results zD Md ij opt oD lA an9 Mz fill wX
@[simp] theorem ais(cs:List aq):aM (.agg cs)=cs.length:=rfl
@[simp] theorem ah0(k:IntKind)(n:Int):aM (.int k n)=1:=rfl
@[simp] theorem agJ(b:Bool):aM (.bool b)=1:=rfl
@[simp] theorem air(s:List UInt8):aM (.str s)=1:=rfl
@[simp] theorem ahu(b:Bool)(xs:List aq):aM (.aa b xs)=1:=rfl
@[simp] theorem ahW(xs:List aq):aM (.lst xs)=1:=rfl
@[simp] theorem afp:aM .ai=1:=rfl
@[simp] theorem ae8:aM .nilp=1:=rfl
@[simp] theorem afy:aM .nilf=1:=rfl
@[simp] theorem aeJ:aM .nilm=1:=rfl
@[simp] theorem ajF(a b c d:Nat):aM (.sl a b c d)=1:=rfl
@[simp] theorem ajb(a b c d:Nat):aM (.ptr a b c d)=1:=rfl
@[simp] theorem ag4(b:Bool)(x:aq)(o:Nat):aM (.cptr b x o)=1:=rfl
@[simp] theorem ajA(f:Nat)(a c:List aq):aM (.fn f a c)=1:=rfl
@[simp] theorem ajy(i:Nat):aM (.mp i)=1:=rfl
@[simp] theorem aey(b:Bool)(e:List (aq×aq)):aM (.imap b e)=1:=rfl
@[simp] theorem ajz(cs:List aq):isAgg (.agg cs)=true:=rfl
@[simp] theorem ajJ(k:IntKind)(n:Int):isAgg (.int k n)=false:=rfl
@[simp] theorem ahO(b:Bool):isAgg (.bool b)=false:=rfl
@[simp] theorem ajQ(s:List UInt8):isAgg (.str s)=false:=rfl
@[simp] theorem ajP(b:Bool)(xs:List aq):isAgg (.aa b xs)=false:=rfl
@[simp] theorem ajY(xs:List aq):isAgg (.lst xs)=false:=rfl
@[simp] theorem ahI:isAgg .ai=false:=rfl
@[simp] theorem ahw:isAgg .nilp=false:=rfl
@[simp] theorem aja:isAgg .nilf=false:=rfl
@[simp] theorem aji:isAgg .nilm=false:=rfl
@[simp] theorem akZ(a b c d:Nat):isAgg (.sl a b c d)=false:=rfl
@[simp] theorem ajx(a b c d:Nat):isAgg (.ptr a b c d)=false:=rfl
@[simp] theorem aix(b:Bool)(x:aq)(o:Nat):isAgg (.cptr b x o)=false:=rfl
@[simp] theorem aor(f:Nat)(a c:List aq):isAgg (.fn f a c)=false:=rfl
@[simp] theorem amo(i:Nat):isAgg (.mp i)=false:=rfl
@[simp] theorem aiP(b:Bool)(e:List (aq×aq)):isAgg (.imap b e)=false:=rfl
@[simp] theorem agq(cs:List aq):cellsOf (.agg cs)=cs:=rfl
@[simp] theorem afS(k:IntKind)(n:Int):cellsOf (.int k n)=[.int k n]:=rfl
@[simp] theorem acS(b:Bool):cellsOf (.bool b)=[.bool b]:=rfl
@[simp] theorem ahc(s:List UInt8):cellsOf (.str s)=[.str s]:=rfl
@[simp] theorem ag7(b:Bool)(xs:List aq):cellsOf (.aa b xs)=[.aa b xs]:=rfl
@[simp] theorem ahA(a b c d:Nat):cellsOf (.sl a b c d)=[.sl a b c d]:=rfl
@[simp] theorem ab0:cellsOf .ai=[.ai]:=rfl
@[simp] theorem ah8(f:Nat)(a c:List aq):cellsOf (.fn f a c)=[.fn f a c]:=rfl
@[simp] theorem afY(a b c d:Nat):cellsOf (.ptr a b c d)=[.ptr a b c d]:=rfl
@[simp] theorem acw(b:Bool)(x:aq)(o:Nat):cellsOf (.cptr b x o)=[.cptr b x o]:=rfl
section
variable (fl top:Bool) (base:Nat) (σ:aw) (n:Nat)
@[simp] theorem ao3(k:IntKind)(m:Int):fz fl top base σ (n+1) (.int k m)=.int k m:=by simp[fz]
@[simp] theorem aoA(b:Bool):fz fl top base σ (n+1) (.bool b)=.bool b:=by simp[fz]
@[simp] theorem ape(s:List UInt8):fz fl top base σ (n+1) (.str s)=.str s:=by simp[fz]
@[simp] theorem aoR:fz fl top base σ (n+1) .ai=if !fl&&top then .ai else .aa false []:=by simp[fz]
@[simp] theorem aoB:fz fl top base σ (n+1) .nilp=.nilp:=by simp[fz]
@[simp] theorem apR:fz fl top base σ (n+1) .any=.any:=by simp[fz]
@[simp] theorem ap2(b:Bool):fz fl top base σ (n+1) (.emp b)=.emp b:=by simp[fz]
@[simp] theorem apt(cs:List aq):fz fl top base σ (n+1) (.agg cs)=.agg (cs.map (fz fl top base σ n)):=by simp[fz]
@[simp] theorem apM(cs:List aq):fz fl top base σ (n+1) (.tup cs)=.tup (cs.map (fz fl top base σ n)):=by simp[fz]
@[simp] theorem apV(cs:List aq):fz fl top base σ (n+1) (.lst cs)=oQ fl cs (cs.map (fz fl false base σ n)):=by simp[fz]
@[simp] theorem aqj(f:Nat)(a c:List aq):fz fl top base σ (n+1) (.fn f a c)=.fn f (a.map (fz fl top base σ n)) (c.map (fz fl top base σ n)):=by simp[fz]
@[simp] theorem aoY(xs:List aq):fz fl top base σ (n+1) (.aa false xs)=.aa false xs:=by simp[fz]
@[simp] theorem aoS(b:Bool)(xs:List aq):fz true top base σ (n+1) (.aa b xs)=.aa b xs:=by simp[fz]
@[simp] theorem aoV(b:Bool)(xs:List aq):fz fl true base σ (n+1) (.aa b xs)=.aa b xs:=by simp[fz]
@[simp] theorem aoa(x:aq)(o:Nat):fz fl top base σ (n+1) (.cptr false x o)=.cptr false x o:=by simp[fz]
@[simp] theorem alN(x:aq)(o:Nat):fz true top base σ (n+1) (.cptr true x o)=jT true x (fz true false base σ n x) o:=by simp[fz]
@[simp] theorem anU(x:aq)(o:Nat):fz false true base σ (n+1) (.cptr true x o)=jT true x (fz false true base σ n x) o:=by simp[fz]
@[simp] theorem anw(x:List (aq×aq)):fz fl top base σ (n+1) (.imap false x)=.imap false x:=by simp[fz]
@[simp] theorem aqm(id ep off len:Nat):fz fl top base σ (n+1) (.sl id ep off len)=if id<base then (if top then .sl id ep off len else .any) else (sliceAt σ id ep off len).elim .any fun l=>oQ fl l (l.map (fz fl false base σ n)):=by simp only[fz]
@[simp] theorem apX(id ep i off:Nat):fz fl top base σ (n+1) (.ptr id ep i off)=if id<base then (if top then .ptr id ep i off else .any) else (tX σ id ep i).elim .any fun x=>jT fl x (fz fl false base σ n x) off:=by simp only[fz]
@[simp] theorem aqc(id:Nat):fz fl top base σ (n+1) (.mp id)=if id<base then (if top then .mp id else .any) else (g7 σ id).elim .any fun es=>.imap fl (es.map fun e=>(e.1,fz fl false base σ n e.2)):=by simp only[fz]
end
attribute [simp] oQ jT JN TF
@[simp] theorem ajB(σ:aw)(v:aq):qX σ v=fz false false 0 σ 20 v:=rfl
@[simp] theorem Ge(σ:aw)(v:aq):snap σ v=fz true false 0 σ 20 v:=rfl
@[simp] theorem ajC(b:Nat)(σ:aw)(v:aq):cr b σ v=fz false true b σ 20 v:=rfl
@[simp] theorem abY(k:IntKind)(n:Int)(σ:aw):mater false (.int k n,σ)=(.int k n,σ):=rfl
attribute [simp] mater vD
theorem jC{n:Int}(h:-9223372036854775808≤n∧n<9223372036854775808):IntKind.i64.wrap n=n:=by
 simp[IntKind.wrap,IntKind.bits,IntKind.signed];omega
end Go.AM
namespace Go.AM
theorem cX{base:Nat}{clr:List Nat}{b:az}(I:Nat→St)(n:Nat)(r:Ex×St)
  (step:∀k,k<n→dg base clr b (run code b (I k))=bU code base clr b (I (k+1))) (a:dg base clr b (run code b (I n))=some r) :
  bU code base clr b (I 0)=some r:=by
 have key:∀m k,k+m=n→bU code base clr b (I k)=some r:=by
  intro m;induction m with
  |zero=>
   intro k c;obtain rfl:k=n:=by omega
   rw[re good];exact a
  |succ m d=>
   intro k c;rw[re good];exact (step k (by omega)).trans (d (k+1) (by omega))
 exact key n 0 (by omega)
@[simp] theorem adA(base:Nat)(clr:List Nat)(b:az)(s:St):dg base clr b (some (.nrm,s))=bU code base clr b (bR base clr s):=rfl
@[simp] theorem ac3(base:Nat)(clr:List Nat)(b:az)(s:St)(i:Nat):dg base clr b (some (.ext i,s))=some (.ext i,s):=rfl
@[simp] theorem aef(base:Nat)(clr:List Nat)(b:az)(s:St):dg base clr b (some (.ret,s))=some (.ret,s):=rfl
theorem cM{base:Nat}{clr:List Nat}{env:List aq}{σ:aw}(h:σ.length=base):bR base clr ⟨env,σ⟩=⟨clear env clr,σ⟩:=by
 unfold bR;rw[if_pos (.inl h)]
theorem cW{k n:Nat}(b:k<n)(a:n≤bC):IntKind.i64.wrap ((k:Int)+1)=((k+1:Nat):Int):=by
 rw[jC (by unfold bC at a;omega)];omega
end Go.AM
namespace Go.AM
def dA{α σ ρ:Type}(g:Nat→α→σ→σ⊕ρ):List α→Nat→σ→σ⊕ρ
 |[],_,s=>.inl s
 |a::l,k,s=>match g k a s with
  |.inl s'=>dA g l (k+1) s'
  |.inr r=>.inr r
theorem aZ(base:Nat)(clr:List Nat)(b:az)(s:St):bU code base clr b s=dg base clr b (run code b s):=re good base clr b s
theorem jA{e σ ρ:Type}{base:Nat}{clr:List Nat}{b:az}(l:List e)(S:Nat→σ→St)(yl:Nat→σ→Prop)(g:Nat→e→σ→σ⊕ρ)(E:σ→Ex×St)(Q:ρ→Ex×St→Prop)
  (a:∀k y s,k<l.length→l[k]?=some y→yl k s→match g k y s with
   |.inl s'=>dg base clr b (run code b (S k s))=bU code base clr b (S (k+1) s')∧yl (k+1) s'
   |.inr r=>∃o,dg base clr b (run code b (S k s))=some o∧Q r o)
  (d:∀s,yl l.length s→dg base clr b (run code b (S l.length s))=some (E s)) (s:σ) (h:yl 0 s) :
  match dA g l 0 s with
   |.inl s'=>yl l.length s'∧bU code base clr b (S 0 s)=some (E s')
   |.inr r=>∃o,bU code base clr b (S 0 s)=some o∧Q r o:=by
 have key:∀(m:List e) k s,l.drop k=m→k≤l.length→yl k s→match dA g m k s with
   |.inl s'=>yl l.length s'∧bU code base clr b (S k s)=some (E s')
   |.inr r=>∃o,bU code base clr b (S k s)=some o∧Q r o:=by
  intro m;induction m with
  |nil=>
   intro k s hd i hi;have:k=l.length:=by
    have:=congrArg List.length hd;simp at this;omega
   subst this;simp only[dA];exact⟨hi,by rw[aZ];exact d s hi⟩
  |cons y m p=>
   intro k s hd i hi;have f:k<l.length:=by
    have:=congrArg List.length hd;simp at this;omega
   have n:l[k]?=some y:=by
    have:=congrArg (·[0]?) hd;simpa using this
   have j:l.drop (k+1)=m:=by
    have:=congrArg List.tail hd;simpa [kK] using this
   have c:=a k y s f n hi;rw[aZ];simp only[dA];cases hg:g k y s with
   |inl s'=>
    rw[hg]at c;simp only at c ⊢;rw[c.1];exact p (k+1) s' j (by omega) c.2
   |inr r=>
    rw[hg]at c;exact c
 exact key l 0 s (by simp) (cI _) h
theorem nT{f:Type}{base:Nat}{clr:List Nat}{b:az}(l:List f)(S:Nat→St)(p:f→Bool)(E:Ex×St)(Q:Ex×St→Prop)
  (e:∀k y,k<l.length→l[k]?=some y→p y=false→dg base clr b (run code b (S k))=bU code base clr b (S (k+1)))
  (d:∀k y,k<l.length→l[k]?=some y→p y=true→∃o,dg base clr b (run code b (S k))=some o∧Q o)
  (c:dg base clr b (run code b (S l.length))=some E) :
  (l.any p=false∧bU code base clr b (S 0)=some E)∨(l.any p=true∧∃o,bU code base clr b (S 0)=some o∧Q o):=by
 have h:=jA (σ:=Unit) (ρ:=Unit) (base:=base) (clr:=clr) (b:=b) l (fun k _=>S k) (fun _ _=>True) (fun _ y _=>if p y then .inr () else .inl ()) (fun _=>E) (fun _=>Q)
  (fun k y s g i _=>by
   cases hp:p y
   ·simpa using e k y g i hp
   simpa using d k y g i hp) (fun _ _=>c) () trivial
 have j:∀(m:List f) k,dA (fun _ y _=>if p y then .inr () else .inl ()) m k ()=if m.any p then .inr () else (.inl ():Unit⊕Unit):=by
  intro m;induction m with
  |nil=>intro k;rfl
  |cons a m n=>
   intro k;cases hp:p a<;>simp[dA,hp,n]
 rw[j]at h;cases hp:l.any p
 ·rw[hp]at h;exact .inl ⟨rfl,h.2⟩
 rw[hp]at h;exact .inr ⟨rfl,h⟩
theorem Q0{j n:Type}{base:Nat}{clr:List Nat}{b:az}(l:List j)(S:Nat→Nat→List n→St)(f:j→List n)(E:Nat→List n→Ex×St)(m:Nat)
  (u:∀y∈l,(f y).length≤m)
  (d:∀k y ep a,k<l.length→l[k]?=some y→a.length≤k*m→∃c,dg base clr b (run code b (S k ep a))=bU code base clr b (S (k+1) c (a++f y)))
  (g:∀ep a,a.length≤l.length*m→dg base clr b (run code b (S l.length ep a))=some (E ep a)) (e:Nat) :
  ∃ep,bU code base clr b (S 0 e [])=some (E ep (l.flatMap f)):=by
 have key:∀(r:List j) k ep a,l.drop k=r→k≤l.length→a.length≤k*m→∃c,bU code base clr b (S k ep a)=some (E c (a++r.flatMap f)):=by
  intro r;induction r with
  |nil=>
   intro k ep a hd t h;have:k=l.length:=by
    have:=congrArg List.length hd;simp at this;omega
   subst this;exact⟨ep,by rw[aZ,g ep a h];simp⟩
  |cons y r x=>
   intro k ep a hd t h;have p:k<l.length:=by
    have:=congrArg List.length hd;simp at this;omega
   have o:l[k]?=some y:=by
    have:=congrArg (·[0]?) hd;simpa using this
   have v:l.drop (k+1)=r:=by
    have:=congrArg List.tail hd;simpa [kK] using this
   obtain⟨c,w⟩:=d k y ep a p o h;have i:y∈l:=aN o
   obtain⟨q,s⟩:=x (k+1) c (a++f y) v (by omega) (by
    rw[cn,Nat.succ_mul];have:=u y i;omega)
   exact⟨q,by rw[aZ,w,s];simp⟩
 have:=key l 0 e [] (by simp) (cI _) (by simp);simpa using this
end Go.AM
namespace Go.AM
theorem gB{e σ:Type}{base:Nat}{clr:List Nat}{b:az}(l:List e)(S:Nat→σ→St)(yl:Nat→σ→Prop)(g:σ→e→σ)(E:σ→Ex×St)
  (c:∀k y s,k<l.length→l[k]?=some y→yl k s→dg base clr b (run code b (S k s))=bU code base clr b (S (k+1) (g s y))∧yl (k+1) (g s y))
  (d:∀s,yl l.length s→dg base clr b (run code b (S l.length s))=some (E s)) (s:σ) (h:yl 0 s) :
  bU code base clr b (S 0 s)=some (E (l.foldl g s))∧yl l.length (l.foldl g s):=by
 have:=jA (ρ:=Empty) (base:=base) (clr:=clr) (b:=b) l S yl (fun _ y s=>.inl (g s y)) E (fun r _=>r.elim) (fun k y s i j hi=>c k y s i j hi) d s h;have f:∀(m:List e) k s,dA (ρ:=Empty) (fun _ y s=>.inl (g s y)) m k s=.inl (m.foldl g s):=by
  intro m;induction m with
  |nil=>intro k s;rfl
  |cons a m n=>intro k s;simp only[dA,eu];exact n _ _
 rw[f]at this;exact⟨this.2,this.1⟩
end Go.AM
namespace Go.AM
open P
set_option maxHeartbeats 1000000
end Go.AM
namespace Go.AM
theorem aaR{n f:Nat}{args:List aq}{σ:aw}{r:aq×aw}(h:dV code n f args σ=some r):cC code f args σ=some r:=Hr (mn good f args σ) h
theorem kV{n f:Nat}{args:List aq}{v:aq}{σ:aw}(h:dV code n f args []=some (v,σ)):bw f args=some v:=by
 unfold bw;rw[aaR h];rfl
end Go.AM
namespace Go.AM
open P
set_option maxHeartbeats 2000000
theorem lK(base:Nat)(clr:List Nat)(b:az)(s:St):bU code base clr b s=dg base clr b (run code b s):=re good base clr b s
end Go.AM
namespace Go.AM
open P
set_option maxHeartbeats 2000000
set_option maxRecDepth 4000
theorem vx{g:br}(a:g.mode.isPure=true)(args:List aq)(σ:aw):lZ code g args σ=((lZ code g (args.map (snap σ)) []).map (·.1)).map (·,σ):=by
 unfold lZ;have c:enter g args σ=enter g (args.map (snap σ)) []:=by
  have b:((args.map (snap σ)).take g.np).map (snap [])=(args.take g.np).map (snap σ):=by
   rw[←List.map_take,bT];exact aT fun x _=>pI σ [] x
  unfold enter;cases hg:g.mode<;>rw[hg]at a<;>first|exact absurd a (by decide)|(simp only[b])
 rw[c];cases run code g.body (enter g (args.map (snap σ)) []) with
 |none=>rfl
 |some r=>
  obtain⟨e,s⟩:=r;have key:(results s g.res).map (fun v=>ij g.mode σ s v)=(((results s g.res).map fun v=>ij g.mode [] s v).map (·.1)).map (·,σ):=by
   cases results s g.res with
   |none=>rfl
   |some v=>
    cases hg:g.mode<;>rw[hg]at a<;>first|exact absurd a (by decide)|rfl
  cases e with
  |ext _=>rfl
  |nrm=>exact key
  |ret=>exact key
theorem tS{f:Nat}{g:br}(h:code.fns f=.nilfn g)(i:g.mode.isPure=true)(b:Bool)(xs:List aq)(σ:aw) :
  cC code f [.aa b xs] σ=(bw f [.aa b xs]).map (·,σ):=by
 unfold bw;rw[kG good h,kG good h];have k:jJ σ (.aa b xs)=jJ [] (.aa b xs):=by simp[jJ,rd]
 rw[k];have d:∀(x:aq),(∀τ,snap τ x=x)→lZ code g [x] σ=((lZ code g [x] []).map (·.1)).map (·,σ):=fun x e=>by
  have:=vx i [x] σ;simpa only [aW,bm,e] using this
 have a:∀(x:aq),(∀τ,snap τ x=x)→lZ code g [x] []=((lZ code g [x] []).map (·.1)).map (·,([]:aw)):=fun x e=>by
  have:=vx i [x] [];simpa only [aW,bm,e] using this
 have j:∀τ,snap τ (.aa b xs)=.aa b xs:=fun τ=>by simp
 have c:∀t τ,snap τ (.emp t)=.emp t:=fun t τ=>by simp
 cases jJ [] (.aa b xs) with
 |false=>simpa using d _ j
 |true=>
  simp only[cz];rw[d _ (c true),d _ (c false),a _ (c true),a _ (c false)];cases lZ code g [.emp true] [] with
  |none=>rfl
  |some r=>cases lZ code g [.emp false] [] with
   |none=>rfl
   |some q=>
    simp only[dL,cG,Bw,lQ];split<;>rfl
def Plain(v:aq):Prop:=aM v=4∧isAgg v=true∧∀fl top base σ n,fz fl top base σ (n+2) v=v
structure aql (r:List aq):Prop where
 vals:∀v∈r,Plain v
 clone:bw I.slices_Clone_api_Row_api_Value [.aa false r]=some (.frs 4 r)
 right:bw I.row_right [.aa false r]=some (.bool true)
def ae7(rs:List (List aq)):List aq:=rs.map (.aa false)
@[simp] theorem acY(b:List (List aq)):(ae7 b).map aM=List.replicate b.length 1:=by
 simp only[ae7,bT];rw[kN];exact⟨by simp,fun x a=>by simp at a;obtain⟨_,_,rfl⟩:=a;rfl⟩
end Go.AM
namespace Go.AM
structure R9 {α:Type} (c:α→α→Int):Prop where
 anti:∀x y,c x y<0↔0<c y x
 tr:∀x y z,c x y≤0→c y z≤0→c x z≤0
namespace R9
variable {α:Type} {c d:α→α→Int}
theorem lt_le(h:R9 c){x y z:α}(f:c x y<0)(a:c y z≤0):c x z<0:=by
 have b:=h.anti x z;have d:=h.anti x y;have e:=h.tr y z x a;omega
theorem le_lt(h:R9 c){x y z:α}(e:c x y≤0)(f:c y z<0):c x z<0:=by
 have a:=h.anti x z;have b:=h.anti y z;have d:=h.tr z x y;omega
theorem zero(h:R9 c){x y:α}:c x y=0↔c y x=0:=by
 have:=h.anti x y;have:=h.anti y x;omega
end R9
def lex(a b:Int):Int:=if a≠0 then a else b
theorem R9.lex{α:Type}{c d:α→α→Int}(a:R9 c)(hd:R9 d):R9 fun x y=>lex (c x y) (d x y) where
 anti x y:=by
  have b:=a.anti x y;have e:=a.anti y x;have s:=hd.anti x y;unfold Go.AM.lex;split<;>split<;>omega
 tr x y z b e:=by
  unfold Go.AM.lex at *;have g:=fun h=>a.lt_le (x:=x) (y:=y) (z:=z) h;have i:=fun h f=>a.le_lt (x:=x) (y:=y) (z:=z) h f;have j:=a.tr x y z;have k:=hd.tr x y z;have l:=a.anti x z;have m:=a.tr z y x;have n:=a.anti x y;have o:=a.anti y z;have p:=a.anti y x;have q:=a.anti z y;have r:=a.anti z x;split at b<;>split at e<;>split<;>omega
theorem R9.on{α a:Type}{c:α→α→Int}(h:R9 c)(f:a→α):R9 fun x y=>c (f x) (f y):=⟨fun x y=>h.anti _ _,fun x y z=>h.tr _ _ _⟩
theorem R9.neg{α:Type}{c:α→α→Int}(h:R9 c):R9 fun x y=>-c x y where
 anti x y:=by have:=h.anti y x;have:=h.anti x y;omega
 tr x y z h1 h2:=by
  have a:=h.tr z y x;have b:=h.anti x y;have d:=h.anti y z;have e:=h.anti x z;have f:=h.anti y x;have g:=h.anti z y;have i:=h.anti z x;omega
structure wy where
 k:Int
 n:Int
 u:Int
 s:List UInt8
 deriving DecidableEq,Inhabited
section
variable {α:Type} (c:α→α→Int)
variable {c}
abbrev OC:=List wy
abbrev al0:=List OC
end
end Go.AM
namespace Go.AM
open P
set_option maxHeartbeats 2000000
set_option maxRecDepth 4000
def wy.a(v:wy):aq:=.agg [.int .i64 v.k,.int .i64 v.n,.int .u64 v.u,.str v.s]
def ake(r:OC):List aq:=r.map wy.a
@[simp] theorem anA(v:wy):aM v.a=4:=rfl
@[simp] theorem aoJ(v:wy):isAgg v.a=true:=rfl
@[simp] theorem apU(v:wy)(fl top:Bool)(base:Nat)(σ:aw)(n:Nat):fz fl top base σ (n+2) v.a=v.a:=by simp[wy.a]
def Hy(v:wy):wy:=
 if v.k=1 then (if v.n≠0∧v.n≠1 then v else { v with k:=0,n:=0 })
 else if v.k=2 then { v with k:=0,n:=0 }
 else if v.k=0 then v
 else if v.k=3 then (if v.s.length≤40 then { v with k:=0,s:=[] } else v)
 else if v.k=4 then { v with k:=0,n:=0,u:=0 }
 else v
def okV(v:wy):Bool:=Hy v == ⟨0,0,0,[]⟩
theorem Dm{a b:Int}(h:¬a=b):(a != b)=true:=by simp[h]
theorem eW{a b:Int}(h:¬a=b):(a==b)=false:=by simp[h]
theorem RZ(v:wy):bw I.qhn [v.a]=some (Hy v).a:=by
 rw[aS aki rfl];obtain⟨k,n,u,s⟩:=v;unfold Hy wy.a;by_cases d:k=1
 ·subst d;by_cases h:n=0
  ·subst h;simp[arx,AR]
  by_cases a:n=1
  ·subst a;simp[arx,AR]
  simp[arx,AR,Dm h,Dm a,h,a]
 by_cases e:k=2
 ·subst e;simp[arx,AR]
 by_cases c:k=0
 ·subst c;simp[arx,AR]
 by_cases f:k=3
 ·subst f;by_cases i:s.length≤40
  ·have b:((s.length:Int)≤40):=by omega
   simp[arx,AR,i,b]
  have b:¬((s.length:Int)≤40):=by omega
  simp[arx,AR,i,b]
 by_cases g:k=4
 ·subst g;simp[arx,AR]
 simp[arx,AR,eW d,eW e,eW c,eW f,eW g,d,e,c,f,g]
theorem VD(k n u:Int)(s:List UInt8):(wy.mk k n u s).a=.agg [.int .i64 k,.int .i64 n,.int .u64 u,.str s]:=rfl
theorem R0(v:wy):bw I.qhl [v.a]=some (.int .i64 (if okV v then 0 else 120)):=by
 rw[aS akX rfl];have h:=RZ v;unfold okV;generalize f:Hy v=w at h;obtain⟨k,n,u,s⟩:=w;by_cases a:k=0
 ·by_cases b:n=0
  ·by_cases c:u=0
   ·by_cases d:s=[]
    ·subst a b c d;simp[arW,Ke,h,VD]
    have e:(s==[])=false:=by simp[d]
    subst a b c;simp[arW,Ke,h,VD,d,e]
   subst a b;simp[arW,Ke,h,VD,c,eW c]
  subst a;simp[arW,Ke,h,VD,b,eW b]
 simp[arW,Ke,h,VD,a,eW a]
end Go.AM
namespace Go.AM
open P
set_option maxHeartbeats 2000000
set_option maxRecDepth 4000
def akw:aq→wy
 |.agg [.int _ k,.int _ n,.int _ u,.str s]=>⟨k,n,u,s⟩
 |_=>default
@[simp] theorem aoH(v:wy):akw v.a=v:=rfl
end Go.AM
namespace Go.AM
open P
set_option maxHeartbeats 4000000
set_option maxRecDepth 4000
end Go.AM
namespace Go.AM
open P
set_option maxHeartbeats 4000000
set_option maxRecDepth 4000
def im(o:Int×Bool):aq:=.agg [.int .i64 o.1,.bool o.2]
end Go.AM
namespace Go.AM
open P
set_option maxHeartbeats 4000000
set_option maxRecDepth 4000
def anc:aq→Int×Bool
 |.agg [.int _ c,.bool d]=>(c,d)
 |_=>(0,false)
@[simp] theorem aoW(o:Int×Bool):anc (im o)=o:=rfl
@[simp] theorem agi(r:OC):(ake r).map aM=List.replicate r.length 4:=by
 unfold ake;rw[bT,kN];exact⟨by simp,fun x a=>by simp at a;exact a.2.symm▸rfl⟩
end Go.AM
namespace Go.AM
class Nc {α:Type} (f:α→aq) (n:outParam Nat) (g:outParam Bool):Prop where
 nc:∀y,aM (f y)=n
 ag:∀y,isAgg (f y)=g
class Fx {α:Type} (f:α→aq):Prop where
 fx:∀fl top base σ n y,fz fl top base σ (n+3) (f y)=f y
class Ft {α:Type} (f:α→aq):Prop where
 ft:∀fl top base σ n y,(fl ||top)=true→fz fl top base σ (n+3) (f y)=f y
abbrev i64(n:Int):aq:=ap n
instance:Nc (fun n=>aq.int .i64 n) 1 false:=⟨fun _=>rfl,fun _=>rfl⟩
instance:Nc (aq.int .i64) 1 false:=⟨fun _=>rfl,fun _=>rfl⟩
instance:Fx (aq.int .i64):=⟨fun _ _ _ _ _ _=>rfl⟩
instance:Nc wy.a 4 true:=⟨fun _=>rfl,fun _=>rfl⟩
instance:Fx wy.a:=⟨fun fl top base σ n y=>apU y fl top base σ (n+1)⟩
instance {α:Type} (f:α→aq) [Fx f]:Ft f:=⟨fun fl top base σ n y _=>Fx.fx fl top base σ n y⟩
section
variable {α:Type} {f:α→aq} {m:Nat} {g:Bool}
@[simp] theorem aoz[Fx f](fl top:Bool)(base:Nat)(σ:aw)(n:Nat)(l:List α):List.map (fz fl top base σ (n+3)∘f) l=List.map f l:=
 aT fun y _=>Fx.fx fl top base σ n y
@[simp] theorem akh[Ft f](top:Bool)(base:Nat)(σ:aw)(n:Nat)(l:List α):List.map (fz true top base σ (n+3)∘f) l=List.map f l:=
 aT fun y _=>Ft.ft true top base σ n y rfl
@[simp] theorem ahk[Ft f](base:Nat)(σ:aw)(l:List α):List.map (cr base σ∘f) l=List.map f l:=
 aT fun y _=>Ft.ft false true base σ 17 y rfl
@[simp] theorem aoX[Nc f m g](l:List α):List.map (aM∘f) l=List.replicate l.length m:=by
 rw[kN]
 exact⟨by simp,fun x a=>by
  obtain⟨y,_,rfl⟩:=bM.1 a;exact Nc.nc y⟩
theorem G5[Nc f m g](l:List α):((l.map f).all fun y=>aM y==m)=true:=by
 rw[ba];intro x a;obtain⟨y,_,rfl⟩:=bM.1 a;simp[Nc.nc y]
@[simp] theorem Mh(l:List α)(f:α→aq):List.take l.length (List.map f l)=List.map f l:=ay (by simp)
end
end Go.AM
namespace Go.AM
structure iB (α:Type) where
 b:Bool
 l:List α
abbrev iB.c{α:Type}(f:α→aq)(s:iB α):aq:=.aa s.b (s.l.map f)
end Go.AM
namespace Go.AM
open P
set_option maxHeartbeats 64000000
set_option maxRecDepth 40000
theorem aG(a b:az)(s:St)(c:Bool):Gq a b s (aC c)=if c=true then run code a s else run code b s:=by cases c<;>rfl
theorem bj(env:List aq)(x:dc)(b:Bool)(o:IM)(a:List cq)(ls:List aq)(σ:aw)(c:Bool) :
  Gy env (P.g x b o) a ls σ (some c)=if c=true then CW env a ls (step code env ls σ o) else oT code env a (ls++[fb []]) σ:=by cases c<;>rfl
end Go.AM
namespace Go.AM
open P
set_option maxHeartbeats 2000000
set_option maxRecDepth 4000
end Go.AM
namespace Go.AM
open P
set_option maxHeartbeats 4000000
set_option maxRecDepth 4000
end Go.AM
namespace Go.AM
open P
set_option maxHeartbeats 4000000
set_option maxRecDepth 4000
end Go.AM
namespace Go.AM
open P
set_option maxHeartbeats 4000000
set_option maxRecDepth 4000
def wq(res:List OL)(r:Option (Ex×St)):Option (aq×aw):=r.bind fun r=>match r.1 with
 |.ext _=>none
 |_=>(results r.2 res).map fun v=>(v,r.2.st)
@[simp] theorem acN(a:List OL)(s:St):wq a (some (.ret,s))=(results s a).map fun v=>(v,s.st):=rfl
@[simp] theorem adt(a:List OL)(s:St):wq a (some (.nrm,s))=(results s a).map fun v=>(v,s.st):=rfl
theorem cw{f:Nat}{g:br}(h:code.fns f=.fn g)(a:g.mode=.keep)(args:List aq)(σ:aw) :
  cC code f args σ=wq g.res (run code g.body ⟨args.take g.np++List.replicate (g.nenv-g.np) .any,σ⟩):=by
 rw[ze good h];have b:enter g args σ=⟨args.take g.np++List.replicate (g.nenv-g.np) .any,σ⟩:=by unfold enter;rw[a]
 rw[b];unfold wq;congr 1;funext r;obtain⟨e,s⟩:=r;unfold qU ij;rw[a];cases e<;>rfl
end Go.AM
namespace Go.AM
open P
set_option maxHeartbeats 64000000
set_option maxRecDepth 40000
theorem rz{c:Type}{f:c→aq}{m:Nat}{g:Bool}[Nc f m g][Fx f](l:List c)(id ep:Nat)(σ:aw)(h:σ[id]?=some (aB m ep (l.map f))):rI m σ (.sl id ep 0 l.length)=.frs m (l.map f):=by
 have d:(l.map f).take l.length=l.map f:=ay (by simp);have b:∀a,(l.map f).map (qX a)=l.map f:=fun a=>by
  rw[bT];exact aT fun y _=>Fx.fx false false 0 a 17 y
 simp only[rI,h,d,b,TF];simp
theorem qL{n:Int}(a:-9223372036854775808≤n)(b:n<9223372036854775808):IntKind.i64.wrap n=n:=jC ⟨a,b⟩
abbrev rU(f:aq):Prop:=∀σ,fz true false 0 σ 20 f=f
def vX{α:Type}(p:α→Bool)(l:List α):Int:=if l.any p then ((l.findIdx p:Nat):Int) else -1
theorem Jq{s:Type}{enc:s→aq}{b:Bool}{l:List s}{f:aq}{p:s→Bool}(v:l.length≤bC)(t:∀y,aM (enc y)=1∧isAgg (enc y)=false)(x:rU f)
  (h:∀y∈l,iY code f [enc y] []=some (aC (p y),[])):bw I.qhd [.aa b (l.map enc),f]=some (ap (vX p l)):=by
 rw[aS alJ rfl];have m:=x [];have c:∀k,k<l.length→∀y,l[k]?=some y→p y=false→dg 0 [2,3,6,7] tc (run code tc ⟨[.aa b (l.map enc),f,am,am,ap l.length,ap k,am,am],[]⟩) =
   bU code 0 [2,3,6,7] tc ⟨[.aa b (l.map enc),f,am,am,ap l.length,ap (k+1:Nat),am,am],[]⟩:=fun k d y o r=>by
  have q:=t y;have g:=h y (aN o);rw[r]at g;have e:((k:Int)<(l.length:Int)):=by omega
  simp[tc,o,q,g,e,cW d v,cM]
 unfold vX;by_cases n:l.any p=true
 ·have e:=bN (cB.1 n);have r:p l[l.findIdx p]=true:=dr (w:=e);have a:=cX (base:=0) (clr:=[2,3,6,7]) (b:=tc) (fun k=>⟨[.aa b (l.map enc),f,am,am,ap l.length,ap k,am,am],[]⟩) (l.findIdx p)
   (.ret,⟨[.aa b (l.map enc),f,ap (l.findIdx p),ap (l.findIdx p),ap l.length,ap (l.findIdx p),aC true,aC true],[]⟩)
   (fun k d=>c k (by omega) _ (au (by omega)) (by simpa using cV d))
   (by
    have u:l[l.findIdx p]?=some l[l.findIdx p]:=au e;have q:=t l[l.findIdx p];have g:=h _ (aJ e);rw[r]at g;have j:((l.findIdx p:Int)<(l.length:Int)):=by omega
    simp[tc,u,q,g,j])
  simp at a;simp[asK,aaI,m,a,n]
 have i:∀y∈l,p y=false:=fun y o=>by simpa using cR.1 (eD _▸n) y o
 have a:=cX (base:=0) (clr:=[2,3,6,7]) (b:=tc) (fun k=>⟨[.aa b (l.map enc),f,am,am,ap l.length,ap k,am,am],[]⟩) l.length
  (.ext 0,⟨[.aa b (l.map enc),f,am,am,ap l.length,ap l.length,aC false,am],[]⟩)
  (fun k d=>c k d _ (au d) (i _ (aJ d)))
  (by simp[tc])
 simp at a;simp[asK,aaI,m,a,n]
theorem rc{c:Type}{enc:c→aq}{b:Bool}{l:List c}{f:aq}{p:c→Bool}(g:l.length≤bC)(e:∀y,aM (enc y)=1∧isAgg (enc y)=false)(d:rU f)
  (h:∀y∈l,iY code f [enc y] []=some (aC (p y),[])):bw I.qgm [.aa b (l.map enc),f]=some (aC (l.any p)):=by
 rw[aS anW rfl];have h:=Jq (b:=b) g e d h;have a:=d [];unfold vX at h;cases ha:l.any p<;>rw[ha]at h<;>simp[aul,agn,a,h]
theorem yj{s:Type}{enc:s→aq}{b:Bool}{l:List s}{f:aq}{p:s→Bool}(v:l.length≤bC)(t:∀y,aM (enc y)=2∧isAgg (enc y)=true)(x:rU f)
  (h:∀y∈l,iY code f [enc y] []=some (aC (p y),[])):bw I.qgz [.aa b (l.map enc),f]=some (ap (vX p l)):=by
 rw[aS alw rfl];have m:=x [];have c:∀k,k<l.length→∀y,l[k]?=some y→p y=false→dg 0 [2,3,6,7] tD (run code tD ⟨[.aa b (l.map enc),f,am,am,ap l.length,ap k,am,am],[]⟩) =
   bU code 0 [2,3,6,7] tD ⟨[.aa b (l.map enc),f,am,am,ap l.length,ap (k+1:Nat),am,am],[]⟩:=fun k d y o r=>by
  have q:=t y;have g:=h y (aN o);rw[r]at g;have e:((k:Int)<(l.length:Int)):=by omega
  simp[tD,o,q,g,e,cW d v,cM]
 unfold vX;by_cases n:l.any p=true
 ·have e:=bN (cB.1 n);have r:p l[l.findIdx p]=true:=dr (w:=e);have a:=cX (base:=0) (clr:=[2,3,6,7]) (b:=tD) (fun k=>⟨[.aa b (l.map enc),f,am,am,ap l.length,ap k,am,am],[]⟩) (l.findIdx p)
   (.ret,⟨[.aa b (l.map enc),f,ap (l.findIdx p),ap (l.findIdx p),ap l.length,ap (l.findIdx p),aC true,aC true],[]⟩)
   (fun k d=>c k (by omega) _ (au (by omega)) (by simpa using cV d))
   (by
    have u:l[l.findIdx p]?=some l[l.findIdx p]:=au e;have q:=t l[l.findIdx p];have g:=h _ (aJ e);rw[r]at g;have j:((l.findIdx p:Int)<(l.length:Int)):=by omega
    simp[tD,u,q,g,j])
  simp at a;simp[asv,W8,m,a,n]
 have i:∀y∈l,p y=false:=fun y o=>by simpa using cR.1 (eD _▸n) y o
 have a:=cX (base:=0) (clr:=[2,3,6,7]) (b:=tD) (fun k=>⟨[.aa b (l.map enc),f,am,am,ap l.length,ap k,am,am],[]⟩) l.length
  (.ext 0,⟨[.aa b (l.map enc),f,am,am,ap l.length,ap l.length,aC false,am],[]⟩)
  (fun k d=>c k d _ (au d) (i _ (aJ d)))
  (by simp[tD])
 simp at a;simp[asv,W8,m,a,n]
theorem vF{c:Type}{enc:c→aq}{b:Bool}{l:List c}{f:aq}{p:c→Bool}(g:l.length≤bC)(e:∀y,aM (enc y)=2∧isAgg (enc y)=true)(d:rU f)
  (h:∀y∈l,iY code f [enc y] []=some (aC (p y),[])):bw I.qgi [.aa b (l.map enc),f]=some (aC (l.any p)):=by
 rw[aS alt rfl];have h:=yj (b:=b) g e d h;have a:=d [];unfold vX at h;cases ha:l.any p<;>rw[ha]at h<;>simp[auH,agy,a,h]
theorem AX{i:Type}{enc:i→aq}[Nc enc 1 false][Fx enc](b:Bool)(l:List i)(k:l.length≤bC):bw I.qgd [.aa b (l.map enc)]=some (.frs 1 (l.map enc)):=by
 cases l with
 |nil=>cases b<;>exact kV (n:=20) (σ:=[]) (by kernel_rfl)
 |cons v r=>
  have a:=G5 (f:=enc) (v::r);have j:((v::r).map enc).length=r.length+1:=by simp
  have e:jJ [] (.aa b ((v::r).map enc))=false:=rfl;unfold bw;rw[kG good aae,e];simp only[bq,cH];unfold lZ;have d:r.length+1≤bC:=by simpa using k
  have c:uq false [] (.aa b ((v::r).map enc))=some (aC false):=rfl;have h:=rz (f:=enc) (v::r) 0 0 [aB 1 0 ((v::r).map enc)] rfl;have g:(v::r).map enc≠[]:=by simp
  have m:∀x,x∈(v::r).map enc→aM x=1:=fun x g=>by simpa using ba.1 a x g
  have o:((v::r).map enc).take (r.length+1)=(v::r).map enc:=ay (by simp);simp only[bB]at h;generalize (v::r).map enc=xs at *;simp[atq,ae1,enter,qU,append,a,j,d,-uq,c,g];rw[if_pos m];simp[qU];exact h
@[simp] theorem pU{a:Type}{enc:a→aq}[Nc enc 1 false][Fx enc](b:Bool)(l:List a)(c:l.length≤bC)(σ:aw):cC code I.qgd [.aa b (l.map enc)] σ=some (.frs 1 (l.map enc),σ):=by
 rw[tS aae rfl,AX b l c];rfl
theorem Hx{t:Type}{enc:t→aq}[Nc enc 1 false][Fx enc](b:Bool)(ls:List (iB t))(N:(ls.flatMap (·.l)).length≤bC)(B:ls.length≤bC) :
  bw I.qgf [.aa b (ls.map (iB.c enc))]=some (.aa false ((ls.flatMap (·.l)).map enc)):=by
 rw[aS alg rfl];have p:∀(r:List (iB t)) (k:Nat),ls.drop k=r→(ls.flatMap (·.l)).length=((ls.take k).flatMap (·.l)).length+(r.flatMap (·.l)).length:=fun r k h=>by
  have:=congrArg (fun x=>(x.flatMap (fun (s:iB t)=>s.l)).length) (o5 k ls);simp only[mh,cn,h]at this;omega
 generalize J:ls.flatMap (·.l)=F at *;have V:F.length≤68719476736:=N;have j:=p;have u:∀(r:List (iB t)) (k:Nat),ls.drop k=r→k≤ls.length→bU code 0 [3,9,10] Gm ⟨[.aa b (ls.map (iB.c enc)),.ai,ap (((ls.take k).flatMap (·.l)).length:Nat),am,am,am,.aa b (ls.map (iB.c enc)),ap ls.length,ap k,am,am,am,am,am,am],[]⟩ =
   some (.ext 0,⟨[.aa b (ls.map (iB.c enc)),.ai,ap (F.length:Nat),am,am,am,.aa b (ls.map (iB.c enc)),ap ls.length,ap ls.length,aC false,am,am,am,am,am],[]⟩):=by
  intro r;induction r with
  |nil=>
   intro k hd A;have:k=ls.length:=by
    have:=congrArg List.length hd;simp at this;omega
   subst this;rw[aZ,du,J];simp[Gm]
  |cons y r c=>
   intro k hd A;have l:k<ls.length:=by
    have:=congrArg List.length hd;simp at this;omega
   have i:ls[k]?=some y:=by
    have:=congrArg (·[0]?) hd;simpa using this
   have o:ls.drop (k+1)=r:=by
    have:=congrArg List.tail hd;simpa [kK] using this
   have hi:((k:Int)<(ls.length:Int)):=by omega
   have g:=j r (k+1) o;have W:((ls.take (k+1)).flatMap (·.l)).length=((ls.take k).flatMap (·.l)).length+y.l.length:=by
    rw[eY,i];simp
   have c:=c (k+1) o (by omega);rw[W]at c g;generalize ((ls.take k).flatMap (·.l)).length=s at *;have w:=qL (n:=(s:Int)+(y.l.length:Int)) (by omega) (by omega);have C:¬((s:Int)+(y.l.length:Int)<0):=by omega
   rw[aZ,←c];simp[Gm,hi,i,w,C,cW l B,cM]
 have u:=u ls 0 (by simp) (by simp);simp at u;have R:∀(r:List (iB t)) (k ep:Nat) (es:List aq),ls.drop k=r→k≤ls.length→es.take ((ls.take k).flatMap (·.l)).length=((ls.take k).flatMap (·.l)).map enc→((ls.take k).flatMap (·.l)).length≤es.length→∃a es',es'.take F.length=F.map enc∧F.length≤es'.length ∧
   bU code 1 [5,14] vj ⟨[.aa b (ls.map (iB.c enc)),.ai,ap (F.length:Nat),am,.sl 0 ep 0 ((ls.take k).flatMap (·.l)).length,am,.aa b (ls.map (iB.c enc)),ap ls.length,ap ls.length,aC false,am,.aa b (ls.map (iB.c enc)),ap ls.length,ap k,am],[aB 1 ep es]⟩ =
   some (.ext 2,⟨[.aa b (ls.map (iB.c enc)),.ai,ap (F.length:Nat),am,.sl 0 a 0 F.length,am,.aa b (ls.map (iB.c enc)),ap ls.length,ap ls.length,aC false,am,.aa b (ls.map (iB.c enc)),ap ls.length,ap ls.length,aC false],[aB 1 a es']⟩):=by
  intro r;induction r with
  |nil=>
   intro k ep es hd A z d;have:k=ls.length:=by
    have:=congrArg List.length hd;simp at this;omega
   subst this;rw[du,J]at z d;refine⟨ep,es,z,d,?_⟩;rw[aZ,du,J];simp[vj]
  |cons y r c=>
   intro k ep es hd A z d;have l:k<ls.length:=by
    have:=congrArg List.length hd;simp at this;omega
   have i:ls[k]?=some y:=by
    have:=congrArg (·[0]?) hd;simpa using this
   have o:ls.drop (k+1)=r:=by
    have:=congrArg List.tail hd;simpa [kK] using this
   have hi:((k:Int)<(ls.length:Int)):=by omega
   have g:=j r (k+1) o;have S:(ls.take (k+1)).flatMap (·.l)=(ls.take k).flatMap (·.l)++y.l:=by
    rw[eY,i];simp
   have c:=fun ep es=>c (k+1) ep es o (by omega);rw[S]at c g;generalize (ls.take k).flatMap (·.l)=s at *;rw[cn]at g;by_cases e:y.l=[]
   ·rw[e,dJ]at c;obtain⟨a,es',D,E,q⟩:=c ep es z d;refine⟨a,es',D,E,?_⟩;rw[aZ,←q];simp[vj,hi,i,e,append,cW l B,cM]
   obtain⟨a,es',D,E,q⟩:=c (ep+1) (s.map enc++y.l.map enc) (by rw[←List.map_append];exact ay (by simp)) (by simp);refine⟨a,es',D,E,?_⟩;have U:s.length+y.l.length≤bC:=by unfold bC;omega
   have v:∀x∈y.l,aM (enc x)=1:=fun x _=>Nc.nc x;rw[cn]at q;rw[aZ,←q];simp[vj,hi,i,e,append,d,z,U,cW l B,cM];rw[if_pos v];simp[cM,cW l B]
 have m:0<F.length→cC code I.qgu [.ai,ap (F.length:Nat)] []=some (.sl 0 0 0 0,[aB 1 0 (List.replicate F.length (ap 0))]):=fun G=>by
  rw[cw aeP rfl];generalize F.length=n at *;have O:¬((n:Int)<0):=by omega
  have P:(0:Int)<(n:Int):=by omega
  have Q:=qL (n:=(n:Int)) (by omega) (by omega);have K:IntKind.i64.wrap 0=0:=rfl;simp[asU,aap,O,P,Q,K,append,N,G,show ¬n=0 by omega,show (n:Int).toNat=n by omega]
 have f:cC code I.qgu [.ai,ap 0] []=some (.ai,[]):=by
  rw[cw aeP rfl];have K:IntKind.i64.wrap 0=0:=rfl;simp[asU,aap,K]
 by_cases G:F.length=0
 ·have H:∀(r:List (iB t)) (k:Nat),ls.drop k=r→k≤ls.length→bU code 0 [5,14] vj ⟨[.aa b (ls.map (iB.c enc)),.ai,ap 0,am,.ai,am,.aa b (ls.map (iB.c enc)),ap ls.length,ap ls.length,aC false,am,.aa b (ls.map (iB.c enc)),ap ls.length,ap k,am],[]⟩ =
    some (.ext 2,⟨[.aa b (ls.map (iB.c enc)),.ai,ap 0,am,.ai,am,.aa b (ls.map (iB.c enc)),ap ls.length,ap ls.length,aC false,am,.aa b (ls.map (iB.c enc)),ap ls.length,ap ls.length,aC false],[]⟩):=by
   intro r;induction r with
   |nil=>
    intro k hd A;have:k=ls.length:=by
     have:=congrArg List.length hd;simp at this;omega
    subst this;rw[aZ];simp[vj]
   |cons y r c=>
    intro k hd A;have l:k<ls.length:=by
     have:=congrArg List.length hd;simp at this;omega
    have i:ls[k]?=some y:=by
     have:=congrArg (·[0]?) hd;simpa using this
    have o:ls.drop (k+1)=r:=by
     have:=congrArg List.tail hd;simpa [kK] using this
    have hi:((k:Int)<(ls.length:Int)):=by omega
    have e:y.l=[]:=by
     have M:=db G;rw[←J,List.flatMap_eq_nil_iff]at M;exact M y (aN i)
    rw[aZ,←c (k+1) o (by omega)];simp[vj,hi,i,e,append,cW l B,cM]
  have H:=H ls 0 (by simp) (by simp);simp at H;have L:=db G;subst L;simp at u;simp[as7,aaf,u,H,f]
 obtain⟨ep,es,D,E,q⟩:=R ls 0 0 (List.replicate F.length (ap 0)) (by simp) (by simp) (by simp) (by simp);have T:=m (by omega);simp at q;simp[as7,aaf,u,T,q,D,E];exact fun y _=>by rw[Fx.fx]
abbrev cT(l:List Int):List aq:=l.map (.int .i64)
def eB(l:List Int):List Int:=l.foldl (fun acc x=>if acc.getLast?=some x then acc else acc++[x]) []
theorem rC(l:List Int)(x:Int):eB (l++[x])=if (eB l).getLast?=some x then eB l else eB l++[x]:=by
 unfold eB;simp[List.foldl_append]
theorem Jm{b:Type}{p:List b→Prop}(l:List b)(c:p [])(d:∀l x,p l→p (l++[x])):p l:=by
 have:∀m:List b,p m.reverse:=fun m=>by
  induction m with
  |nil=>simpa using c
  |cons a m e=>rw[List.reverse_cons];exact d _ _ e
 simpa using this l.reverse
theorem AW(l:List Int):(eB l).getLast?=l.getLast?:=by
 refine Jm (p:=fun l=>(eB l).getLast?=l.getLast?) l rfl fun l x a=>?_;rw[rC];split
 ·rename_i h;rw[h];simp
 simp
theorem Cx(l:List Int)(x:Int):x∈eB l↔x∈l:=by
 refine Jm (p:=fun l=>x∈eB l↔x∈l) l (by simp[eB]) fun l y b=>?_;rw[rC];split
 ·rename_i h;rw[b];constructor
  ·intro a;simp[a]
  intro a;rcases aY.1 a with a|a
  ·exact a
  simp at a;subst a;rw[AW]at h;exact List.mem_of_getLast? h
 simp[b]
theorem zp(l:List Int):(eB l).length≤l.length:=by
 refine Jm (p:=fun l=>(eB l).length≤l.length) l (aF _) fun l y a=>?_;rw[rC];split<;>simp<;>omega
theorem vU{l:List Int}{j:Nat}(a:j<l.length)(b:0<j):eB (l.take (j+1))=if l[j-1]=l[j] then eB (l.take j) else eB (l.take j)++[l[j]]:=by
 rw[dq a,rC,AW];have:(l.take j).getLast?=some l[j-1]:=by
  rw[List.getLast?_eq_getElem?];simp[gj];have:min j l.length=j:=by omega
  rw[this];simp[show j-1<j by omega,show j-1<l.length by omega]
 rw[this];simp
theorem ade{σ:aw}{id:Nat}{o o':Obj}(h:σ[id]?=some o):(σ.set id o')[id]?=some o':=by
 have:=(ak.1 h).1;simp[this]
def mD(l:List Int)(k0:Nat):Nat→List Int×Nat
 |0=>(l,k0)
 |m+1=>let p:=mD l k0 m
  if l.getD (k0+m+1) 0=l.getD (k0+m) 0 then p else (p.1.set p.2 (l.getD (k0+m+1) 0),p.2+1)
theorem CC{l:List Int}{a:Nat}(f:0<a)(g:a<l.length)(hd:l[a-1]=l[a])(h:eB (l.take a)=l.take a):∀m,a+m<l.length →
  (mD l a m).1.length=l.length∧(mD l a m).2≤a+m∧(mD l a m).1.take (mD l a m).2=eB (l.take (a+m+1))∧(mD l a m).1.drop (a+m)=l.drop (a+m)
 |0,_=>by
  have:=vU (l:=l) g f;rw[if_pos hd,h]at this;simp[mD,this]
 |m+1,r=>by
  obtain⟨i,s,k,q⟩:=CC f g hd h m (by omega);have n:l.getD (a+m+1) 0=l[a+m+1]:=by simp[aQ,show a+m+1<l.length by omega]
  have o:l.getD (a+m) 0=l[a+m]:=by simp[aQ,show a+m<l.length by omega]
  have b:=vU (l:=l) (j:=a+m+1) (by omega) (by omega);have d:(mD l a m).1.drop (a+(m+1))=l.drop (a+(m+1)):=by
   have:=congrArg (List.drop 1) q;simpa [nu,dB,g9,Nat.add_left_comm] using this
  unfold mD;simp only[n,o];by_cases c:l[a+m+1]=l[a+m]
  ·rw[if_pos c];rw[if_pos (by simpa using c.symm)]at b;exact⟨i,by omega,by rw[k];simpa [dB] using b.symm,d⟩
  rw[if_neg c];rw[if_neg (by simpa using fun e=>c e.symm)]at b;refine⟨by simp[i],by simp;omega,?_,?_⟩
  ·have p:(mD l a m).2<(mD l a m).1.length:=by omega
   simp only;rw[dq (by simpa using p),List.take_set_of_le (by omega),k];simp only[iF];simpa [dB] using b.symm
  simp only;rw[List.drop_set_of_lt (by omega)];exact d
theorem ur{l:List Int}{k:Nat}(h:k<l.length):(cT l)[k]?=some (ap l[k]):=by simp[cT,h]
abbrev aaO(σ:aw)(id ep n k0:Nat)(l:List Int)(m:Nat):St:=
 ⟨[.sl id ep 0 n,am,ap ((mD l k0 m).2:Nat),.sl id ep k0 (n-k0),ap ((m+1:Nat):Int),aC false,aC true,aC true,am,am],σ.set id (aB 1 ep (cT (mD l k0 m).1))⟩
theorem O6{σ:aw}{id ep a:Nat}{l:List Int}(f:σ[id]?=some (aB 1 ep (cT l)))(J:l.length≤bC)(y:0<a)(z:a<l.length)(hd:l[a-1]=l[a])(B:eB (l.take a)=l.take a) :
  bU code σ.length [8,9] Cf (aaO σ id ep l.length a l 0)=some (.ext 2,⟨[.sl id ep 0 l.length,am,ap ((eB l).length:Nat),.sl id ep a (l.length-a),ap ((l.length-a:Nat):Int),aC false,aC true,aC true,aC false,am],σ.set id (aB 1 ep (cT (mD l a (l.length-a-1)).1))⟩):=by
 refine cX (aaO σ id ep l.length a l) (l.length-a-1) _ (fun m L=>?_) ?_
 ·obtain⟨o,p,g,h⟩:=CC y z hd B m (by omega);have j:mD l a (m+1)=if l.getD (a+m+1) 0=l.getD (a+m) 0 then mD l a m else ((mD l a m).1.set (mD l a m).2 (l.getD (a+m+1) 0),(mD l a m).2+1):=rfl
  have v:l.getD (a+m+1) 0=l[a+m+1]:=by simp[aQ,show a+m+1<l.length by omega]
  have w:l.getD (a+m) 0=l[a+m]:=by simp[aQ,show a+m<l.length by omega]
  rw[v,w]at j;clear v w;unfold aaO;rcases hA:mD l a m with⟨A,k⟩;rw[hA]at o p g h j;rw[j];clear j hA;simp only at o p g h;have i:=ade (o':=aB 1 ep (cT A)) f;have q:(cT A)[a+(m+1)]?=some (ap l[a+m+1]):=by
   have:A[a+(m+1)]=l[a+m+1]:=by
    have:=congrArg (fun x=>x[1]?) h;simp only[mT]at this;rw[au (by omega),au (by omega)]at this;simpa [dB] using this
   rw[ur (by omega),this]
  have r:(cT A)[a+m]?=some (ap l[a+m]):=by
   have:A[a+m]=l[a+m]:=by
    have:=congrArg (fun x=>x[0]?) h;simp only[mT]at this;rw[au (by omega),au (by omega)]at this;simpa [dB] using this
   rw[ur (by omega),this]
  have s:((m:Int)+1<((l.length-a:Nat):Int)):=by omega
  have K:l.length≤68719476736:=J;have D:=qL (n:=(m:Int)) (by omega) (by omega);have E:=qL (n:=(m:Int)+1+1) (by omega) (by omega);have F:=qL (n:=(k:Int)+1) (by omega) (by omega);have t:m+1<l.length-a:=by omega
  have u:m<l.length-a:=by omega
  have G:k<l.length:=by omega
  have b:((m:Int)+1).toNat=m+1:=by omega
  have C:(0:Int)≤(m:Int)+1:=by omega
  have H:k<A.length:=by omega
  have e:(cT A)[k]?=some (ap A[k]):=ur H;by_cases d:l[a+m+1]=l[a+m]
  ·rw[if_pos d];simp[Cf,s,i,q,r,t,u,D,E,F,b,C,d,cM,-List.getElem?_map]
  rw[if_neg d];simp[Cf,s,i,q,r,t,u,G,D,E,F,b,C,d,cM,e,Dm d,-List.getElem?_map]
 obtain⟨o,p,g,h⟩:=CC y z hd B (l.length-a-1) (by omega);have c:(eB l).length=(mD l a (l.length-a-1)).2:=by
  rw[show a+(l.length-a-1)+1=l.length by omega,du]at g;rw[←g,dd];omega
 rw[c];unfold aaO;rcases hA:mD l a (l.length-a-1) with⟨A,k⟩;have i:=ade (o':=aB 1 ep (cT A)) f;have I:l.length-a-1+1=l.length-a:=by omega
 rw[I];simp[Cf,i]
theorem DQ{σ:aw}{id:Nat}{o:Obj}(h:σ[id]?=some o):σ.set id o=σ:=by
 refine eX fun i=>?_;by_cases hi:id=i
 ·subst hi;rw[ade h,h]
 rw[aD hi]
theorem xF{l:List Int}(h:∀k (_:0<k) (c:k<l.length),l[k-1]≠l[k]):∀j,j≤l.length→eB (l.take j)=l.take j
 |0,_=>by simp[eB]
 |1,b=>by
  match l,b with
  |a::r,_=>simp[eB]
 |j+2,b=>by
  rw[vU (j:=j+1) (by omega) (by omega),if_neg (h (j+1) (by omega) (by omega)),xF h (j+1) (by omega),←List.take_succ_eq_append_getElem]
abbrev K9(σ:aw)(id ep n:Nat)(m:Nat):St:=⟨[.sl id ep 0 n,am,ap ((m+1:Nat):Int),am,am,aC false,am,am,am,am],σ⟩
theorem xN{σ:aw}{id ep:Nat}{l:List Int}(b:σ[id]?=some (aB 1 ep (cT l)))(i:l.length≤bC)(m:Nat)(c:m+1<l.length)(hd:l[m]≠l[m+1]) :
  dg σ.length [1,3,4,6,7,8,9] tq (run code tq (K9 σ id ep l.length m))=bU code σ.length [1,3,4,6,7,8,9] tq (K9 σ id ep l.length (m+1)):=by
 have j:l.length≤68719476736:=i;have p:=qL (n:=(m:Int)) (by omega) (by omega);have q:=qL (n:=(m:Int)+1+1) (by omega) (by omega);have f:((m:Int)+1<(l.length:Int)):=by omega
 have d:=ur (l:=l) (k:=m+1) c;have e:=ur (l:=l) (k:=m) (by omega);have a:((m:Int)+1).toNat=m+1:=by omega
 have o:(0:Int)≤(m:Int)+1:=by omega
 have g:m<l.length:=by omega
 have h:(l[m+1]==l[m])=false:=eW (Ne.symm hd);simp[tq,K9,f,b,d,e,p,q,a,o,c,g,h,cM,-List.getElem?_map]
theorem V6(l:List Int):(∀k (_:0<k) (b:k<l.length),l[k-1]≠l[k])∨∃c,∃(_:0<c) (b:c<l.length),l[c-1]=l[c]∧∀k (_:0<k) (a:k<c),l[k-1]≠l[k]:=by
 have key:∀n,n≤l.length→(∀k (_:0<k) (b:k<n) (a:k<l.length),l[k-1]≠l[k])∨∃c,∃(_:0<c) (b:c<l.length),l[c-1]=l[c]∧∀k (_:0<k) (a:k<c),l[k-1]≠l[k]:=by
  intro n;induction n with
  |zero=>intro _;exact .inl fun k _ b=>absurd b (cZ _)
  |succ n g=>
   intro i;rcases g (by omega) with h|h
   ·by_cases d:0<n
    ·by_cases hd:l[n-1]=l[n]
     ·exact .inr ⟨n,d,by omega,hd,fun k b a=>h k b a (by omega)⟩
     exact .inl fun k b e a=>by
      by_cases f:k=n
      ·subst f;exact hd
      exact h k b (by omega) a
    exact .inl fun k b e a=>by omega
   exact .inr h
 rcases key l.length (aF _) with h|h
 ·exact .inl fun k d b=>h k d b b
 exact .inr h
theorem K3{σ:aw}{id ep:Nat}{l:List Int}(e:σ[id]?=some (aB 1 ep (cT l)))(j:l.length≤bC) :
  ∃A:List Int,cC code I.qge [.sl id ep 0 l.length] σ=some (.sl id ep 0 (eB l).length,σ.set id (aB 1 ep (cT A)))∧A.length=l.length∧A.take (eB l).length=eB l:=by
 rw[cw al3 rfl];by_cases L:l.length<2
 ·have g:=xF (l:=l) (fun k p i=>by omega) l.length (aF _);rw[du]at g;refine⟨l,?_,rfl,by rw[g,du]⟩;have hi:((l.length:Int)<2):=by omega
  rw[g,DQ e];simp[ar5,UF,e,hi]
 have hi:¬((l.length:Int)<2):=by omega
 rcases V6 l with h|⟨d,p,i,hd,u⟩
 ·have g:=xF h l.length (aF _);rw[du]at g;refine⟨l,?_,rfl,by rw[g,du]⟩;have a:=cX (base:=σ.length) (clr:=[1,3,4,6,7,8,9]) (b:=tq) (K9 σ id ep l.length) (l.length-1)
   (.ext 0,⟨[.sl id ep 0 l.length,am,ap l.length,am,am,aC false,aC false,am,am,am],σ⟩)
   (fun m D=>xN e j m (by omega) (h (m+1) (by omega) (by omega))) (by
    unfold K9;rw[show l.length-1+1=l.length by omega];simp[tq,e])
  unfold K9 at a;simp at a;rw[g,DQ e];simp[ar5,UF,e,hi,a]
 have v:eB (l.take d)=l.take d:=by
  have:=xF (l:=l.take d) (fun k r s=>by
   simp at s;simpa using u k r (by omega)) d (by simp;omega)
  rwa [qJ,Nat.min_self]at this
 have f:=O6 (ep:=ep) e j p i hd v;obtain⟨F,N,o,O⟩:=CC p i hd v (l.length-d-1) (by omega);rw[show d+(l.length-d-1)+1=l.length by omega,du]at o;have t:(mD l d (l.length-d-1)).2=(eB l).length:=by rw[←o,dd];omega
 rw[t]at o;generalize (mD l d (l.length-d-1)).1=A at *;have q:=zp l;generalize M:(eB l).length=c at *;have C:=fun o'=>ade (o':=o') e
 refine⟨A.take c++List.replicate (l.length-c) 0++A.drop (c+(l.length-c)),?_,by simp;omega,by
  rw[dv,fY (by simp;omega)];exact o⟩
 have a:=cX (base:=σ.length) (clr:=[1,3,4,6,7,8,9]) (b:=tq) (K9 σ id ep l.length) (d-1)
  (.ret,⟨[.sl id ep 0 l.length,.sl id ep 0 c,ap c,.sl id ep d (l.length-d),ap ((l.length-d:Nat):Int),aC false,aC true,aC true,aC false,am],σ.set id (aB 1 ep (cT (A.take c++List.replicate (l.length-c) 0++A.drop (c+(l.length-c)))))⟩)
  (fun m D=>xN e j m (by omega) (u (m+1) (by omega) (by omega))) (by
   unfold K9;rw[show d-1+1=d by omega];have E:l.length≤68719476736:=j;have G:=qL (n:=(d:Int)-1) (by omega) (by omega);have H:((d:Int)-1).toNat=d-1:=by omega
   have J:(0:Int)≤(d:Int)-1:=by omega
   have K:(1:Int)≤(d:Int):=by omega
   have y:((d:Int)<(l.length:Int)):=by omega
   have w:=ur (l:=l) (k:=d) i;have x:=ur (l:=l) (k:=d-1) (by omega);have z:d-1<l.length:=by omega
   have B:d≤l.length:=by omega
   have c5:c+(l.length-c)=l.length:=by omega
   unfold aaO at f;simp[mD]at f;rw[DQ e]at f;simp[tq,y,e,w,x,G,H,J,K,z,B,hd,f,i,C,q,F,c5,-List.getElem?_map])
 unfold K9 at a;simp at a;simp[ar5,UF,e,hi,a]
end Go.AM
namespace Go.AM
structure EN where
 tag:Int
 l:Int
 r:Int
 col:Int
 v:wy
 deriving DecidableEq,Inhabited
def EN.a(n:EN):aq:=.agg [.int .i64 n.tag,.int .i64 n.l,.int .i64 n.r,.int .i64 n.col,.int .i64 n.v.k,.int .i64 n.v.n,.int .u64 n.v.u,.str n.v.s]
end Go.AM
namespace Go.AM
open P
set_option maxHeartbeats 4000000
set_option maxRecDepth 4000
@[simp] theorem ajI(n:EN):aM n.a=8:=rfl
@[simp] theorem ald(n:EN):isAgg n.a=true:=rfl
@[simp] theorem aeG(n:EN)(fl top:Bool)(base:Nat)(σ:aw)(m:Nat):fz fl top base σ (m+2) n.a=n.a:=by simp[EN.a]
def AA(e:List EN):List aq:=e.map EN.a
@[simp] theorem agz(e:List EN):(AA e).length=e.length:=by simp[AA]
theorem Px{e:List EN}{k:Nat}(h:k<e.length):(AA e)[k]?=some e[k].a:=by simp[AA,h]
def JJ(b:Bool)(e:List EN):aq:=aH [.aa b (AA e)]
def dt(t:Int):Int:=if t=1∨t=2 then 0 else if 4≤t∧t≤7 then 1 else if 12≤t∧t≤23 then 2 else -1
theorem BI(t:Int):bw I.qce [ap t]=some (ap (dt t)):=by
 rw[aS akU rfl];unfold dt;by_cases a:t=1
 ·subst a;simp[arG,Fo]
 by_cases b:t=2
 ·subst b;simp[arG,Fo]
 have f:¬(t=1∨t=2):=by omega
 rw[if_neg f];by_cases c:4≤t
 ·by_cases e:t≤7
  ·simp[arG,Fo,eW a,eW b,c,e]
  by_cases d:12≤t
  ·by_cases g:t≤23
   ·simp[arG,Fo,eW a,eW b,c,e,d,g]
   simp[arG,Fo,eW a,eW b,c,e,d,g]
  simp[arG,Fo,eW a,eW b,c,e,d]
 have d:¬(12≤t):=by omega
 simp[arG,Fo,eW a,eW b,c,d]
def wQ(v:wy):Bool:=okV v&&v.k != 4
theorem I8(v:wy):bw I.qhm [v.a]=some (aC (wQ v)):=by
 rw[aS alQ rfl];have h:=R0 v;unfold wQ;obtain⟨k,n,u,s⟩:=v;simp only[VD]at *;cases hv:okV ⟨k,n,u,s⟩<;>rw[hv]at h<;>simp[atE,agh,h]
def C4:wy:=⟨0,0,0,[]⟩
def iq(n:EN):Bool:=if n.tag=1 then wQ n.v&&n.col==0 else if n.tag=2 then n.v==C4&&decide (0≤n.col)&&decide (n.col<16) else n.v==C4&&n.col==0
theorem aea(v:wy):eQ [0,0,0,2] [ap v.k,ap v.n,.int .u64 v.u,aO v.s] [ap 0,ap 0,.int .u64 0,aO []]=some (v==C4):=by
 obtain⟨k,n,u,s⟩:=v;unfold C4;by_cases a:k=0
 ·by_cases b:n=0
  ·by_cases c:u=0
   ·by_cases d:s=[]
    ·subst a b c d;simp
    have f:(s==[])=false:=by simp[d]
    have e:((⟨k,n,u,s⟩:wy) == ⟨0,0,0,[]⟩)=false:=by simp[d]
    rw[e];simp[a,b,c,f]
   have e:((⟨k,n,u,s⟩:wy) == ⟨0,0,0,[]⟩)=false:=by simp[c]
   rw[e];simp[a,b,eW c]
  have e:((⟨k,n,u,s⟩:wy) == ⟨0,0,0,[]⟩)=false:=by simp[b]
  rw[e];simp[a,eW b]
 have e:((⟨k,n,u,s⟩:wy) == ⟨0,0,0,[]⟩)=false:=by simp[a]
 rw[e];simp[eW a]
theorem EK(n:EN):bw I.qbx [n.a]=some (aC (iq n)):=by
 rw[aS an0 rfl];have d:=I8 n.v;have a:=aea n.v;unfold iq EN.a;unfold wy.a at d;by_cases b:n.tag=1
 ·cases hv:wQ n.v<;>rw[hv]at d<;>simp[ar8,Vg,b,d]
 by_cases c:n.tag=2
 ·cases hv:(n.v==C4)<;>rw[hv]at a<;>simp[ar8,Vg,c,a,-eQ];by_cases e:0≤n.col<;>simp[e]
 cases hv:(n.v==C4)<;>rw[hv]at a<;>simp[ar8,Vg,b,c,eW b,eW c,a,-eQ]
end Go.AM
namespace Go.AM
open P
set_option maxHeartbeats 64000000
set_option maxRecDepth 40000
instance:Nc EN.a 8 true:=⟨fun _=>rfl,fun _=>rfl⟩
instance:Fx EN.a:=⟨fun fl top base σ n y=>aeG y fl top base σ (n+1)⟩
structure lf where
 tag:Int
 b:Bool
 arg:List EN
def lf.a(a:lf):aq:=aH [ap a.tag,.aa a.b (a.arg.map EN.a)]
structure Al where
 b:Bool
 l:List EN
def Al.a(e:Al):aq:=aH [.aa e.b (e.l.map EN.a)]
structure cL where
 op:Int
 l:Int
 r:Int
 tab:Int
 bk:Bool
 ac:List Int
 left:Bool
 bc:Bool
 cond:List EN
 by':Bool
 keys:List Int
 bg:Bool
 ah:List lf
 bi:Bool
 items:List Al
 bo:Bool
 ords:List (Int×Bool)
 limit:Int
def cL.a(n:cL):aq:=aH [ap n.op,ap n.l,ap n.r,ap n.tab,.aa n.bk (n.ac.map (.int .i64)),aC n.left,.aa n.bc (n.cond.map EN.a),.aa n.by' (n.keys.map (.int .i64)),.aa n.bg (n.ah.map lf.a),.aa n.bi (n.items.map Al.a),.aa n.bo (n.ords.map im),ap n.limit]
instance:Nc lf.a 2 true:=⟨fun _=>rfl,fun _=>rfl⟩
instance:Ft lf.a:=⟨fun fl top base σ n y h=>by cases fl<;>cases top<;>simp[lf.a]at h ⊢⟩
instance:Nc Al.a 1 true:=⟨fun _=>rfl,fun _=>rfl⟩
instance:Ft Al.a:=⟨fun fl top base σ n y h=>by cases fl<;>cases top<;>simp[Al.a]at h ⊢⟩
instance:Nc im 2 true:=⟨fun _=>rfl,fun _=>rfl⟩
instance:Fx im:=⟨fun fl top base σ n y=>by simp[im]⟩
instance:Nc cL.a 12 true:=⟨fun _=>rfl,fun _=>rfl⟩
instance:Ft cL.a:=⟨fun fl top base σ n y h=>by cases fl<;>cases top<;>simp[cL.a]at h ⊢⟩
instance:Nc (iB.c (aq.int .i64)) 1 false:=⟨fun _=>rfl,fun _=>rfl⟩
instance:Ft (iB.c (aq.int .i64)):=⟨fun fl top base σ n y h=>by cases fl<;>cases top<;>simp at h ⊢⟩
end Go.AM
namespace Go.AM
open P
set_option maxHeartbeats 64000000
set_option maxRecDepth 40000
attribute [local simp] aG bj
def ahQ(op:Int):Int:=if op=1∨op=9 then 0 else if op=2∨op=7 then 2 else if op=3∨op=4∨op=5∨op=6∨op=8∨op=10∨op=11 then 1 else -1
def ig(n:cL):Bool:=
 (n.op==1 ||n.op==9 ||n.tab==0&&n.ac.length==0)&&(n.op==2 || !n.left)&&(n.op==2 ||n.op==3 ||n.cond.length==0) &&
 (n.op==4 ||n.op==10 ||n.op==11 ||(n.keys.length:Int)+n.ah.length==0)&&(n.op==5 ||n.items.length==0)&&(n.op==8 ||n.ords.length==0&&n.limit==0)
def Lt(t:Int):Bool:=t==4 ||decide (12≤t)&&decide (t≤15)
@[simp] theorem W0(t:Int):bw I.qbw [ap t]=some (aC (Lt t)):=by
 rw[aS anv rfl];unfold Lt;simp[atW,agw]
 repeat' (split<;>(try simp_all))
 all_goals omega
def adv(own k:Int):Int:=if k=0∨k=own then own else if own=0 then k else -1
def uw(ac:List Int)(n:EN)(l:List Int):Int×Int:=
 let own:=l.foldl adv 0
 if n.tag=1 then (n.v.k,0) else if n.tag=2 then (ac.getD n.col.toNat 0,0) else
 let want:=if Lt n.tag then 2 else if n.tag=5∨n.tag=22∨n.tag=23 then 1 else own
 if own=-1∨own≠0∧own≠want then (0,201) else (if Lt n.tag then 2 else 1,0)
theorem Sk(n:EN)(b:Bool)(l:List Int)(a:Bool)(ac:List Int)(e:l.length≤bC)(g:n.tag=2→0≤n.col∧n.col<ac.length) :
  bw I.qbr [n.a,.aa b (l.map (.int .i64)),.cptr true (.aa a (ac.map (.int .i64))) 0]=some (fb [ap (uw ac n l).1,ap (uw ac n l).2]):=by
 rw[aS akx rfl];have h:=fun x=>(gB (base:=1) (clr:=[7,13,14,15]) (b:=Gn) l
  (fun k (own:Int)=>⟨[n.a,.aa b (l.map (.int .i64)),.cptr true (.aa a (ac.map (.int .i64))) 0,aI 0 0 0 0,ap 0,ap 0,ap own,am,am,am,.aa b (l.map (.int .i64)),ap l.length,ap k,am,am,am,am,am,am,am,am],[aB 8 0 [n.a]]⟩)
  (fun _ _=>True) adv
  (fun own=>(.ext 0,⟨[n.a,.aa b (l.map (.int .i64)),.cptr true (.aa a (ac.map (.int .i64))) 0,aI 0 0 0 0,ap 0,ap 0,ap own,am,am,am,.aa b (l.map (.int .i64)),ap l.length,ap l.length,aC false,am,am,am,am,am,am,am],[aB 8 0 [n.a]]⟩))
  (fun k y own d f _=>by
   refine⟨?_,trivial⟩;have c:((k:Int)<(l.length:Int)):=by omega
   unfold adv;simp[Gn,c,f,cM]
   repeat' (split<;>(try simp_all[cW d e,cM])))
  (fun own _=>by simp[Gn]) 0 x).1
 have h:=h trivial;simp[EN.a]at h;unfold uw;simp[auC,agC,h,EN.a];generalize l.foldl adv 0=own
 repeat' (split<;>(try simp_all))
end Go.AM
namespace Go.AM
open P
set_option maxHeartbeats 8000000
set_option maxRecDepth 8000
def dS(l:List Nat):List aq:=l.map fun (n:Nat)=>ap (n:Int)
@[simp] theorem ab7(l:List Nat):(dS l).length=l.length:=by simp[dS]
@[simp] theorem ajU:dS []=[]:=rfl
theorem tQ{l:List Nat}{k:Nat}(h:k<l.length):(dS l)[k]?=some (ap (l[k]:Int)):=by simp[dS,h]
theorem xm{l:List Nat}{k:Nat}(h:k<(dS l).length):(dS l)[k]=ap ((l[k]'(by simpa using h):Nat):Int):=by simp[dS]
theorem ei(l m:List Nat):dS (l++m)=dS l++dS m:=by simp[dS]
@[simp] theorem ajG(n:Nat):dS [n]=[ap (n:Int)]:=rfl
@[simp] theorem ajK(n m:Nat):dS [n,m]=[ap (n:Int),ap (m:Int)]:=rfl
theorem sg(l:List Nat)(fl top:Bool)(base:Nat)(σ:aw)(m:Nat):(dS l).map (fz fl top base σ (m+1))=dS l:=by
 unfold dS;rw[bT];exact aT fun n _=>by simp
theorem oC(l:List Nat)(base:Nat)(σ:aw):(dS l).map (cr base σ)=dS l:=sg l false true base σ 19
def sJ(i:Nat)(n:EN)(all opn:List Nat):Option (List Nat×List Nat):=
 if dt n.tag<0∨opn.length<dt n.tag∨iq n=false then none else
 match opn.drop (opn.length-(dt n.tag).toNat) with
 |[]=>if n.l=-1∧n.r=-1 then some (all++[i],opn++[i]) else none
 |[p]=>if n.l=p∧n.r=-1 then some (all++[min i (all.getD p 0)],opn.take (opn.length-1)++[i]) else none
 |[p,q]=>if n.l=p∧n.r=q then some (all++[min (min i (all.getD p 0)) (all.getD q 0)],opn.take (opn.length-2)++[i]) else none
 |_=>none
abbrev iv(b:Bool)(e:List EN)(k:Nat)(all opn:List Nat):St:=
 ⟨[aH [.aa b (AA e)],aI 0 0 0 0,am,am,.sl 1 k 0 all.length,.sl 2 k 0 opn.length,am,am,am,am,am,am,am,am,.aa b (AA e),ap e.length,ap k,am,am,am,am,am,am,am],
  [aB 1 0 [aH [.aa b (AA e)]],aB 1 k (dS all),aB 1 k (dS opn)]⟩
theorem wA(t:Int):-1≤dt t∧dt t≤2:=by
 unfold dt
 repeat' split
 all_goals omega
theorem U0:IntKind.i64.wrap 1=1:=rfl
theorem agf:IntKind.i64.wrap 2=2:=rfl
theorem O2{b:Bool}{e:List EN}{k:Nat}{all a s t:List Nat}(Q:k<e.length)(r:e.length≤bC)(B:all.length=k)(U:∀p∈a,p<k)(j:a.length≤k)
  (h:sJ k e[k] all a=some (s,t)) :
  dg 3 [2,3,6,7,8,9,10,11,12,13,17,18,19,20,21,22,23] ju (run code ju (iv b e k all a)) =
   bU code 3 [2,3,6,7,8,9,10,11,12,13,17,18,19,20,21,22,23] ju (iv b e (k+1) s t):=by
 have m:=Px Q;have C:=BI e[k].tag;have l:=EK e[k];have v:((k:Int)<(e.length:Int)):=by omega
 unfold sJ at h;split at h
 ·cases h
 rename_i ab;have S:iq e[k]=true:=by cases hq:iq e[k]<;>simp_all
 rw[S]at l;have ae:¬(dt e[k].tag<0):=by omega
 have K:¬((a.length:Int)<dt e[k].tag):=by omega
 have af:=wA e[k].tag;have T:k+1≤bC:=by omega
 have n:dt e[k].tag=0∨dt e[k].tag=1∨dt e[k].tag=2:=by omega
 rcases n with J|J|J
 ·rw[J]at h C;simp at h;obtain⟨⟨D,E⟩,rfl,rfl⟩:=h;unfold EN.a at m l;rw[D,E]at m l;have O:(dS all).take k=dS all:=ay (by simp[B]);have P:(dS a).take a.length=dS a:=ay (by simp);have F:=sg all;have G:=sg a;have H:=oC all;have I:=oC a;have i:¬((a.length:Int)<0):=by omega
  have N:IntKind.i64.wrap (a.length:Int)=a.length:=jC (by unfold bC at r;omega);have f:a.length+1≤bC:=by omega
  simp[iv,ju,m,v,C,l,B,O,P,F,G,H,I,i,N,append,ei,T,f,cW Q r,bR,bA,lK 5,lK 6,xz]
 ·rw[J]at h C K;have d:1≤a.length:=by omega
  obtain⟨o,p,rfl⟩:∃o p,a=o++[p]:=⟨a.dropLast,a.getLast (by intro e;subst e;simp at d),(dQ _).symm⟩;simp at h;obtain⟨⟨D,E⟩,rfl,rfl⟩:=h;have x:p<k:=U p (by simp);unfold EN.a at m l;rw[D,E]at m l;have c:p<all.length:=by omega
  have X:=tQ c;have O:(dS all).take k=dS all:=ay (by simp[B]);have P:(dS (o++[p])).take o.length=dS o:=by rw[ei,fY (by simp)]
  have Y:(dS (o++[p]))[o.length]?=some (ap (p:Int)):=by rw[ei,bE (by simp)];simp
  have F:=sg all;have G:=sg o;have H:=oC all;have I:=oC o;have Z:(o++[p]).length=o.length+1:=by simp
  have i:¬((o.length:Int)+1<1):=by omega
  have N:IntKind.i64.wrap ((o.length:Int)+1-1)=o.length:=by rw[jC (by simp at j;unfold bC at r;omega)];omega
  have A:IntKind.i64.wrap (o.length:Int)=o.length:=by rw[jC (by simp at j;unfold bC at r;omega)]
  have f:o.length+1≤bC:=by simp at j;omega
  simp at j;have hd:all[p]?.getD 0=all[p]:=by simp[c]
  have g:(if all[p]<k then (all[p]:Int) else (k:Int))=((min k all[p]:Nat):Int):=by split<;>omega
  simp[iv,ju,m,v,C,l,B,O,P,Y,F,G,H,I,i,N,A,append,ei,T,f,cW Q r,bR,bA,lK 5,xz,X,x,c,xm,g,U0]
 rw[J]at h C K;have d:2≤a.length:=by omega
 obtain⟨o',q,rfl⟩:∃o p,a=o++[p]:=⟨a.dropLast,a.getLast (by intro e;subst e;simp at d),(dQ _).symm⟩;have M:1≤o'.length:=by simp at d;omega
 obtain⟨o,p,rfl⟩:∃o p,o'=o++[p]:=⟨o'.dropLast,o'.getLast (by intro e;subst e;simp at M),(dQ _).symm⟩;have u:(o++[p]++[q]).drop ((o++[p]++[q]).length-(2:Int).toNat)=[p,q]:=by
  simp
 have z:(o++[p]++[q]).take ((o++[p]++[q]).length-2)=o:=by
  rw[dv,fY (by simp)]
 rw[u]at h;simp only[z]at h;split at h
 ·rename_i R;obtain⟨D,E⟩:=R;simp only[aK,dX]at h;obtain⟨rfl,rfl⟩:=h;have x:p<k:=U p (by simp);have V:q<k:=U q (by simp);unfold EN.a at m l;rw[D,E]at m l;have c:p<all.length:=by omega
  have y:q<all.length:=by omega
  have X:=tQ c;have q2:=tQ y;have O:(dS all).take k=dS all:=ay (by simp[B]);have hN:dS (o++[p]++[q])=dS o++([ap (p:Int),ap (q:Int)]:List aq):=by simp[ei]
  have P:(dS o++([ap (p:Int),ap (q:Int)]:List aq)).take o.length=dS o:=by rw[fY (by simp)]
  have Y:(dS o++([ap (p:Int),ap (q:Int)]:List aq))[o.length]?=some (ap (p:Int)):=by rw[bE (by simp)];simp
  have t4:(dS o++([ap (p:Int),ap (q:Int)]:List aq))[o.length+1]?=some (ap (q:Int)):=by rw[bE (by simp)];simp
  have F:=sg all;have G:=sg o;have H:=oC all;have I:=oC o;simp at j;have i:¬((o.length:Int)+1+1<2):=by omega
  have L:¬((o.length:Int)+2<2):=by omega
  have N:IntKind.i64.wrap ((o.length:Int)+1+1-2)=o.length:=by rw[jC (by unfold bC at r;omega)];omega
  have W:IntKind.i64.wrap ((o.length:Int)+2-2)=o.length:=by rw[jC (by unfold bC at r;omega)];omega
  have A:IntKind.i64.wrap (o.length:Int)=o.length:=by rw[jC (by unfold bC at r;omega)]
  have f:o.length+1≤bC:=by omega
  have hd:all[p]?.getD 0=all[p]:=by simp[c]
  have ad:all[q]?.getD 0=all[q]:=by simp[y]
  have g:(if all[p]<k then (all[p]:Int) else (k:Int))=((min k all[p]:Nat):Int):=by split<;>omega
  have w:(if all[q]<min k all[p] then (all[q]:Int) else ((min k all[p]:Nat):Int))=((min (min k all[p]) all[q]:Nat):Int):=by split<;>omega
  unfold iv;rw[hN];simp[ju,m,v,C,l,B,O,P,Y,t4,F,G,H,I,i,L,N,W,A,append,ei,T,f,cW Q r,bR,bA,lK 5,xz,X,q2,x,c,V,y,xm,g,w,U0,agf]
 cases h
end Go.AM
namespace Go.AM
open P
set_option maxHeartbeats 8000000
set_option maxRecDepth 8000
abbrev zG:List Nat:=[2,3,6,7,8,9,10,11,12,13,17,18,19,20,21,22,23]
def PE(r:Option (Ex×St)):Prop:=∃s,r=some (.ret,s)∧pt s.env 2=.ai∧pt s.env 3=aC false
theorem Se{k:Nat}{n:EN}{all c:List Nat}(h:sJ k n all c=none) :
  (dt n.tag<0∨c.length<dt n.tag∨iq n=false) ∨
  ((0≤dt n.tag∧dt n.tag≤c.length∧iq n=true) ∧
   ((dt n.tag=0∧¬(n.l=-1∧n.r=-1))∨(∃(o:List Nat) (p:Nat),dt n.tag=1∧c=o++[p]∧¬(n.l=(p:Int)∧n.r=-1))∨(∃(o:List Nat) (p q:Nat),dt n.tag=2∧c=o++[p,q]∧¬(n.l=(p:Int)∧n.r=(q:Int))))):=by
 unfold sJ at h;split at h
 ·exact .inl (by assumption)
 rename_i l;have m:iq n=true:=by cases hq:iq n<;>simp_all
 have r:=wA n.tag;refine .inr ⟨⟨by omega,by omega,m⟩,?_⟩;rcases (show dt n.tag=0∨dt n.tag=1∨dt n.tag=2 by omega) with f|f|f
 ·rw[f]at h;simp at h;exact .inl ⟨f,fun ⟨a,b⟩=>h a b⟩
 ·rw[f]at h;have d:1≤c.length:=by omega
  obtain⟨o,p,rfl⟩:∃o p,c=o++[p]:=⟨c.dropLast,c.getLast (by intro e;subst e;simp at d),(dQ _).symm⟩;simp at h;exact .inr (.inl ⟨o,p,f,rfl,fun ⟨a,b⟩=>h a b⟩)
 rw[f]at h;have d:2≤c.length:=by omega
 obtain⟨o',q,rfl⟩:∃o p,c=o++[p]:=⟨c.dropLast,c.getLast (by intro e;subst e;simp at d),(dQ _).symm⟩;have i:1≤o'.length:=by simp at d;omega
 obtain⟨o,p,rfl⟩:∃o p,o'=o++[p]:=⟨o'.dropLast,o'.getLast (by intro e;subst e;simp at i),(dQ _).symm⟩;have g:(o++[p]++[q]).drop ((o++[p]++[q]).length-(2:Int).toNat)=[p,q]:=by simp
 rw[g]at h;simp only at h;split at h
 ·cases h
 rename_i j;exact .inr (.inr ⟨o,p,q,f,by simp,j⟩)
theorem aiS{a b c d:Int}(h:¬(c=a∧d=b)):eqa true [0,0] (aH [ap a,ap b]) (aH [ap c,ap d])=some (aC true):=by
 by_cases f:c=a
 ·have g:¬b=d:=fun e=>h ⟨f,e.symm⟩;simp[f,eW g]
 have g:¬a=c:=fun e=>f e.symm;simp[eW g]
theorem Pa{b:Bool}{e:List EN}{k:Nat}{all a:List Nat}(K:k<e.length)(u:e.length≤bC)(F:all.length=k)(z:∀p∈a,p<k)(v:a.length≤k)
  (h:sJ k e[k] all a=none):PE (dg 3 zG ju (run code ju (iv b e k all a))):=by
 have m:=Px K;have l:=BI e[k].tag;have n:=EK e[k];have c:((k:Int)<(e.length:Int)):=by omega
 rcases Se h with H|⟨⟨t,N,G⟩,I⟩
 ·unfold EN.a at m n;by_cases d:dt e[k].tag<0
  ·exact⟨_,by simp[iv,ju,m,c,l,d];rfl,rfl,rfl⟩
  by_cases j:(a.length:Int)<dt e[k].tag
  ·exact⟨_,by simp[iv,ju,m,c,l,d,j];rfl,rfl,rfl⟩
  have y:iq e[k]=false:=H.elim (fun h=>absurd h d) fun h=>h.elim (fun h=>absurd h j) id;rw[y]at n;exact⟨_,by simp[iv,ju,m,c,l,d,j,n];rfl,rfl,rfl⟩
 have d:¬(dt e[k].tag<0):=by omega
 have j:¬((a.length:Int)<dt e[k].tag):=by omega
 rw[G]at n;unfold EN.a at m n;have C:IntKind.i64.wrap (a.length:Int)=a.length:=by rw[jC (by unfold bC at u;omega)]
 rcases I with⟨t,f⟩|⟨o,p,t,rfl,f⟩|⟨o,p,q,t,rfl,f⟩
 ·rw[t]at l;have x:=aiS f;have g:¬((a.length:Int)<0):=by omega
  exact⟨_,by simp[iv,ju,m,c,l,g,n,C,lK 5,lK 6,xz,-eqa,x];rfl,rfl,rfl⟩
 ·rw[t]at l;have x:=aiS f;have r:p<k:=z p (by simp);have i:p<all.length:=by omega
  have D:=tQ i;simp at v;have E:(dS (o++[p]))[o.length]?=some (ap (p:Int)):=by rw[ei,bE (by simp)];simp
  have g:¬((o.length:Int)+1<1):=by omega
  have B:IntKind.i64.wrap ((o.length:Int)+1-1)=o.length:=by rw[jC (by unfold bC at u;omega)];omega
  have s:IntKind.i64.wrap (o.length:Int)=o.length:=by rw[jC (by unfold bC at u;omega)]
  exact⟨_,by simp[iv,ju,m,c,l,g,n,B,s,F,E,D,r,i,xm,ei,bR,bA,lK 5,xz,U0,-eqa,x];rfl,rfl,rfl⟩
 rw[t]at l;have x:=aiS f;have r:p<k:=z p (by simp);have A:q<k:=z q (by simp);have i:p<all.length:=by omega
 have w:q<all.length:=by omega
 have D:=tQ i;have L:=tQ w;simp at v;have J:dS (o++[p,q])=dS o++([ap (p:Int),ap (q:Int)]:List aq):=by simp[ei]
 have E:(dS o++([ap (p:Int),ap (q:Int)]:List aq))[o.length]?=some (ap (p:Int)):=by rw[bE (by simp)];simp
 have M:(dS o++([ap (p:Int),ap (q:Int)]:List aq))[o.length+1]?=some (ap (q:Int)):=by rw[bE (by simp)];simp
 have g:¬((o.length:Int)+2<2):=by omega
 have B:IntKind.i64.wrap ((o.length:Int)+2-2)=o.length:=by rw[jC (by unfold bC at u;omega)];omega
 have s:IntKind.i64.wrap (o.length:Int)=o.length:=by rw[jC (by unfold bC at u;omega)]
 unfold iv;rw[J];exact⟨_,by simp[ju,m,c,l,g,n,B,s,F,E,M,D,L,r,i,A,w,xm,ei,bR,bA,lK 5,xz,U0,agf,-eqa,x];rfl,rfl,rfl⟩
def ir:List EN→Nat→List Nat→List Nat→Option (List Nat×List Nat)
 |[],_,all,opn=>some (all,opn)
 |n::r,i,all,opn=>(sJ i n all opn).bind fun q=>ir r (i+1) q.1 q.2
theorem VE{k:Nat}{n:EN}{all d c b:List Nat}(e:all.length=k)(f:∀p∈d,p<k)(g:d.length≤k)(h:sJ k n all d=some (c,b)) :
  c.length=k+1∧(∀p∈b,p<k+1)∧b.length≤k+1:=by
 unfold sJ at h;split at h
 ·cases h
 split at h
 ·split at h
  ·cases h
   exact⟨by simp[e],fun p a=>by
    rcases aY.1 a with a|a
    ·have:=f p a;omega
    simp at a;omega,by simp;omega⟩
  cases h
 ·split at h
  ·cases h
   exact⟨by simp[e],fun p a=>by
    rcases aY.1 a with a|a
    ·have:=f p (cJ a);omega
    simp at a;omega,by simp;omega⟩
  cases h
 ·split at h
  ·cases h
   exact⟨by simp[e],fun p a=>by
    rcases aY.1 a with a|a
    ·have:=f p (cJ a);omega
    simp at a;omega,by simp;omega⟩
  cases h
 cases h
theorem Fg{b:Bool}{e:List EN}(l:e.length≤bC):∀(m k:Nat) (all a:List Nat),k+m=e.length→all.length=k→(∀p∈a,p<k)→a.length≤k →
  (match ir (e.drop k) k all a with
   |none=>PE (bU code 3 zG ju (iv b e k all a))
   |some (c,d)=>c.length=e.length∧∃x,bU code 3 zG ju (iv b e k all a) =
     some (.ext 0,⟨[aH [.aa b (AA e)],aI 0 0 0 0,am,am,.sl 1 e.length 0 c.length,.sl 2 e.length 0 d.length,am,am,am,am,am,am,am,am,.aa b (AA e),ap e.length,ap e.length,x,am,am,am,am,am,am],
      [aB 1 0 [aH [.aa b (AA e)]],aB 1 e.length (dS c),aB 1 e.length (dS d)]⟩))
 |0,k,all,a,j,h,i,f=>by
  have j:k=e.length:=by omega
  subst j;rw[List.drop_length];simp only[ir];refine⟨h,aC false,?_⟩;rw[lK];simp[iv,ju]
 |m+1,k,all,a,j,h,i,f=>by
  have g:k<e.length:=by omega
  rw[dx g];simp only[ir];cases hs:sJ k e[k] all a with
  |none=>
   simp only[Option.bind_none];rw[lK];exact Pa g l h i f hs
  |some q=>
   obtain⟨c,d⟩:=q;simp only[cG];obtain⟨o,r,s⟩:=VE h i f hs;have t:=Fg (b:=b) l m (k+1) c d (by omega) o r s;have n:=O2 (b:=b) g l h i f hs;rw[lK 3 zG ju (iv b e k all a),n];exact t
theorem DH(l:List Nat)(fl top:Bool)(base:Nat)(σ:aw)(n:Nat):∀a,a∈dS l→aM (fz fl top base σ (n+1) a)=aM a:=fun a b=>by
 obtain⟨k,_,rfl⟩:=bM.1 b;simp
def wa(e:List EN):Bool:=match ir e 0 [] [] with
 |none=>false
 |some (all,opn)=>opn.length==1&&decide (all.length≤1000)
theorem N7(b:Bool)(e:List EN)(n:e.length≤bC):∃x,bw I.qby [JJ b e]=some (fb [x,aC (wa e)])∧(wa e=true→∃all,ir e 0 [] []=some all∧x=.aa false (dS all.1)):=by
 rw[aS aj1 rfl];have h:=Fg (b:=b) n e.length 0 [] [] (by omega) rfl (by simp) (by simp);rw[mV]at h;unfold wa JJ;cases hf:ir e 0 [] [] with
 |none=>
  rw[hf]at h;obtain⟨s,a,l,m⟩:=h;refine⟨.aa false [],?_,fun h=>by cases h⟩;unfold iv at a;simp at a;have d:s.env[2]?.getD am=.ai:=l;have f:s.env[3]?.getD am=aC false:=m;simp[ar9,U2,a,d,f]
 |some q=>
  rw[hf]at h;obtain⟨all,c⟩:=q;obtain⟨o,x,a⟩:=h;refine⟨.aa false (dS all),?_,fun _=>⟨_,rfl,rfl⟩⟩;unfold iv at a;simp at a;have k:(dS all).take all.length=dS all:=ay (by simp);have i:=sg all;by_cases j:c.length=1
  ·simp[ar9,U2,a,j,k,i];exact⟨DH all _ _ _ _ _,by omega⟩
  have g:¬((c.length:Int)=1):=by omega
  simp[ar9,U2,a,j,eW g,k,i];exact DH all _ _ _ _ _
theorem aci(e:List EN)(fl top:Bool)(base:Nat)(σ:aw)(n:Nat):(AA e).map (fz fl top base σ (n+2))=AA e:=by
 unfold AA;rw[bT];exact aT fun v _=>aeG v fl top base σ n
theorem zf(b:Bool)(e:List EN)(c:e.length≤bC):bw I.qbo [JJ b e]=some (ap (if wa e then 0 else 200)):=by
 rw[aS amn rfl];obtain⟨x,h,_⟩:=N7 b e c;have d:∀a,a=b∨a=true→True:=fun _ _=>trivial;unfold JJ at *;cases ho:wa e<;>rw[ho]at h<;>simp[auA,aeH,h]
end Go.AM
namespace Go.AM
open P
set_option maxHeartbeats 64000000
set_option maxRecDepth 40000
attribute [local simp] aG bj
def Ju(x:Int):List Int→List Int
 |[]=>[x]
 |y::r=>if x≤y then x::y::r else y::Ju x r
def rP:List Int→List Int
 |[]=>[]
 |x::r=>Ju x (rP r)
theorem Pf(x z:Int):∀l:List Int,z∈Ju x l↔z=x∨z∈l
 |[]=>by simp[Ju]
 |y::r=>by
  unfold Ju;split
  ·simp
  simp[Pf x z r];constructor<;>rintro (h|h|h)<;>simp[h]
theorem Em(z:Int):∀l:List Int,z∈rP l↔z∈l
 |[]=>by simp[rP]
 |x::r=>by simp[rP,Pf,Em z r]
theorem OG(x:Int):∀l:List Int,(Ju x l).length=l.length+1
 |[]=>rfl
 |y::r=>by
  unfold Ju;split<;>simp[OG x r]
theorem zX:∀l:List Int,(rP l).length=l.length
 |[]=>rfl
 |x::r=>by simp[rP,OG,zX r]
theorem UN(x:Int):∀l:List Int,lP rQ (ap x) (l.map (.int .i64))=(Ju x l).map (.int .i64)
 |[]=>rfl
 |y::r=>by
  by_cases h:x≤y
  ·simp[lP,Ju,rQ,h]
  simp[lP,Ju,rQ,h,UN x r]
theorem OK:∀l:List Int,nF rQ (l.map (.int .i64))=(rP l).map (.int .i64)
 |[]=>rfl
 |x::r=>by simp only[aW,nF,OK r,UN];rfl
theorem J5:∀l:List Int,NV (l.map (.int .i64))=some l
 |[]=>rfl
 |x::r=>by simp[NV,J5 r]
theorem V8{σ:aw}{id ep:Nat}{l:List Int}(a:σ[id]?=some (aB 1 ep (cT l)))(d:l.length≤bC) :
  cC code I.slices_Sort_int_int [.sl id ep 0 l.length] σ=some (am,σ.set id (aB 1 ep (cT (rP l)))):=by
 refine xC good (k:=2) (n:=0) yd ?_;have e:code.prims=prims:=rfl;rw[e];have b:((cT l).drop 0).take l.length=cT l:=by simp
 have c:(cT l).drop l.length=[]:=by simp
 simp only[prims,zo,a,b,c,cD,J5,OK];rw[if_pos (by simp[d])];simp
def sL(e:List EN):List Int:=e.flatMap fun n=>if n.tag=2 then [n.col] else []
theorem OI(e:List EN):(sL e).length≤e.length:=by
 induction e with
 |nil=>exact aF _
 |cons n e a=>
  unfold sL at *;simp only[fX,cn,bB];split<;>simp only[bB,bD]<;>omega
def nI(e:List EN):List Int:=eB (rP (sL e))
theorem WQ(b:Bool)(e:List EN)(d:e.length≤bC)(y:wa e=true):bw I.qbp [aH [.aa b (e.map EN.a)]]=some (.aa false (cT (nI e))):=by
 rw[aS alI rfl];have f:=fun b=>zf b e d;rw[y]at f;simp only[JJ,AA]at f;have r:(sL e).length≤bC:=bH (OI e) d;obtain⟨ep,h⟩:=Q0 (base:=2) (clr:=[4,9,10]) (b:=Df) e
  (fun k ep (a:List Int)=>⟨[aH [.aa b (e.map EN.a)],aI 0 0 0 0,.ai,.sl 1 ep 0 a.length,am,aC false,.aa b (e.map EN.a),ap e.length,ap k,am,am],[aB 1 0 [aH [.aa b (e.map EN.a)]],aB 1 ep (cT a)]⟩)
  (fun n=>if n.tag=2 then [n.col] else [])
  (fun ep a=>(.ext 0,⟨[aH [.aa b (e.map EN.a)],aI 0 0 0 0,.ai,.sl 1 ep 0 a.length,am,aC false,.aa b (e.map EN.a),ap e.length,ap e.length,aC false,am],[aB 1 0 [aH [.aa b (e.map EN.a)]],aB 1 ep (cT a)]⟩)) 1
  (fun n _=>by split<;>simp)
  (fun k n ep a q t C=>by
   have o:((k:Int)<(e.length:Int)):=by omega
   have v:a.length+1≤bC:=by omega
   by_cases j:n.tag=2
   ·exact⟨ep+1,by simp[Df,o,t,EN.a,j,append,v,cW q d,bR,bA]⟩
   exact⟨ep,by simp[Df,o,t,EN.a,j,eW j,cW q d,bR,bA]⟩)
  (fun ep a _=>by simp[Df]) 0
 have z:=fun m:Obj=>V8 (σ:=[m,aB 1 ep (cT (sL e))]) (id:=1) (ep:=ep) rfl r;obtain⟨A,p,B,u⟩:=K3 (σ:=[aB 1 0 [aH [.aa b (e.map EN.a)]],aB 1 ep (cT (rP (sL e)))]) (id:=1) (ep:=ep) (l:=rP (sL e)) rfl (by rw[zX];exact r);simp only[cT,bm,bD,show ((0:Nat):Int)=0 from rfl]at h;rw[zX]at p;unfold nI;have x:=zp (rP (sL e));have g:(e.flatMap fun n=>if n.tag=2 then [n.col] else [])=sL e:=rfl;rw[g]at h;have w:(cT A).take (eB (rP (sL e))).length=cT (eB (rP (sL e))):=by
  unfold cT;rw[←List.map_take,u]
 generalize eB (rP (sL e))=c at *;generalize rP (sL e)=s at *;generalize sL e=cs at *;have i:c.length≤A.length:=by omega
 simp[att,aez,f,h,z,p,w,i]
end Go.AM
