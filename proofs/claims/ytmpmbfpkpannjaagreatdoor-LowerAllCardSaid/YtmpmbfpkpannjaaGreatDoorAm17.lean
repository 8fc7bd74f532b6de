/- Part of the proof. -/
import Derived.Test.YtmpmbfpkpannjaaGreatDoorAm15
import Derived.Test.YtmpmbfpkpannjaaGreatDoorCards
set_option linter.unusedVariables false
set_option linter.unusedSimpArgs false
set_option linter.unusedSectionVars false
namespace Go.Proofs
open Go.Shelf Go.Lib
theorem Jp{P:Program}{w:World}{dE:Nat}{t:TypeId}{cs:List Value}{ms:Array (String×TypeId)}{nm:String}{d:DataW Unit}{p:List MemPlace}(ht:P.underlying t=some (.interface ms))(h:DataW.trod (fun _=>()) P w 0 (fun _=>true) false dE t cs=some (.iface nm d,p)):∃te pe,cs=[.iface te pe]:=by
 cases dE with
 |zero=>simp[DataW.trod]at h
 |succ n=>
  unfold DataW.trod at h;rw[ht]at h
  match cs,h with
  |[.iface u v],_=>exact⟨u,v,rfl⟩
  |[.nilIface],h=>simp at h
theorem Tryz.caseX:CaseExtra Tryz.prog Tryz.upR:={ n13:=by kernel_rfl,y13:=by kernel_rfl,c21:=by kernel_rfl,c51:=by kernel_rfl,c206:=by kernel_rfl,c208:=by kernel_rfl }
theorem Tryz.u8X:U8Extra Tryz.prog Tryz.upR:={ n3:=by kernel_rfl,n4:=by kernel_rfl,y3:=by kernel_rfl,y4:=by kernel_rfl,c5:=by kernel_rfl,c119:=by kernel_rfl,c138:=by kernel_rfl }
theorem Tryz.case_eq:YtmpmbfpkpannjaaGreatDoor.Rows.laid_unicode_CaseRanges=caseData:=by kernel_rfl
theorem Tryz.first_eq:YtmpmbfpkpannjaaGreatDoor.Rows.laid_unicode_utf8_first=firstData:=by kernel_rfl
theorem Tryz.acc_eq:YtmpmbfpkpannjaaGreatDoor.Rows.laid_unicode_utf8_acceptRanges=acceptData:=by kernel_rfl
theorem Tryz.tabs_laid(W:World)(h:laidMet Tryz.prog YtmpmbfpkpannjaaGreatDoor.Rows.lowerAllRow.laid W)(g13 g3 g4 gE:Nat)(n1:Tryz.prog.globalNamed "unicode.CaseRanges" = some g13)(n2:Tryz.prog.globalNamed "unicode/utf8.first" = some g3)(n3:Tryz.prog.globalNamed "unicode/utf8.acceptRanges" = some g4)(n4:Tryz.prog.globalNamed "strconv.ErrRange" = some gE):CaseVar g13 caseA W∧Utf8Tabs g3 g4 W∧∃ te pe,W.cell? ⟨gE,0,none⟩=some (.iface te pe):=by
 have e1:Tryz.prog.globalNamed "unicode.CaseRanges" = some 3:=by kernel_rfl
 have e2:Tryz.prog.globalNamed "unicode/utf8.first" = some 5:=by kernel_rfl
 have e3:Tryz.prog.globalNamed "unicode/utf8.acceptRanges" = some 6:=by kernel_rfl
 cases Option.some.inj (e1.symm.trans n1);cases Option.some.inj (e2.symm.trans n2);cases Option.some.inj (e3.symm.trans n3);have r1:=laidMet.reads (n:="unicode.CaseRanges") (d:=YtmpmbfpkpannjaaGreatDoor.Rows.laid_unicode_CaseRanges) h (by simp[YtmpmbfpkpannjaaGreatDoor.Rows.lowerAllRow]);have r2:=laidMet.reads (n:="unicode/utf8.first") (d:=YtmpmbfpkpannjaaGreatDoor.Rows.laid_unicode_utf8_first) h (by simp[YtmpmbfpkpannjaaGreatDoor.Rows.lowerAllRow]);have r3:=laidMet.reads (n:="unicode/utf8.acceptRanges") (d:=YtmpmbfpkpannjaaGreatDoor.Rows.laid_unicode_utf8_acceptRanges) h (by simp[YtmpmbfpkpannjaaGreatDoor.Rows.lowerAllRow]);have herr:∃te pe,W.cell? ⟨gE,0,none⟩=some (.iface te pe):=by
  obtain⟨ps,hv,_⟩:=h;obtain⟨g,t,cs,dE,p,k1,k2,k3,k4⟩:=Go.AM.laid_mem hv "strconv.ErrRange" YtmpmbfpkpannjaaGreatDoor.Rows.laid_strconv_ErrRange (by simp[YtmpmbfpkpannjaaGreatDoor.Rows.lowerAllRow]);obtain rfl:=Option.some.inj (n4.symm.trans k1);have e4:Tryz.prog.globalNamed "strconv.ErrRange" = some 8:=by kernel_rfl
  cases Option.some.inj (e4.symm.trans n4);have et:(Tryz.prog.globals[8]?).map (·.type)=some 271:=by kernel_rfl
  cases Option.some.inj (et.symm.trans k2);obtain⟨te,pe,hc⟩:=Jp Tryz.underlying271 k4;refine⟨te,pe,?_⟩;rw[World.var?_cell e4 k3 0,←Array.getElem?_toList,hc];rfl
 rw[Tryz.case_eq]at r1;rw[Tryz.first_eq]at r2;rw[Tryz.acc_eq]at r3;exact⟨caseVar_of_reads Tryz.lays274 Tryz.underlying374 Tryz.caseX r1,utf8Tabs_of_reads Tryz.lays260 Tryz.u8X r2 r3,herr⟩
end Go.Proofs
namespace Go.AM
section
variable {P:Code}
theorem amF(env ls:List aq)(σ:aw)(x:db):step P env ls σ (.mov x)=(some (x.eval env ls,σ)):=by
 unfold step;simp only[bH];exact bG _
theorem ah6(env ls:List aq)(σ:aw)(c:db)(a:db)(b:db):step P env ls σ (.pick c a b)=((TM (a.eval env ls) (b.eval env ls) (c.eval env ls)).map (·,σ)):=by
 unfold step;simp only[bH];exact bG _
theorem anT(env ls:List aq)(σ:aw)(k:Nat)(x:db):step P env ls σ (.box k x)=(let v:=x.eval env ls;if aM v=k then some (.ptr σ.length 0 0 0,σ++[.arr k 0 [v]]) else none):=by
 unfold step;simp only[bH];exact bG _
theorem aek(env ls:List aq)(σ:aw)(zero:List aq)(a:List (Nat×Nat×db)):step P env ls σ (.build zero a)=((fill zero (a.map fun p=>(p.1,p.2.1,p.2.2.eval env ls))).map fun cs=>(.agg cs,σ)):=by
 unfold step;simp only[bH];exact bG _
theorem adx(env ls:List aq)(σ:aw)(k:Nat):step P env ls σ (.mknil k)=(some (.sl σ.length 0 0 0,σ++[.arr k 0 []])):=by
 unfold step;simp only[bH];exact bG _
theorem anf(env ls:List aq)(σ:aw)(k:Nat)(xs:List db):step P env ls σ (.mkl k xs)=(let vs:=xs.map (·.eval env ls);if vs.all (fun v=>aM v==k) then some (.lst vs,σ) else none):=by
 unfold step;simp only[bH];exact bG _
theorem aih(env ls:List aq)(σ:aw)(k:Nat)(xs:List db):step P env ls σ (.mksl k xs)=(let vs:=xs.map (·.eval env ls)
  if vs=[] then some (.ai,σ) else
  if vs.all (fun v=>aM v==k) then some (.sl σ.length 0 0 vs.length,σ++[.arr k 0 vs]) else none):=by
 unfold step;simp only[bH];exact bG _
theorem ab5(env ls:List aq)(σ:aw)(k:Nat)(zero:aq)(n:Nat)(a:List (Nat×db)):step P env ls σ (.mkslz k zero n a)=(let vs:=MI (List.replicate n zero) (a.map fun p=>(p.1,p.2.eval env ls))
  if vs.all (fun v=>aM v==k) then some (.sl σ.length 0 0 n,σ++[.arr k 0 vs]) else none):=by
 unfold step;simp only[bH];exact bG _
theorem aiP(env ls:List aq)(σ:aw)(k:Nat)(zero:aq)(n:db)(c:db):step P env ls σ (.make k zero n c)=((rf (n.eval env ls)).bind fun m=>(rf (c.eval env ls)).bind fun d=>
   if m=d∧aM zero=k∧m≤bC then some (.sl σ.length 0 0 m,σ++[.arr k 0 (List.replicate m zero)]) else none):=by
 unfold step;simp only[bH];exact bG _
theorem ait(env ls:List aq)(σ:aw)(a:Bool)(s:Nat)(x:db):step P env ls σ (.load a s x)=((loadAt a s (x.eval env ls) σ).map (·,σ)):=by
 unfold step;simp only[bH];exact bG _
theorem adU(env ls:List aq)(σ:aw)(s:Nat)(x:db)(v:db):step P env ls σ (.store s x v)=((storeAt s (x.eval env ls) (v.eval env ls) σ).map (.any,·)):=by
 unfold step;simp only[bH];exact bG _
theorem aoj(env ls:List aq)(σ:aw)(off:Nat)(x:db):step P env ls σ (.fld off x)=((JA σ off (x.eval env ls)).map (·,σ)):=by
 unfold step;simp only[bH];exact bG _
theorem aiQ(env ls:List aq)(σ:aw)(a:Bool)(s:Nat)(off:Nat)(x:db):step P env ls σ (.fldv a s off x)=((Ht a s off (x.eval env ls)).map (·,σ)):=by
 unfold step;simp only[bH];exact bG _
theorem ail(env ls:List aq)(σ:aw)(k:Nat)(x:db)(i:db):step P env ls σ (.idxs k x i)=((rf (i.eval env ls)).bind fun n=>(CH σ k n (x.eval env ls)).map (·,σ)):=by
 unfold step;simp only[bH];exact bG _
theorem ai9(env ls:List aq)(σ:aw)(m:Nat)(s:Nat)(x:db)(i:db):step P env ls σ (.idxa m s x i)=((rf (i.eval env ls)).bind fun n=>if n<m then (JA σ (n*s) (x.eval env ls)).map (·,σ) else none):=by
 unfold step;simp only[bH];exact bG _
theorem ah1(env ls:List aq)(σ:aw)(a:Bool)(m:Nat)(s:Nat)(x:db)(i:db):step P env ls σ (.idxv a m s x i)=((rf (i.eval env ls)).bind fun n=>if n<m then (Ht a s (n*s) (x.eval env ls)).map (·,σ) else none):=by
 unfold step;simp only[bH];exact bG _
theorem ahz(env ls:List aq)(σ:aw)(x:db)(i:db):step P env ls σ (.idxt x i)=((rf (i.eval env ls)).bind fun n=>(NP n (x.eval env ls)).map (·,σ)):=by
 unfold step;simp only[bH];exact bG _
theorem aoq(env ls:List aq)(σ:aw)(op:BinOp)(x:db)(y:db):step P env ls σ (.bin op x y)=((bin op (x.eval env ls) (y.eval env ls)).map (·,σ)):=by
 unfold step;simp only[bH];exact bG _
theorem alI(env ls:List aq)(σ:aw)(n:Bool)(x:db)(y:db):step P env ls σ (.eqb n x y)=((eqb n (x.eval env ls) (y.eval env ls)).map (·,σ)):=by
 unfold step;simp only[bH];exact bG _
theorem amI(env ls:List aq)(σ:aw)(n:Bool)(ks:List Nat)(x:db)(y:db):step P env ls σ (.eqa n ks x y)=((eqa n ks (x.eval env ls) (y.eval env ls)).map (·,σ)):=by
 unfold step;simp only[bH];exact bG _
theorem aie(env ls:List aq)(σ:aw)(n:Bool)(x:db):step P env ls σ (.nils n x)=((uN n σ (x.eval env ls)).map (·,σ)):=by
 unfold step;simp only[bH];exact bG _
theorem amC(env ls:List aq)(σ:aw)(op:UnOp)(x:db):step P env ls σ (.una op x)=((una op (x.eval env ls)).map (·,σ)):=by
 unfold step;simp only[bH];exact bG _
theorem ajb(env ls:List aq)(σ:aw)(k:IntKind)(x:db):step P env ls σ (.conv k x)=((SY k (x.eval env ls)).map (·,σ)):=by
 unfold step;simp only[bH];exact bG _
theorem acu(env ls:List aq)(σ:aw)(k:Nat)(x:db)(lo:Option db)(hi:Option db):step P env ls σ (.slice k x lo hi)=(let v:=x.eval env ls
  (tI σ v).bind fun n=>(opt env ls 0 lo).bind fun l=>(opt env ls n hi).bind fun h=>(aslice σ k v l h).map (·,σ)):=by
 unfold step;simp only[bH];exact bG _
theorem Xk(env ls:List aq)(σ:aw)(x:db)(lo:Option db)(hi:Option db):step P env ls σ (.slicet x lo hi)=(let v:=x.eval env ls
  (Jn v).bind fun n=>(opt env ls 0 lo).bind fun l=>(opt env ls n hi).bind fun h=>(vT v l h).map (·,σ)):=by
 unfold step;simp only[bH];exact bG _
theorem Zw(env ls:List aq)(σ:aw)(x:db):step P env ls σ (.slice0 x)=((tI σ (x.eval env ls)).map fun _=>(.ai,σ)):=by
 unfold step;simp only[bH];exact bG _
theorem X6(env ls:List aq)(σ:aw)(n:Nat)(x:db):step P env ls σ (.aslice n x)=((abD σ n (x.eval env ls)).map (·,σ)):=by
 unfold step;simp only[bH];exact bG _
theorem aoo(env ls:List aq)(σ:aw)(x:db):step P env ls σ (.len x)=((tI σ (x.eval env ls)).map fun (n:Nat)=>(.int .i64 (n:Int),σ)):=by
 unfold step;simp only[bH];exact bG _
theorem aiM(env ls:List aq)(σ:aw)(x:db):step P env ls σ (.lent x)=((Jn (x.eval env ls)).map fun (n:Nat)=>(.int .i64 (n:Int),σ)):=by
 unfold step;simp only[bH];exact bG _
theorem alY(env ls:List aq)(σ:aw)(x:db):step P env ls σ (.cap x)=((adl (x.eval env ls)).map (·,σ)):=by
 unfold step;simp only[bH];exact bG _
theorem alp(env ls:List aq)(σ:aw)(k:Nat)(x:db)(y:db):step P env ls σ (.app k x y)=((rd σ (y.eval env ls)).bind fun a=>append k (x.eval env ls) a σ):=by
 unfold step;simp only[bH];exact bG _
theorem ain(env ls:List aq)(σ:aw)(k:Nat)(zero:aq)(x:db)(n:db):step P env ls σ (.appz k zero x n)=((rf (n.eval env ls)).bind fun m=>if aM zero=k∧m≤bC then append k (x.eval env ls) (List.replicate m zero) σ else none):=by
 unfold step;simp only[bH];exact bG _
theorem ahA(env ls:List aq)(σ:aw)(k:Nat)(x:db)(y:db):step P env ls σ (.copy k x y)=((Ku σ (acJ (x.eval env ls)) (y.eval env ls)).bind fun b=>(NZ σ k b (x.eval env ls)).map fun a=>(.int .i64 (b.length:Int),a)):=by
 unfold step;simp only[bH];exact bG _
theorem aiC(env ls:List aq)(σ:aw)(x:db)(xs:List db):step P env ls σ (.mins x xs)=((wY true (x.eval env ls) (xs.map (·.eval env ls))).map (·,σ)):=by
 unfold step;simp only[bH];exact bG _
theorem ai0(env ls:List aq)(σ:aw)(x:db)(xs:List db):step P env ls σ (.maxs x xs)=((wY false (x.eval env ls) (xs.map (·.eval env ls))).map (·,σ)):=by
 unfold step;simp only[bH];exact bG _
theorem ai4(env ls:List aq)(σ:aw)(f:Nat)(first:List db)(cap:List db):step P env ls σ (.mkfn f first cap)=(some (.fn f (first.map (·.eval env ls)) (cap.map (·.eval env ls)),σ)):=by
 unfold step;simp only[bH];exact bG _
theorem akH(env ls:List aq)(σ:aw)(i:Nat)(x:db):step P env ls σ (.ext i x)=((Y8 i (x.eval env ls)).map (·,σ)):=by
 unfold step;simp only[bH];exact bG _
theorem aep(env ls:List aq)(σ:aw)(x:db):step P env ls σ (.nilck x)=((ME σ (x.eval env ls)).map (·,σ)):=by
 unfold step;simp only[bH];exact bG _
theorem ab2(env ls:List aq)(σ:aw)  : step P env ls σ (.mkmap)=(some (.mp σ.length,σ++[.map []])):=by
 unfold step;simp only[bH];exact bG _
theorem ajh(env ls:List aq)(σ:aw)(m:db)(k:db)(v:db):step P env ls σ (.mput m k v)=((N8 σ (k.eval env ls) (v.eval env ls) (m.eval env ls)).map (.any,·)):=by
 unfold step;simp only[bH];exact bG _
theorem ajq(env ls:List aq)(σ:aw)(zero:aq)(ok:Bool)(m:db)(k:db):step P env ls σ (.look zero ok m k)=(if vW (k.eval env ls) then (yw σ (m.eval env ls)).bind fun es=>(lookup (k.eval env ls) es).map fun r=>(if ok then .tup [r.getD zero,.bool r.isSome] else r.getD zero,σ) else none):=by
 unfold step;simp only[bH];exact bG _
theorem ahT(env ls:List aq)(σ:aw)(m:db):step P env ls σ (.mlen m)=((yw σ (m.eval env ls)).map fun es=>(.int .i64 (es.length:Int),σ)):=by
 unfold step;simp only[bH];exact bG _
theorem amH(env ls:List aq)(σ:aw)(zero:aq)(x:db):step P env ls σ (.clr zero x)=((Zm σ zero (x.eval env ls)).map (.any,·)):=by
 unfold step;simp only[bH];exact bG _
theorem ahH(env ls:List aq)(σ:aw)(x:db):step P env ls σ (.rngs x)=QV σ (x.eval env ls):=by
 unfold step;simp only[bH];exact bG _
theorem acM(env ls:List aq)(σ:aw)(x:db):step P env ls σ (.nexts x)=uz σ (x.eval env ls):=by
 unfold step;simp only[bH];exact bG _
theorem adp(env ls:List aq)(σ:aw)(ks:List Nat)(zero:aq)(ok:Bool)(m k:db):step P env ls σ (.lookk ks zero ok m k)=(if g9 ks (k.eval env ls) then (yw σ (m.eval env ls)).bind fun es=>(dy ks (k.eval env ls) es).map fun r=>(if ok then .tup [r.getD zero,.bool r.isSome] else r.getD zero,σ) else none):=by
 unfold step;simp only[bH];exact bG _
theorem ach(env ls:List aq)(σ:aw)(ks:List Nat)(m k v:db):step P env ls σ (.mputk ks m k v)=((Iy ks σ (k.eval env ls) (v.eval env ls) (m.eval env ls)).map (.any,·)):=by
 unfold step;simp only[bH];exact bG _
theorem alv(env ls:List aq)(σ:aw)(x:db):step P env ls σ (.b2s x)=((Xf σ (x.eval env ls)).map (·,σ)):=by
 unfold step;simp only[bH];exact bG _
theorem ak0(env ls:List aq)(σ:aw)  : step P env ls σ (.bad)=(none):=by
 unfold step;simp only[bH];exact bG _
end
end Go.AM
namespace Go.AM
def C9.isPure:C9→Bool
 |.pure|.fresh _=>true
 |_=>false
theorem adH(σ τ:aw):∀(n:Nat) (v:aq),fz true false 0 τ n (fz true false 0 σ n v)=fz true false 0 σ n v:=by
 intro n;induction n with
 |zero=>intro v;rfl
 |succ n g=>
  intro v;have d:∀l:List aq,(l.map (fz true false 0 σ n)).map (fz true false 0 τ n)=l.map (fz true false 0 σ n):=fun l=>by
   rw[bY];exact aW fun x _=>g x
  cases v with
  |agg cs=>simp only[fz];rw[d]
  |tup cs=>simp only[fz];rw[d]
  |fn f a c=>simp only[fz];rw[d,d]
  |aa b xs=>cases b<;>simp[fz]
  |cptr b x o=>
   cases b
   ·simp[fz]
   by_cases h:aM (fz true false 0 σ n x)=aM x
   ·simp[fz,jQ,h,g]
   simp[fz,jQ,h]
  |imap b xs=>cases b<;>simp[fz]
  |lst xs=>
   by_cases h:(xs.map (fz true false 0 σ n)).map aM=xs.map aM
   ·simp only[fz,oY,if_pos h];rfl
   simp only[fz,oY,if_neg h]
  |sl id ep off len=>
   simp only[fz,cZ,cI];cases sliceAt σ id ep off len with
   |none=>simp[fz]
   |some l=>
    by_cases h:(l.map (fz true false 0 σ n)).map aM=l.map aM
    ·simp only[Option.elim,oY,if_pos h,fz];rfl
    simp only[Option.elim,oY,if_neg h,fz]
  |ptr id ep i off=>
   simp only[fz,cZ,cI];cases ul σ id ep i with
   |none=>simp[fz]
   |some x=>
    by_cases h:aM (fz true false 0 σ n x)=aM x
    ·simp[fz,jQ,h,g]
    simp[fz,jQ,h]
  |asl id ep i off m=>simp[fz]
  |mp id=>
   simp only[fz,cZ,cI];cases ip σ id<;>simp[fz]
  |yld l s e=>
   simp[fz]
  |_=>simp[fz]
theorem pK(σ τ:aw)(v:aq):snap τ (snap σ v)=snap σ v:=adH σ τ dE v
section
variable {P:Code} (hP:P.Good)
include hP
theorem NC{f:Nat}{g:br}(h:P.fns f=.fn g)(a:g.mode.isPure=true)(args:List aq)(σ:aw) :
  cC P f args σ=((cC P f (args.map (snap σ)) []).map (·.1)).map (·,σ):=by
 rw[yV hP h,yV hP h];have c:enter g args σ=enter g (args.map (snap σ)) []:=by
  have b:((args.map (snap σ)).take g.np).map (snap [])=(args.take g.np).map (snap σ):=by
   rw[←List.map_take,bY];exact aW fun x _=>pK σ [] x
  unfold enter;cases hg:g.mode<;>rw[hg]at a<;>first|exact absurd a (by decide)|(simp only[b])
 rw[c];cases run P g.body (enter g (args.map (snap σ)) []) with
 |none=>rfl
 |some r=>
  obtain⟨e,s⟩:=r;have key:(results s g.res).map (fun v=>iw g.mode σ s v)=(((results s g.res).map fun v=>iw g.mode [] s v).map (·.1)).map (·,σ):=by
   cases results s g.res with
   |none=>rfl
   |some v=>
    cases hg:g.mode<;>rw[hg]at a<;>first|exact absurd a (by decide)|rfl
  cases e with
  |ext _=>rfl
  |nrm=>exact key
  |ret=>exact key
theorem V8{f:Nat}{g:br}(h:P.fns f=.fn g)(a:g.mode.isPure=true)(args:List aq) :
  (cC P f args []).map (·.1)=(run P g.body ⟨(args.take g.np).map (snap [])++List.replicate (g.nenv-g.np) .any,[]⟩).bind fun r=>match r.1 with
   |.ext _=>none
   |_=>(results r.2 g.res).map fun v=>(iw g.mode [] r.2 v).1:=by
 rw[yV hP h];have b:enter g args []=⟨(args.take g.np).map (snap [])++List.replicate (g.nenv-g.np) .any,[]⟩:=by
  unfold enter;cases hg:g.mode<;>rw[hg]at a<;>first|exact absurd a (by decide)|rfl
 rw[b];cases run P g.body _ with
 |none=>rfl
 |some r=>
  obtain⟨e,s⟩:=r;cases e with
  |ext _=>rfl
  |nrm=>show ((results s g.res).map _).map _=_;rw[Option.map_map];rfl
  |ret=>show ((results s g.res).map _).map _=_;rw[Option.map_map];rfl
end
end Go.AM
section
set_option maxRecDepth 8000
namespace Go.AM
abbrev cD(n:Nat)(g:br):Prop:=code.fns n=.fn g
theorem good:code.Good:=SG
noncomputable def bB(f:Nat)(args:List aq):Option aq:=(cC code f args []).map (·.1)
theorem oC{f:Nat}{g:br}(h:code.fns f=.fn g)(hm:g.mode.isPure=true)(args:List aq)(σ:aw) :
  cC code f args σ=(bB f (args.map (snap σ))).map (·,σ):=NC good h hm args σ
abbrev bF(f:Nat):Prop:=∀(args:List aq) (σ:aw),cC code f args σ=(bB f (args.map (snap σ))).map (·,σ)
theorem ZC{f:Nat}{g:br}(h:code.fns f=.fn g)(hm:g.mode.isPure=true)(args:List aq) :
  bB f args=(run code g.body ⟨(args.take g.np).map (snap [])++List.replicate (g.nenv-g.np) .any,[]⟩).bind fun r=>match r.1 with
   |.ext _=>none
   |_=>(results r.2 g.res).map fun v=>(iw g.mode [] r.2 v).1:=V8 good h hm args
theorem aop:cD 1 P.atM:=rfl
theorem amr:cD 2 P.arD:=rfl
theorem ang:cD 3 P.atQ:=rfl
theorem anG:cD 4 P.arS:=rfl
theorem aow:cD 5 P.auq:=rfl
theorem afh:cD 6 P.ar0:=rfl
theorem akU:cD 7 P.asc:=rfl
theorem anQ:cD 9 P.auO:=rfl
theorem akl:cD 10 P.aue:=rfl
theorem akP:cD 11 P.arG:=rfl
theorem YS:code.fns 12=.nilfn P.atP:=rfl
theorem ajX:cD 13 P.auI:=rfl
theorem anI:cD 14 P.atm:=rfl
theorem alH:cD 15 P.atz:=rfl
theorem ajZ:cD 16 P.atE:=rfl
theorem alr:cD 17 P.asa:=rfl
theorem amY:cD 18 P.atf:=rfl
theorem akA:cD 19 P.aui:=rfl
theorem al1:cD 20 P.aun:=rfl
theorem akc:cD 21 P.atK:=rfl
theorem ak6:cD 22 P.atr:=rfl
theorem amN:cD 23 P.ato:=rfl
theorem amt:cD 24 P.auM:=rfl
theorem an8:cD 26 P.auN:=rfl
theorem amG:cD 27 P.arY:=rfl
theorem amS:cD 28 P.arz:=rfl
theorem alC:cD 29 P.asu:=rfl
theorem aj7:cD 30 P.auK:=rfl
theorem am4:cD 31 P.arF:=rfl
theorem aoh:cD 32 P.arB:=rfl
theorem akh:cD 33 P.ary:=rfl
theorem amR:cD 34 P.auR:=rfl
theorem anh:cD 36 P.auU:=rfl
theorem anW:cD 37 P.asH:=rfl
theorem aog:cD 38 P.atZ:=rfl
theorem ak7:cD 39 P.auo:=rfl
theorem aku:cD 40 P.auv:=rfl
theorem ama:cD 41 P.arZ:=rfl
theorem anN:cD 42 P.atC:=rfl
theorem aom:cD 48 P.asn:=rfl
theorem anE:cD 49 P.atj:=rfl
theorem agz:cD 50 P.asp:=rfl
theorem alZ:cD 51 P.auL:=rfl
theorem anA:cD 52 P.aus:=rfl
theorem akq:cD 53 P.ar1:=rfl
theorem anx:cD 54 P.as8:=rfl
theorem aj8:cD 55 P.arw:=rfl
theorem akp:cD 56 P.asT:=rfl
theorem amw:cD 57 P.atG:=rfl
theorem ale:cD 58 P.atb:=rfl
theorem an2:cD 60 P.aur:=rfl
theorem ans:cD 61 P.atH:=rfl
theorem alV:cD 62 P.ata:=rfl
theorem alk:cD 63 P.aul:=rfl
theorem aft:code.fns 64=.nilfn P.atl:=rfl
theorem ap6:cD 66 P.arv:=rfl
theorem apO:cD 67 P.arp:=rfl
theorem amU:cD 68 P.arn:=rfl
theorem anp:cD 69 P.ar3:=rfl
theorem afK:code.fns 70=.nilfn P.auC:=rfl
theorem agA:code.fns 71=.nilfn P.auj:=rfl
theorem afF:code.fns 72=.nilfn P.atX:=rfl
theorem aly:cD 73 P.as9:=rfl
theorem amA:cD 74 P.aug:=rfl
theorem anu:cD 75 P.atd:=rfl
theorem anX:cD 76 P.auA:=rfl
theorem XQ:cD 77 P.ar2:=rfl
theorem amd:cD 78 P.atT:=rfl
theorem agD:cD 79 P.asq:=rfl
theorem akm:cD 80 P.arV:=rfl
theorem aaK:cD 82 P.arx:=rfl
theorem aeJ:cD 83 P.arX:=rfl
theorem ajY:cD 84 P.auh:=rfl
theorem afn:cD 85 P.as7:=rfl
theorem akw:cD 86 P.asR:=rfl
theorem anc:cD 87 P.aty:=rfl
theorem amb:cD 88 P.asG:=rfl
theorem apu:cD 89 P.art:=rfl
theorem apI:cD 90 P.ars:=rfl
theorem aor:cD 91 P.auE:=rfl
theorem akV:cD 92 P.atI:=rfl
theorem akM:cD 93 P.arK:=rfl
theorem anq:cD 94 P.arQ:=rfl
theorem ala:cD 95 P.auB:=rfl
theorem anm:cD 96 P.aut:=rfl
theorem afQ:cD 97 P.asD:=rfl
theorem amq:cD 98 P.arC:=rfl
theorem aoi:cD 99 P.atp:=rfl
theorem an6:cD 100 P.aua:=rfl
theorem ahd:cD 101 P.asF:=rfl
theorem al0:cD 102 P.auH:=rfl
theorem anY:cD 103 P.atY:=rfl
theorem agq:cD 104 P.ar7:=rfl
theorem amf:cD 105 P.auw:=rfl
theorem ae2:cD 106 P.asm:=rfl
@[simp] theorem akR:bF 106:=oC ae2 rfl
theorem Yi:cD 107 P.ash:=rfl
theorem anw:cD 108 P.asO:=rfl
theorem amm:cD 109 P.auP:=rfl
theorem aos:cD 110 P.auS:=rfl
theorem agH:cD 111 P.asV:=rfl
theorem aki:cD 112 P.arI:=rfl
theorem afq:cD 113 P.asJ:=rfl
theorem apQ:cD 114 P.auy:=rfl
theorem alc:cD 115 P.ats:=rfl
theorem aot:cD 116 P.as1:=rfl
theorem ap5:cD 117 P.auz:=rfl
theorem af9:cD 118 P.asL:=rfl
theorem akL:cD 119 P.atW:=rfl
theorem anr:cD 122 P.asA:=rfl
theorem alb:cD 123 P.ar4:=rfl
theorem aeZ:cD 124 P.asX:=rfl
theorem anC:cD 125 P.atJ:=rfl
theorem agE:cD 126 P.asC:=rfl
theorem al8:cD 127 P.arU:=rfl
theorem akE:cD 128 P.arO:=rfl
theorem alh:cD 129 P.auF:=rfl
theorem agK:cD 130 P.ass:=rfl
theorem afs:cD 131 P.atk:=rfl
theorem alm:cD 132 P.auJ:=rfl
theorem api:cD 133 P.asB:=rfl
theorem aaM:cD 134 P.arP:=rfl
theorem ao7:cD 135 P.arq:=rfl
theorem aoa:cD 136 P.atB:=rfl
theorem alX:cD 137 P.asz:=rfl
theorem apg:cD 138 P.aro:=rfl
theorem apM:cD 139 P.atg:=rfl
theorem ap2:cD 140 P.att:=rfl
theorem apA:cD 141 P.aup:=rfl
theorem amj:cD 142 P.atv:=rfl
theorem aj5:cD 143 P.arJ:=rfl
theorem anb:cD 144 P.auG:=rfl
theorem apW:cD 145 P.as5:=rfl
theorem anM:cD 146 P.asE:=rfl
theorem aeF:cD 147 P.ath:=rfl
theorem amB:cD 148 P.auu:=rfl
theorem ame:cD 149 P.asM:=rfl
theorem aj3:cD 150 P.arA:=rfl
theorem apL:cD 151 P.asg:=rfl
theorem akI:cD 152 P.atA:=rfl
theorem anj:cD 153 P.asY:=rfl
theorem aqa:cD 154 P.atS:=rfl
theorem aov:cD 155 P.atn:=rfl
theorem alg:cD 156 P.as2:=rfl
theorem apE:cD 157 P.as3:=rfl
theorem af2:cD 158 P.asr:=rfl
theorem al7:cD 159 P.arW:=rfl
theorem amT:cD 160 P.atq:=rfl
theorem alw:cD 161 P.asv:=rfl
theorem aka:cD 163 P.asw:=rfl
theorem ajV:cD 164 P.atD:=rfl
theorem amO:cD 165 P.atN:=rfl
theorem X4:cD 166 P.asd:=rfl
theorem am7:cD 167 P.atF:=rfl
theorem aeW:cD 168 P.ast:=rfl
theorem akD:cD 169 P.atc:=rfl
theorem amJ:cD 170 P.asN:=rfl
theorem akg:cD 171 P.arT:=rfl
theorem alT:cD 172 P.as0:=rfl
theorem agP:cD 173 P.ar5:=rfl
theorem anP:cD 174 P.asx:=rfl
theorem apJ:cD 175 P.asS:=rfl
theorem apf:cD 176 P.auc:=rfl
theorem apU:cD 177 P.auk:=rfl
theorem amk:cD 178 P.auQ:=rfl
theorem an5:cD 179 P.ati:=rfl
theorem amX:cD 180 P.arE:=rfl
theorem amD:cD 181 P.asQ:=rfl
theorem ae5:cD 182 P.as4:=rfl
theorem ahg:cD 183 P.ate:=rfl
theorem anL:cD 184 P.asi:=rfl
theorem ap3:cD 189 P.arM:=rfl
theorem amu:cD 190 P.asj:=rfl
theorem akt:cD 191 P.aux:=rfl
theorem amn:cD 192 P.asI:=rfl
theorem aeL:cD 193 P.asK:=rfl
theorem afA:cD 194 P.arL:=rfl
theorem akr:cD 195 P.aud:=rfl
theorem apj:cD 196 P.aru:=rfl
theorem aox:cD 197 P.auT:=rfl
theorem am8:cD 198 P.aso:=rfl
theorem alL:cD 199 P.atw:=rfl
theorem ahb:cD 200 P.arN:=rfl
@[simp] theorem anv:bF 200:=oC ahb rfl
theorem akN:cD 201 P.atu:=rfl
theorem Xt:cD 202 P.asy:=rfl
@[simp] theorem amK:bF 202:=oC Xt rfl
theorem ak4:cD 203 P.aub:=rfl
theorem akO:cD 204 P.asU:=rfl
theorem ao6:cD 205 P.arH:=rfl
theorem XB:cD 215 P.asb:=rfl
theorem ank:cD 222 P.atx:=rfl
theorem alt:cD 224 P.ar8:=rfl
theorem aj2:cD 225 P.ase:=rfl
theorem anB:cD 226 P.asf:=rfl
theorem aml:cD 266 P.asW:=rfl
theorem aoy:cD 267 P.arR:=rfl
theorem akB:cD 268 P.at5:=rfl
theorem agl:cD 271 P.as6:=rfl
theorem alB:cD 272 P.atU:=rfl
theorem apT:cD 275 P.asP:=rfl
theorem akb:cD 276 P.asZ:=rfl
theorem alU:cD 279 P.aum:=rfl
theorem akk:cD 280 P.auf:=rfl
theorem akT:cD 281 P.ar6:=rfl
theorem alM:cD 282 P.atL:=rfl
theorem amg:cD 398 P.auD:=rfl
theorem amM:cD 399 P.atV:=rfl
theorem afj:cD 400 P.ar9:=rfl
theorem Dl:code.fns 8=.prim 4:=rfl
theorem pB:code.fns 25=.prim 6:=rfl
theorem yr:code.fns 43=.prim 2:=rfl
theorem K6:code.fns 65=.prim 8:=rfl
@[simp] theorem aoM:bF 1∧bF 2∧bF 3∧bF 4∧bF 5∧bF 6∧bF 7∧bF 9∧bF 10∧bF 11∧bF 13∧bF 14∧bF 15∧bF 16∧bF 17∧bF 19∧bF 21∧bF 22∧bF 23∧bF 24∧bF 26∧bF 27∧bF 28∧bF 29∧bF 30∧bF 32∧bF 33∧bF 34∧bF 36∧bF 37∧bF 38∧bF 39∧bF 40∧bF 41∧bF 42∧bF 49∧bF 50∧bF 52∧bF 53∧bF 54:=by and_intros<;>exact oC rfl rfl
@[simp] theorem amx:bF 55∧bF 56∧bF 57∧bF 58∧bF 60∧bF 61∧bF 62∧bF 66∧bF 67∧bF 68∧bF 69∧bF 74∧bF 75∧bF 76∧bF 81∧bF 83∧bF 84∧bF 85∧bF 86∧bF 87∧bF 88∧bF 89∧bF 90∧bF 92∧bF 99∧bF 100∧bF 101∧bF 104∧bF 108∧bF 114∧bF 115∧bF 116∧bF 117∧bF 119∧bF 120∧bF 121∧bF 122∧bF 123∧bF 124∧bF 125:=by and_intros<;>exact oC rfl rfl
@[simp] theorem akv:bF 133∧bF 134∧bF 135∧bF 136∧bF 137∧bF 138∧bF 139∧bF 140∧bF 144∧bF 145∧bF 148∧bF 151∧bF 152∧bF 153∧bF 154∧bF 155∧bF 156∧bF 157∧bF 160∧bF 161∧bF 162∧bF 163∧bF 164∧bF 165∧bF 167∧bF 171∧bF 172∧bF 174∧bF 175∧bF 176∧bF 177∧bF 178∧bF 183∧bF 184∧bF 185∧bF 186∧bF 189∧bF 191∧bF 196∧bF 198:=by and_intros<;>exact oC rfl rfl
@[simp] theorem ajz:bF 199∧bF 203∧bF 204∧bF 219∧bF 222∧bF 224∧bF 225∧bF 266∧bF 267∧bF 268∧bF 272∧bF 275∧bF 276∧bF 279∧bF 280∧bF 281∧bF 282∧bF 290∧bF 398∧bF 399∧bF 400∧bF 401∧bF 402∧bF 403∧bF 404∧bF 405∧bF 406∧bF 407∧bF 408:=by and_intros<;>exact oC rfl rfl
end Go.AM
end
namespace Go.AM
noncomputable def td(b:az)(r:Option (Ex×St)):Option (Ex×St):=r.bind fun r=>match r.1 with
 |.nrm=>run code b r.2
 |e=>some (e,r.2)
noncomputable def Ca(env:List aq)(is:List cr)(ls:List aq)(q:Option (aq×aw)):Option (List aq×aw):=
 q.bind fun q=>o9 code env is (ls++[q.1]) q.2
noncomputable def GN(env:List aq)(i:cr)(is:List cr)(ls:List aq)(σ:aw)(t:Option Bool):Option (List aq×aw):=
 match t with
 |some true=>Ca env is ls (step code env ls σ i.op)
 |some false=>o9 code env is (ls++[.tup []]) σ
 |none=>none
def Te(env:List aq)(os:List (Nat×db))(r:Option (List aq×aw)):Option (Ex×St):=
 r.map fun r=>(.nrm,⟨sT env env r.1 os,r.2⟩)
def rT(id:Nat)(r:Option (Ex×St)):Option (Ex×St):=r.map fun r=>match r.1 with
 |.ext j=>if j=id then (.nrm,r.2) else r
 |_=>r
noncomputable def GP(a b:az)(s:St)(c:aq):Option (Ex×St):=match c with
 |.bool true=>run code a s
 |.bool false=>run code b s
 |_=>none
noncomputable def dh(base:Nat)(clr:List Nat)(b:az)(r:Option (Ex×St)):Option (Ex×St):=r.bind fun r=>match r.1 with
 |.nrm=>bU code base clr b (bQ base clr r.2)
 |e=>some (e,r.2)
def Vm(l:Nat)(env:List aq)(r:Option (aq×aw)):Option (Ex×St):=r.bind fun r=>sJ l env r.2
noncomputable def Ja(env:List aq)(b:az)(r:Option aw):Option (Ex×St):=r.bind fun σ=>run code b ⟨env,σ⟩
noncomputable def TZ(env:List aq)(is:List cr)(ls:List aq)(ss:List aw)(q:Option (aq×aw)):Option (List aq×List aw×aw):=
 q.bind fun q=>BV code env is (ls++[q.1]) ss q.2
noncomputable def aaY(env:List aq)(i:cr)(is:List cr)(ls:List aq)(ss:List aw)(σ:aw)(t:Option Bool):Option (List aq×List aw×aw):=
 match t with
 |some true=>TZ env is ls (ss++[σ]) (step code env ls σ i.op)
 |some false=>BV code env is (ls++[.tup []]) (ss++[σ]) σ
 |none=>none
noncomputable def T0(env:List aq)(os:List (Nat×db))(is:List cr)(chk:List (Nat×Nat))(r:Option (List aq×List aw×aw)):Option (Ex×St):=
 r.bind fun r=>(sP code env r.1 is (r.2.1++[r.2.2]) chk).map fun _=>(.nrm,⟨sT env env r.1 os,r.2.2⟩)
noncomputable def GT(env ls:List aq)(is:List cr)(ss:List aw)(n:Nat)(τ:aw)(l:List (Nat×Nat))(q:Option (aq×aw)):Option Unit:=
 q.bind fun q=>if same q.1 (pC ls n)&&su q.2 τ then sP code env ls is ss l else none
noncomputable def aa3(env ls:List aq)(is:List cr)(ss:List aw)(n:Nat)(l:List (Nat×Nat))(i:Option cr)(t:Option aw):Option Unit:=
 match i,t with
 |some i,some τ=>GT env ls is ss n τ l (step code env (ls.take n) τ i.op)
 |_,_=>none
def wh(m:C9)(res:List Oi)(r:Option (Ex×St)):Option aq:=r.bind fun r=>match r.1 with
 |.ext _=>none
 |_=>(results r.2 res).map fun v=>(iw m [] r.2 v).1
@[simp ↓] theorem fA(a b:az)(s:St):run code (.seq a b) s=td b (run code a s):=adg good a b s
@[simp ↓] theorem apk(s:St):run code .skip s=some (.nrm,s):=Xn good s
@[simp ↓] theorem apX(id:Nat)(s:St):run code (.exit id) s=some (.ext id,s):=abi good id s
@[simp ↓] theorem aqu(s:St):run code .ret s=some (.ret,s):=acL good s
@[simp ↓] theorem aqB(a:List cr)(os:List (Nat×db))(env:List aq)(σ:aw):run code (.reg a os) ⟨env,σ⟩=Te env os (o9 code env a [] σ):=aer good a os _
@[simp ↓] theorem ap0(c:db)(a b:az)(env:List aq)(σ:aw):run code (.cond c a b) ⟨env,σ⟩=GP a b ⟨env,σ⟩ (c.eval env []):=by
 rw[Yz good];rfl
@[simp ↓] theorem agS(id:Nat)(b:az)(s:St):run code (.blk id b) s=rT id (run code b s):=ac1 good id b s
@[simp ↓] theorem ao2(b:az)(s:St):run code (.scope b) s=run code b s:=WY good b s
@[simp ↓] theorem apN(clr:List Nat)(b:az)(env:List aq)(σ:aw):run code (.loop clr b) ⟨env,σ⟩=bU code σ.length clr b ⟨clear env clr,σ⟩:=ZE good clr b _
@[simp ↓] theorem aqs(k:Nat)(f:db)(a:Nat)(env:List aq)(σ:aw):run code (.rng k f a) ⟨env,σ⟩=if env.length=k then Vm σ.length env (MA code (f.eval env []) [.yld σ.length a env] (σ++[.pend false none])) else none:=acn good k f a _
@[simp ↓] theorem aiT(i off k:Nat)(b:az)(env:List aq)(σ:aw):run code (.lift i off k b) ⟨env,σ⟩=Ja env b (Ia (pC env i) off k σ):=YD good i off k b _
@[simp ↓] theorem apn(b:List cr)(os:List (Nat×db))(a:List (Nat×Nat))(env:List aq)(σ:aw):run code (.regd b os a) ⟨env,σ⟩=T0 env os b a (BV code env b [] [] σ):=abn good b os a _
@[simp ↓] theorem aqf(env ls:List aq)(ss:List aw)(σ:aw):BV code env [] ls ss σ=some (ls,ss,σ):=ZY good env ls ss σ
@[simp ↓] theorem T_i(env ls:List aq)(ss:List aw)(σ:aw)(o:IK)(a:List cr):BV code env (P.i o::a) ls ss σ=TZ env a ls (ss++[σ]) (step code env ls σ o):=KD good env _ a ls ss σ
@[simp ↓] theorem T_g(env ls:List aq)(ss:List aw)(σ:aw)(x:db)(b:Bool)(o:IK)(a:List cr) :
  BV code env (P.g x b o::a) ls ss σ=aaY env (P.g x b o) a ls ss σ (wanted env ls (some (x,b))):=KD good env _ a ls ss σ
@[simp] theorem aoQ(env:List aq)(x:db)(b:Bool)(o:IK)(a:List cr)(ls:List aq)(ss:List aw)(σ:aw) :
  aaY env (P.g x b o) a ls ss σ (some true)=TZ env a ls (ss++[σ]) (step code env ls σ o):=rfl
@[simp] theorem aoV(env:List aq)(i:cr)(a:List cr)(ls:List aq)(ss:List aw)(σ:aw) :
  aaY env i a ls ss σ (some false)=BV code env a (ls++[.tup []]) (ss++[σ]) σ:=rfl
@[simp] theorem ahJ(env:List aq)(a:List cr)(ls:List aq)(ss:List aw)(v:aq)(σ:aw):TZ env a ls ss (some (v,σ))=BV code env a (ls++[v]) ss σ:=rfl
@[simp] theorem ael(env:List aq)(os:List (Nat×db))(b:List cr)(a:List (Nat×Nat))(ls:List aq)(ss:List aw)(σ:aw) :
  T0 env os b a (some (ls,ss,σ))=(sP code env ls b (ss++[σ]) a).map fun _=>(.nrm,⟨sT env env ls os,σ⟩):=rfl
@[simp ↓] theorem aqi(env ls:List aq)(a:List cr)(ss:List aw):sP code env ls a ss []=some ():=Se good env ls a ss
@[simp ↓] theorem apY(env ls:List aq)(a:List cr)(ss:List aw)(n j:Nat)(l:List (Nat×Nat)):sP code env ls a ss ((n,j)::l)=aa3 env ls a ss n l a[n]? ss[j]?:=by
 rw[N5 good];unfold aa3 GT;cases a[n]?<;>cases ss[j]?<;>rfl
@[simp] theorem aiR(env ls:List aq)(a:List cr)(ss:List aw)(n:Nat)(l:List (Nat×Nat))(o:IK)(τ:aw):aa3 env ls a ss n l (some (P.i o)) (some τ)=GT env ls a ss n τ l (step code env (ls.take n) τ o):=rfl
@[simp] theorem acG(env ls:List aq)(a:List cr)(ss:List aw)(n:Nat)(τ:aw)(l:List (Nat×Nat))(v:aq)(σ:aw):GT env ls a ss n τ l (some (v,σ))=if same v (pC ls n)&&su σ τ then sP code env ls a ss l else none:=rfl
@[simp] theorem abS(env:List aq)(b:az)(σ:aw):Ja env b (some σ)=run code b ⟨env,σ⟩:=rfl
@[simp] theorem aqY(f:Nat)(a c args:List aq)(σ:aw):MA code (.fn f a c) args σ=cC code f (a++args++c) σ:=rfl
attribute [simp] tX jX BR
@[simp ↓] theorem aqc(env ls:List aq)(σ:aw):o9 code env [] ls σ=some (ls,σ):=Re good env ls σ
@[simp ↓] theorem O_i(env ls:List aq)(σ:aw)(o:IK)(a:List cr):o9 code env (P.i o::a) ls σ=Ca env a ls (step code env ls σ o):=FQ good env _ a ls σ
@[simp ↓] theorem O_g(env ls:List aq)(σ:aw)(x:db)(b:Bool)(o:IK)(a:List cr) :
  o9 code env (P.g x b o::a) ls σ=GN env (P.g x b o) a ls σ (wanted env ls (some (x,b))):=FQ good env _ a ls σ
@[simp] theorem apc(env:List aq)(x:db)(b:Bool)(o:IK)(a:List cr)(ls:List aq)(σ:aw) :
  GN env (P.g x b o) a ls σ (some true)=Ca env a ls (step code env ls σ o):=rfl
@[simp] theorem apP(env:List aq)(i:cr)(a:List cr)(ls:List aq)(σ:aw) :
  GN env i a ls σ (some false)=o9 code env a (ls++[.tup []]) σ:=rfl
@[simp] theorem bW(b:az)(s:St):td b (some (.nrm,s))=run code b s:=rfl
@[simp] theorem afL(b:az)(s:St)(id:Nat):td b (some (.ext id,s))=some (.ext id,s):=rfl
@[simp] theorem OM(b:az)(s:St):td b (some (.ret,s))=some (.ret,s):=rfl
@[simp] theorem ad6(env:List aq)(a:List cr)(ls:List aq)(v:aq)(σ:aw):Ca env a ls (some (v,σ))=o9 code env a (ls++[v]) σ:=rfl
@[simp] theorem adm(env:List aq)(os:List (Nat×db))(ls:List aq)(σ:aw):Te env os (some (ls,σ))=some (.nrm,⟨sT env env ls os,σ⟩):=rfl
@[simp] theorem Nz(id:Nat)(s:St):rT id (some (.nrm,s))=some (.nrm,s):=rfl
@[simp] theorem ag7(id:Nat)(s:St):rT id (some (.ret,s))=some (.ret,s):=rfl
@[simp] theorem afB(id j:Nat)(s:St):rT id (some (.ext j,s))=some (if j=id then (.nrm,s) else (.ext j,s)):=by
 simp[rT]
@[simp] theorem apF(a b:az)(s:St):GP a b s (.bool true)=run code a s:=rfl
@[simp] theorem apz(a b:az)(s:St):GP a b s (.bool false)=run code b s:=rfl
@[simp] theorem AQ(m:C9)(a:List Oi)(s:St):wh m a (some (.ret,s))=(results s a).map fun v=>(iw m [] s v).1:=rfl
@[simp] theorem abU(m:C9)(a:List Oi)(s:St):wh m a (some (.nrm,s))=(results s a).map fun v=>(iw m [] s v).1:=rfl
theorem aT{f:Nat}{g:br}(h:code.fns f=.fn g)(a:g.mode.isPure=true)(args:List aq) :
  bB f args=wh g.mode g.res (run code g.body ⟨(args.take g.np).map (snap [])++List.replicate (g.nenv-g.np) .any,[]⟩):=ZC h a args
@[simp ↓] theorem apC(env ls:List aq)(σ:aw)(f:Nat)(args:List db)(a:Bool) :
  step code env ls σ (.call f args a)=(cC code f (args.map (·.eval env ls)) σ).map (mater a):=VA good env ls σ f args a
@[simp ↓] theorem aoU(env ls:List aq)(σ:aw)(f:db)(args:List db) :
  step code env ls σ (.callv f args)=(jp code (f.eval env ls) (args.map (·.eval env ls)) σ).map (mater false):=QY good env ls σ f args
@[simp] theorem ahl(f:Nat)(a c args:List aq)(σ:aw):jp code (.fn f a c) args σ=cC code f (a++args++c) σ:=rfl
attribute [simp ↓] amF ah6 anT aek adx anf aih ab5 aiP ait adU aoj aiQ ail ai9 ah1 ahz aoq alI amI  amC ajb acu Xk Zw X6 aoo aiM alY alp ain aie ahA aiC ai0 ai4 akH aep ab2 ajh ajq ahT amH ahH acM adp ach alv ak0
attribute [simp] apK amQ yR Xf vW g9 oZ oS dy rc Iy QV uz eR sF uN kw Ia DI Cc Ku acJ eqb eqa neg abD NZ Jn vT aslice Ht JA CH ME SY Y8 NP yw N8 Zm TM adl fresh Cz sliceAt ul Yh ip xO C0 db.eval pC sT clear wanted bin K7 shift una tI rf rd loadAt storeAt results As LJ iw opt oP lX alu MI fill wY
@[simp] theorem ah0(cs:List aq):aM (.agg cs)=cs.length:=rfl
@[simp] theorem aiO(k:IntKind)(n:Int):aM (.int k n)=1:=rfl
@[simp] theorem aeP(b:Bool):aM (.bool b)=1:=rfl
@[simp] theorem ahW(s:List UInt8):aM (.str s)=1:=rfl
@[simp] theorem ai5(b:Bool)(xs:List aq):aM (.aa b xs)=1:=rfl
@[simp] theorem ai6(xs:List aq):aM (.lst xs)=1:=rfl
@[simp] theorem afC:aM .ai=1:=rfl
@[simp] theorem agX:aM .nilp=1:=rfl
@[simp] theorem aeA:aM .nilf=1:=rfl
@[simp] theorem agT:aM .nilm=1:=rfl
@[simp] theorem ajt(a b c d:Nat):aM (.sl a b c d)=1:=rfl
@[simp] theorem aiy(a b c d:Nat):aM (.ptr a b c d)=1:=rfl
@[simp] theorem aff(b:Bool)(x:aq)(o:Nat):aM (.cptr b x o)=1:=rfl
@[simp] theorem ajJ(f:Nat)(a c:List aq):aM (.fn f a c)=1:=rfl
@[simp] theorem ajF(i:Nat):aM (.mp i)=1:=rfl
@[simp] theorem ae3(b:Bool)(e:List (aq×aq)):aM (.imap b e)=1:=rfl
@[simp] theorem ajT(cs:List aq):isAgg (.agg cs)=true:=rfl
@[simp] theorem ajD(k:IntKind)(n:Int):isAgg (.int k n)=false:=rfl
@[simp] theorem ais(b:Bool):isAgg (.bool b)=false:=rfl
@[simp] theorem ajB(s:List UInt8):isAgg (.str s)=false:=rfl
@[simp] theorem ajC(b:Bool)(xs:List aq):isAgg (.aa b xs)=false:=rfl
@[simp] theorem ajQ(xs:List aq):isAgg (.lst xs)=false:=rfl
@[simp] theorem ahX:isAgg .ai=false:=rfl
@[simp] theorem ajd:isAgg .nilp=false:=rfl
@[simp] theorem aiG:isAgg .nilf=false:=rfl
@[simp] theorem ahP:isAgg .nilm=false:=rfl
@[simp] theorem alQ(a b c d:Nat):isAgg (.sl a b c d)=false:=rfl
@[simp] theorem ajP(a b c d:Nat):isAgg (.ptr a b c d)=false:=rfl
@[simp] theorem aik(b:Bool)(x:aq)(o:Nat):isAgg (.cptr b x o)=false:=rfl
@[simp] theorem aou(f:Nat)(a c:List aq):isAgg (.fn f a c)=false:=rfl
@[simp] theorem akn(i:Nat):isAgg (.mp i)=false:=rfl
@[simp] theorem aiU(b:Bool)(e:List (aq×aq)):isAgg (.imap b e)=false:=rfl
@[simp] theorem agy(cs:List aq):cellsOf (.agg cs)=cs:=rfl
@[simp] theorem aeR(k:IntKind)(n:Int):cellsOf (.int k n)=[.int k n]:=rfl
@[simp] theorem ab6(b:Bool):cellsOf (.bool b)=[.bool b]:=rfl
@[simp] theorem agt(s:List UInt8):cellsOf (.str s)=[.str s]:=rfl
@[simp] theorem afS(b:Bool)(xs:List aq):cellsOf (.aa b xs)=[.aa b xs]:=rfl
@[simp] theorem aht(a b c d:Nat):cellsOf (.sl a b c d)=[.sl a b c d]:=rfl
@[simp] theorem aes:cellsOf .ai=[.ai]:=rfl
@[simp] theorem aix(f:Nat)(a c:List aq):cellsOf (.fn f a c)=[.fn f a c]:=rfl
@[simp] theorem agG(a b c d:Nat):cellsOf (.ptr a b c d)=[.ptr a b c d]:=rfl
@[simp] theorem ac9(b:Bool)(x:aq)(o:Nat):cellsOf (.cptr b x o)=[.cptr b x o]:=rfl
section
variable (fl top:Bool) (base:Nat) (σ:aw) (n:Nat)
@[simp] theorem ap9(k:IntKind)(m:Int):fz fl top base σ (n+1) (.int k m)=.int k m:=by simp[fz]
@[simp] theorem aoA(b:Bool):fz fl top base σ (n+1) (.bool b)=.bool b:=by simp[fz]
@[simp] theorem apw(s:List UInt8):fz fl top base σ (n+1) (.str s)=.str s:=by simp[fz]
@[simp] theorem aoC:fz fl top base σ (n+1) .ai=if !fl&&top then .ai else .aa false []:=by simp[fz]
@[simp] theorem aoL:fz fl top base σ (n+1) .nilp=.nilp:=by simp[fz]
@[simp] theorem apH:fz fl top base σ (n+1) .any=.any:=by simp[fz]
@[simp] theorem apt(b:Bool):fz fl top base σ (n+1) (.emp b)=.emp b:=by simp[fz]
@[simp] theorem apx(cs:List aq):fz fl top base σ (n+1) (.agg cs)=.agg (cs.map (fz fl top base σ n)):=by simp[fz]
@[simp] theorem apr(cs:List aq):fz fl top base σ (n+1) (.tup cs)=.tup (cs.map (fz fl top base σ n)):=by simp[fz]
@[simp] theorem aps(cs:List aq):fz fl top base σ (n+1) (.lst cs)=oY fl cs (cs.map (fz fl false base σ n)):=by simp[fz]
@[simp] theorem aqI(f:Nat)(a c:List aq):fz fl top base σ (n+1) (.fn f a c)=.fn f (a.map (fz fl top base σ n)) (c.map (fz fl top base σ n)):=by simp[fz]
@[simp] theorem aoR(xs:List aq):fz fl top base σ (n+1) (.aa false xs)=.aa false xs:=by simp[fz]
@[simp] theorem aoD(b:Bool)(xs:List aq):fz true top base σ (n+1) (.aa b xs)=.aa b xs:=by simp[fz]
@[simp] theorem aoG(b:Bool)(xs:List aq):fz fl true base σ (n+1) (.aa b xs)=.aa b xs:=by simp[fz]
@[simp] theorem anl(x:aq)(o:Nat):fz fl top base σ (n+1) (.cptr false x o)=.cptr false x o:=by simp[fz]
@[simp] theorem al6(x:aq)(o:Nat):fz true top base σ (n+1) (.cptr true x o)=jQ true x (fz true false base σ n x) o:=by simp[fz]
@[simp] theorem alx(x:aq)(o:Nat):fz false true base σ (n+1) (.cptr true x o)=jQ true x (fz false true base σ n x) o:=by simp[fz]
@[simp] theorem amp(x:List (aq×aq)):fz fl top base σ (n+1) (.imap false x)=.imap false x:=by simp[fz]
@[simp] theorem aqb(id ep off len:Nat):fz fl top base σ (n+1) (.sl id ep off len)=if id<base then (if top then .sl id ep off len else .any) else (sliceAt σ id ep off len).elim .any fun l=>oY fl l (l.map (fz fl false base σ n)):=by simp only[fz]
@[simp] theorem apq(id ep i off:Nat):fz fl top base σ (n+1) (.ptr id ep i off)=if id<base then (if top then .ptr id ep i off else .any) else (ul σ id ep i).elim .any fun x=>jQ fl x (fz fl false base σ n x) off:=by simp only[fz]
@[simp] theorem aqo(id:Nat):fz fl top base σ (n+1) (.mp id)=if id<base then (if top then .mp id else .any) else (ip σ id).elim .any fun es=>.imap fl (es.map fun e=>(e.1,fz fl false base σ n e.2)):=by simp only[fz]
end
attribute [simp] oY jQ Kp UQ
@[simp] theorem ajx(σ:aw)(v:aq):rr σ v=fz false false 0 σ 20 v:=rfl
@[simp] theorem GD(σ:aw)(v:aq):snap σ v=fz true false 0 σ 20 v:=rfl
@[simp] theorem ajG(b:Nat)(σ:aw)(v:aq):cn b σ v=fz false true b σ 20 v:=rfl
@[simp] theorem abT(k:IntKind)(n:Int)(σ:aw):mater false (.int k n,σ)=(.int k n,σ):=rfl
attribute [simp] mater vO
theorem jL{n:Int}(h:-9223372036854775808≤n∧n<9223372036854775808):IntKind.i64.wrap n=n:=by
 simp[IntKind.wrap,IntKind.bits,IntKind.signed];omega
end Go.AM
namespace Go.AM
theorem dl{base:Nat}{clr:List Nat}{b:az}(I:Nat→St)(n:Nat)(r:Ex×St)
  (step:∀k,k<n→dh base clr b (run code b (I k))=bU code base clr b (I (k+1))) (a:dh base clr b (run code b (I n))=some r) :
  bU code base clr b (I 0)=some r:=by
 have key:∀m k,k+m=n→bU code base clr b (I k)=some r:=by
  intro m;induction m with
  |zero=>
   intro k d;obtain rfl:k=n:=by omega
   rw[ru good];exact a
  |succ m c=>
   intro k d;rw[ru good];exact (step k (by omega)).trans (c (k+1) (by omega))
 exact key n 0 (by omega)
@[simp] theorem acV(base:Nat)(clr:List Nat)(b:az)(s:St):dh base clr b (some (.nrm,s))=bU code base clr b (bQ base clr s):=rfl
@[simp] theorem acO(base:Nat)(clr:List Nat)(b:az)(s:St)(i:Nat):dh base clr b (some (.ext i,s))=some (.ext i,s):=rfl
@[simp] theorem acT(base:Nat)(clr:List Nat)(b:az)(s:St):dh base clr b (some (.ret,s))=some (.ret,s):=rfl
theorem cN{base:Nat}{clr:List Nat}{env:List aq}{σ:aw}(h:σ.length=base):bQ base clr ⟨env,σ⟩=⟨clear env clr,σ⟩:=by
 unfold bQ;rw[if_pos (.inl h)]
theorem cW{k n:Nat}(b:k<n)(a:n≤bC):IntKind.i64.wrap ((k:Int)+1)=((k+1:Nat):Int):=by
 rw[jL (by unfold bC at a;omega)];omega
end Go.AM
namespace Go.AM
def dp{α σ ρ:Type}(g:Nat→α→σ→σ⊕ρ):List α→Nat→σ→σ⊕ρ
 |[],_,s=>.inl s
 |a::l,k,s=>match g k a s with
  |.inl s'=>dp g l (k+1) s'
  |.inr r=>.inr r
theorem aZ(base:Nat)(clr:List Nat)(b:az)(s:St):bU code base clr b s=dh base clr b (run code b s):=ru good base clr b s
theorem iQ{e σ ρ:Type}{base:Nat}{clr:List Nat}{b:az}(l:List e)(S:Nat→σ→St)(yq:Nat→σ→Prop)(g:Nat→e→σ→σ⊕ρ)(E:σ→Ex×St)(Q:ρ→Ex×St→Prop)
  (a:∀k y s,k<l.length→l[k]?=some y→yq k s→match g k y s with
   |.inl s'=>dh base clr b (run code b (S k s))=bU code base clr b (S (k+1) s')∧yq (k+1) s'
   |.inr r=>∃o,dh base clr b (run code b (S k s))=some o∧Q r o)
  (d:∀s,yq l.length s→dh base clr b (run code b (S l.length s))=some (E s)) (s:σ) (h:yq 0 s) :
  match dp g l 0 s with
   |.inl s'=>yq l.length s'∧bU code base clr b (S 0 s)=some (E s')
   |.inr r=>∃o,bU code base clr b (S 0 s)=some o∧Q r o:=by
 have key:∀(m:List e) k s,l.drop k=m→k≤l.length→yq k s→match dp g m k s with
   |.inl s'=>yq l.length s'∧bU code base clr b (S k s)=some (E s')
   |.inr r=>∃o,bU code base clr b (S k s)=some o∧Q r o:=by
  intro m;induction m with
  |nil=>
   intro k s hd n hi;have:k=l.length:=by
    have:=congrArg List.length hd;simp at this;omega
   subst this;simp only[dp];exact⟨hi,by rw[aZ];exact d s hi⟩
  |cons y m f=>
   intro k s hd n hi;have j:k<l.length:=by
    have:=congrArg List.length hd;simp at this;omega
   have i:l[k]?=some y:=by
    have:=congrArg (·[0]?) hd;simpa using this
   have p:l.drop (k+1)=m:=by
    have:=congrArg List.tail hd;simpa [kN] using this
   have c:=a k y s j i hi;rw[aZ];simp only[dp];cases hg:g k y s with
   |inl s'=>
    rw[hg]at c;simp only at c ⊢;rw[c.1];exact f (k+1) s' p (by omega) c.2
   |inr r=>
    rw[hg]at c;exact c
 exact key l 0 s (by simp) (cK _) h
theorem oA{e:Type}{base:Nat}{clr:List Nat}{b:az}(l:List e)(S:Nat→St)(p:e→Bool)(E:Ex×St)(Q:Ex×St→Prop)
  (f:∀k y,k<l.length→l[k]?=some y→p y=false→dh base clr b (run code b (S k))=bU code base clr b (S (k+1)))
  (d:∀k y,k<l.length→l[k]?=some y→p y=true→∃o,dh base clr b (run code b (S k))=some o∧Q o)
  (c:dh base clr b (run code b (S l.length))=some E) :
  (l.any p=false∧bU code base clr b (S 0)=some E)∨(l.any p=true∧∃o,bU code base clr b (S 0)=some o∧Q o):=by
 have h:=iQ (σ:=Unit) (ρ:=Unit) (base:=base) (clr:=clr) (b:=b) l (fun k _=>S k) (fun _ _=>True) (fun _ y _=>if p y then .inr () else .inl ()) (fun _=>E) (fun _=>Q)
  (fun k y s i g _=>by
   cases hp:p y
   ·simpa using f k y i g hp
   simpa using d k y i g hp) (fun _ _=>c) () trivial
 have j:∀(m:List e) k,dp (fun _ y _=>if p y then .inr () else .inl ()) m k ()=if m.any p then .inr () else (.inl ():Unit⊕Unit):=by
  intro m;induction m with
  |nil=>intro k;rfl
  |cons a m n=>
   intro k;cases hp:p a<;>simp[dp,hp,n]
 rw[j]at h;cases hp:l.any p
 ·rw[hp]at h;exact .inl ⟨rfl,h.2⟩
 rw[hp]at h;exact .inr ⟨rfl,h⟩
theorem Rf{h j:Type}{base:Nat}{clr:List Nat}{b:az}(l:List h)(S:Nat→Nat→List j→St)(f:h→List j)(E:Nat→List j→Ex×St)(m:Nat)
  (w:∀y∈l,(f y).length≤m)
  (d:∀k y ep a,k<l.length→l[k]?=some y→a.length≤k*m→∃c,dh base clr b (run code b (S k ep a))=bU code base clr b (S (k+1) c (a++f y)))
  (e:∀ep a,a.length≤l.length*m→dh base clr b (run code b (S l.length ep a))=some (E ep a)) (g:Nat) :
  ∃ep,bU code base clr b (S 0 g [])=some (E ep (l.flatMap f)):=by
 have key:∀(r:List h) k ep a,l.drop k=r→k≤l.length→a.length≤k*m→∃c,bU code base clr b (S k ep a)=some (E c (a++r.flatMap f)):=by
  intro r;induction r with
  |nil=>
   intro k ep a hd v n;have:k=l.length:=by
    have:=congrArg List.length hd;simp at this;omega
   subst this;exact⟨ep,by rw[aZ,e ep a n];simp⟩
  |cons y r q=>
   intro k ep a hd v n;have s:k<l.length:=by
    have:=congrArg List.length hd;simp at this;omega
   have o:l[k]?=some y:=by
    have:=congrArg (·[0]?) hd;simpa using this
   have t:l.drop (k+1)=r:=by
    have:=congrArg List.tail hd;simpa [kN] using this
   obtain⟨c,u⟩:=d k y ep a s o n;have i:y∈l:=aN o
   obtain⟨p,x⟩:=q (k+1) c (a++f y) t (by omega) (by
    rw[bZ,Nat.succ_mul];have:=w y i;omega)
   exact⟨p,by rw[aZ,u,x];simp⟩
 have:=key l 0 g [] (by simp) (cK _) (by simp);simpa using this
end Go.AM
namespace Go.AM
theorem gL{e σ:Type}{base:Nat}{clr:List Nat}{b:az}(l:List e)(S:Nat→σ→St)(yq:Nat→σ→Prop)(g:σ→e→σ)(E:σ→Ex×St)
  (c:∀k y s,k<l.length→l[k]?=some y→yq k s→dh base clr b (run code b (S k s))=bU code base clr b (S (k+1) (g s y))∧yq (k+1) (g s y))
  (d:∀s,yq l.length s→dh base clr b (run code b (S l.length s))=some (E s)) (s:σ) (h:yq 0 s) :
  bU code base clr b (S 0 s)=some (E (l.foldl g s))∧yq l.length (l.foldl g s):=by
 have:=iQ (ρ:=Empty) (base:=base) (clr:=clr) (b:=b) l S yq (fun _ y s=>.inl (g s y)) E (fun r _=>r.elim) (fun k y s n j hi=>c k y s n j hi) d s h;have i:∀(m:List e) k s,dp (ρ:=Empty) (fun _ y s=>.inl (g s y)) m k s=.inl (m.foldl g s):=by
  intro m;induction m with
  |nil=>intro k s;rfl
  |cons a m f=>intro k s;simp only[dp,dX];exact f _ _
 rw[i]at this;exact⟨this.2,this.1⟩
end Go.AM
namespace Go.AM
open P
set_option maxHeartbeats 1000000
end Go.AM
namespace Go.AM
theorem aa0{n f:Nat}{args:List aq}{σ:aw}{r:aq×aw}(h:dV code n f args σ=some r):cC code f args σ=some r:=Ig (mf good f args σ) h
theorem kV{n f:Nat}{args:List aq}{v:aq}{σ:aw}(h:dV code n f args []=some (v,σ)):bB f args=some v:=by
 unfold bB;rw[aa0 h];rfl
end Go.AM
namespace Go.AM
open P
set_option maxHeartbeats 2000000
theorem lK(base:Nat)(clr:List Nat)(b:az)(s:St):bU code base clr b s=dh base clr b (run code b s):=ru good base clr b s
end Go.AM
namespace Go.AM
open P
set_option maxHeartbeats 2000000
set_option maxRecDepth 4000
theorem vm{g:br}(a:g.mode.isPure=true)(args:List aq)(σ:aw):mz code g args σ=((mz code g (args.map (snap σ)) []).map (·.1)).map (·,σ):=by
 unfold mz;have c:enter g args σ=enter g (args.map (snap σ)) []:=by
  have b:((args.map (snap σ)).take g.np).map (snap [])=(args.take g.np).map (snap σ):=by
   rw[←List.map_take,bY];exact aW fun x _=>pK σ [] x
  unfold enter;cases hg:g.mode<;>rw[hg]at a<;>first|exact absurd a (by decide)|(simp only[b])
 rw[c];cases run code g.body (enter g (args.map (snap σ)) []) with
 |none=>rfl
 |some r=>
  obtain⟨e,s⟩:=r;have key:(results s g.res).map (fun v=>iw g.mode σ s v)=(((results s g.res).map fun v=>iw g.mode [] s v).map (·.1)).map (·,σ):=by
   cases results s g.res with
   |none=>rfl
   |some v=>
    cases hg:g.mode<;>rw[hg]at a<;>first|exact absurd a (by decide)|rfl
  cases e with
  |ext _=>rfl
  |nrm=>exact key
  |ret=>exact key
theorem tZ{f:Nat}{g:br}(h:code.fns f=.nilfn g)(i:g.mode.isPure=true)(b:Bool)(xs:List aq)(σ:aw) :
  cC code f [.aa b xs] σ=(bB f [.aa b xs]).map (·,σ):=by
 unfold bB;rw[kQ good h,kQ good h];have k:kw σ (.aa b xs)=kw [] (.aa b xs):=by simp[kw,rd]
 rw[k];have e:∀(x:aq),(∀τ,snap τ x=x)→mz code g [x] σ=((mz code g [x] []).map (·.1)).map (·,σ):=fun x d=>by
  have:=vm i [x] σ;simpa only [aV,bm,d] using this
 have a:∀(x:aq),(∀τ,snap τ x=x)→mz code g [x] []=((mz code g [x] []).map (·.1)).map (·,([]:aw)):=fun x d=>by
  have:=vm i [x] [];simpa only [aV,bm,d] using this
 have j:∀τ,snap τ (.aa b xs)=.aa b xs:=fun τ=>by simp
 have c:∀t τ,snap τ (.emp t)=.emp t:=fun t τ=>by simp
 cases kw [] (.aa b xs) with
 |false=>simpa using e _ j
 |true=>
  simp only[cw];rw[e _ (c true),e _ (c false),a _ (c true),a _ (c false)];cases mz code g [.emp true] [] with
  |none=>rfl
  |some r=>cases mz code g [.emp false] [] with
   |none=>rfl
   |some q=>
    simp only[dK,cH,BR,lM];split<;>rfl
def Plain(v:aq):Prop:=aM v=4∧isAgg v=true∧∀fl top base σ n,fz fl top base σ (n+2) v=v
structure aqE (r:List aq):Prop where
 vals:∀v∈r,Plain v
 clone:bB I.slices_Clone_api_Row_api_Value [.aa false r]=some (.frs 4 r)
 right:bB I.row_right [.aa false r]=some (.bool true)
def aeV(rs:List (List aq)):List aq:=rs.map (.aa false)
@[simp] theorem aew(b:List (List aq)):(aeV b).map aM=List.replicate b.length 1:=by
 simp only[aeV,bY];rw[lf];exact⟨by simp,fun x a=>by simp at a;obtain⟨_,_,rfl⟩:=a;rfl⟩
end Go.AM
namespace Go.AM
structure P5 {α:Type} (c:α→α→Int):Prop where
 anti:∀x y,c x y<0↔0<c y x
 tr:∀x y z,c x y≤0→c y z≤0→c x z≤0
namespace P5
variable {α:Type} {c d:α→α→Int}
theorem lt_le(h:P5 c){x y z:α}(d:c x y<0)(a:c y z≤0):c x z<0:=by
 have e:=h.anti x z;have b:=h.anti x y;have f:=h.tr y z x a;omega
theorem le_lt(h:P5 c){x y z:α}(b:c x y≤0)(f:c y z<0):c x z<0:=by
 have d:=h.anti x z;have a:=h.anti y z;have e:=h.tr z x y;omega
theorem zero(h:P5 c){x y:α}:c x y=0↔c y x=0:=by
 have:=h.anti x y;have:=h.anti y x;omega
end P5
def lex(a b:Int):Int:=if a≠0 then a else b
theorem P5.lex{α:Type}{c d:α→α→Int}(a:P5 c)(hd:P5 d):P5 fun x y=>lex (c x y) (d x y) where
 anti x y:=by
  have b:=a.anti x y;have e:=a.anti y x;have p:=hd.anti x y;unfold Go.AM.lex;split<;>split<;>omega
 tr x y z b e:=by
  unfold Go.AM.lex at *;have n:=fun h=>a.lt_le (x:=x) (y:=y) (z:=z) h;have g:=fun h f=>a.le_lt (x:=x) (y:=y) (z:=z) h f;have o:=a.tr x y z;have i:=hd.tr x y z;have l:=a.anti x z;have j:=a.tr z y x;have q:=a.anti x y;have r:=a.anti y z;have s:=a.anti y x;have m:=a.anti z y;have k:=a.anti z x;split at b<;>split at e<;>split<;>omega
theorem P5.on{α a:Type}{c:α→α→Int}(h:P5 c)(f:a→α):P5 fun x y=>c (f x) (f y):=⟨fun x y=>h.anti _ _,fun x y z=>h.tr _ _ _⟩
theorem P5.neg{α:Type}{c:α→α→Int}(h:P5 c):P5 fun x y=>-c x y where
 anti x y:=by have:=h.anti y x;have:=h.anti x y;omega
 tr x y z h1 h2:=by
  have i:=h.tr z y x;have a:=h.anti x y;have b:=h.anti y z;have e:=h.anti x z;have g:=h.anti y x;have f:=h.anti z y;have d:=h.anti z x;omega
structure wm where
 k:Int
 n:Int
 u:Int
 s:List UInt8
 deriving DecidableEq,Inhabited
section
variable {α:Type} (c:α→α→Int)
variable {c}
abbrev Pa:=List wm
abbrev an1:=List Pa
end
end Go.AM
namespace Go.AM
open P
set_option maxHeartbeats 2000000
set_option maxRecDepth 4000
def wm.a(v:wm):aq:=.agg [.int .i64 v.k,.int .i64 v.n,.int .u64 v.u,.str v.s]
def alG(r:Pa):List aq:=r.map wm.a
@[simp] theorem amV(v:wm):aM v.a=4:=rfl
@[simp] theorem aoP(v:wm):isAgg v.a=true:=rfl
@[simp] theorem aph(v:wm)(fl top:Bool)(base:Nat)(σ:aw)(n:Nat):fz fl top base σ (n+2) v.a=v.a:=by simp[wm.a]
def IQ(v:wm):wm:=
 if v.k=1 then (if v.n≠0∧v.n≠1 then v else { v with k:=0,n:=0 })
 else if v.k=2 then { v with k:=0,n:=0 }
 else if v.k=0 then v
 else if v.k=3 then (if v.s.length≤40 then { v with k:=0,s:=[] } else v)
 else if v.k=4 then { v with k:=0,n:=0,u:=0 }
 else v
def okV(v:wm):Bool:=IQ v == ⟨0,0,0,[]⟩
theorem C1{a b:Int}(h:¬a=b):(a != b)=true:=by simp[h]
theorem fa{a b:Int}(h:¬a=b):(a==b)=false:=by simp[h]
theorem QA(v:wm):bB I.qhn [v.a]=some (IQ v).a:=by
 rw[aT amS rfl];obtain⟨k,n,u,s⟩:=v;unfold IQ wm.a;by_cases h:k=1
 ·subst h;by_cases d:n=0
  ·subst d;simp[arz,A3]
  by_cases a:n=1
  ·subst a;simp[arz,A3]
  simp[arz,A3,C1 d,C1 a,d,a]
 by_cases g:k=2
 ·subst g;simp[arz,A3]
 by_cases c:k=0
 ·subst c;simp[arz,A3]
 by_cases f:k=3
 ·subst f;by_cases i:s.length≤40
  ·have b:((s.length:Int)≤40):=by omega
   simp[arz,A3,i,b]
  have b:¬((s.length:Int)≤40):=by omega
  simp[arz,A3,i,b]
 by_cases e:k=4
 ·subst e;simp[arz,A3]
 simp[arz,A3,fa h,fa g,fa c,fa f,fa e,h,g,c,f,e]
theorem VZ(k n u:Int)(s:List UInt8):(wm.mk k n u s).a=.agg [.int .i64 k,.int .i64 n,.int .u64 u,.str s]:=rfl
theorem Qx(v:wm):bB I.qhl [v.a]=some (.int .i64 (if okV v then 0 else 120)):=by
 rw[aT amG rfl];have h:=QA v;unfold okV;generalize f:IQ v=w at h;obtain⟨k,n,u,s⟩:=w;by_cases a:k=0
 ·by_cases b:n=0
  ·by_cases c:u=0
   ·by_cases d:s=[]
    ·subst a b c d;simp[arY,Kr,h,VZ]
    have e:(s==[])=false:=by simp[d]
    subst a b c;simp[arY,Kr,h,VZ,d,e]
   subst a b;simp[arY,Kr,h,VZ,c,fa c]
  subst a;simp[arY,Kr,h,VZ,b,fa b]
 simp[arY,Kr,h,VZ,a,fa a]
end Go.AM
namespace Go.AM
open P
set_option maxHeartbeats 2000000
set_option maxRecDepth 4000
def anR:aq→wm
 |.agg [.int _ k,.int _ n,.int _ u,.str s]=>⟨k,n,u,s⟩
 |_=>default
@[simp] theorem aoB(v:wm):anR v.a=v:=rfl
end Go.AM
namespace Go.AM
open P
set_option maxHeartbeats 4000000
set_option maxRecDepth 4000
end Go.AM
namespace Go.AM
open P
set_option maxHeartbeats 4000000
set_option maxRecDepth 4000
def iq(o:Int×Bool):aq:=.agg [.int .i64 o.1,.bool o.2]
end Go.AM
namespace Go.AM
open P
set_option maxHeartbeats 4000000
set_option maxRecDepth 4000
def akZ:aq→Int×Bool
 |.agg [.int _ c,.bool d]=>(c,d)
 |_=>(0,false)
@[simp] theorem aoX(o:Int×Bool):akZ (iq o)=o:=rfl
@[simp] theorem aeH(r:Pa):(alG r).map aM=List.replicate r.length 4:=by
 unfold alG;rw[bY,lf];exact⟨by simp,fun x a=>by simp at a;exact a.2.symm▸rfl⟩
end Go.AM
namespace Go.AM
class Nc {α:Type} (f:α→aq) (n:outParam Nat) (g:outParam Bool):Prop where
 nc:∀y,aM (f y)=n
 ag:∀y,isAgg (f y)=g
class Fx {α:Type} (f:α→aq):Prop where
 fx:∀fl top base σ n y,fz fl top base σ (n+3) (f y)=f y
class Ft {α:Type} (f:α→aq):Prop where
 ft:∀fl top base σ n y,(fl ||top)=true→fz fl top base σ (n+3) (f y)=f y
abbrev i64(n:Int):aq:=ap n
instance:Nc (fun n=>aq.int .i64 n) 1 false:=⟨fun _=>rfl,fun _=>rfl⟩
instance:Nc (aq.int .i64) 1 false:=⟨fun _=>rfl,fun _=>rfl⟩
instance:Fx (aq.int .i64):=⟨fun _ _ _ _ _ _=>rfl⟩
instance:Nc wm.a 4 true:=⟨fun _=>rfl,fun _=>rfl⟩
instance:Fx wm.a:=⟨fun fl top base σ n y=>aph y fl top base σ (n+1)⟩
instance {α:Type} (f:α→aq) [Fx f]:Ft f:=⟨fun fl top base σ n y _=>Fx.fx fl top base σ n y⟩
section
variable {α:Type} {f:α→aq} {m:Nat} {g:Bool}
@[simp] theorem aoO[Fx f](fl top:Bool)(base:Nat)(σ:aw)(n:Nat)(l:List α):List.map (fz fl top base σ (n+3)∘f) l=List.map f l:=
 aW fun y _=>Fx.fx fl top base σ n y
@[simp] theorem ajW[Ft f](top:Bool)(base:Nat)(σ:aw)(n:Nat)(l:List α):List.map (fz true top base σ (n+3)∘f) l=List.map f l:=
 aW fun y _=>Ft.ft true top base σ n y rfl
@[simp] theorem afw[Ft f](base:Nat)(σ:aw)(l:List α):List.map (cn base σ∘f) l=List.map f l:=
 aW fun y _=>Ft.ft false true base σ 17 y rfl
@[simp] theorem aoK[Nc f m g](l:List α):List.map (aM∘f) l=List.replicate l.length m:=by
 rw[lf]
 exact⟨by simp,fun x a=>by
  obtain⟨y,_,rfl⟩:=bK.1 a;exact Nc.nc y⟩
theorem HY[Nc f m g](l:List α):((l.map f).all fun y=>aM y==m)=true:=by
 rw[aY];intro x a;obtain⟨y,_,rfl⟩:=bK.1 a;simp[Nc.nc y]
@[simp] theorem KZ(l:List α)(f:α→aq):List.take l.length (List.map f l)=List.map f l:=ay (by simp)
end
end Go.AM
namespace Go.AM
structure iN (α:Type) where
 b:Bool
 l:List α
abbrev iN.c{α:Type}(f:α→aq)(s:iN α):aq:=.aa s.b (s.l.map f)
end Go.AM
namespace Go.AM
open P
set_option maxHeartbeats 64000000
set_option maxRecDepth 40000
theorem aG(a b:az)(s:St)(c:Bool):GP a b s (aC c)=if c=true then run code a s else run code b s:=by cases c<;>rfl
theorem bd(env:List aq)(x:db)(b:Bool)(o:IK)(a:List cr)(ls:List aq)(σ:aw)(c:Bool) :
  GN env (P.g x b o) a ls σ (some c)=if c=true then Ca env a ls (step code env ls σ o) else o9 code env a (ls++[fy []]) σ:=by cases c<;>rfl
end Go.AM
namespace Go.AM
open P
set_option maxHeartbeats 2000000
set_option maxRecDepth 4000
end Go.AM
namespace Go.AM
open P
set_option maxHeartbeats 4000000
set_option maxRecDepth 4000
end Go.AM
namespace Go.AM
open P
set_option maxHeartbeats 4000000
set_option maxRecDepth 4000
end Go.AM
namespace Go.AM
open P
set_option maxHeartbeats 4000000
set_option maxRecDepth 4000
def wI(res:List Oi)(r:Option (Ex×St)):Option (aq×aw):=r.bind fun r=>match r.1 with
 |.ext _=>none
 |_=>(results r.2 res).map fun v=>(v,r.2.st)
@[simp] theorem acd(a:List Oi)(s:St):wI a (some (.ret,s))=(results s a).map fun v=>(v,s.st):=rfl
@[simp] theorem aea(a:List Oi)(s:St):wI a (some (.nrm,s))=(results s a).map fun v=>(v,s.st):=rfl
theorem cz{f:Nat}{g:br}(h:code.fns f=.fn g)(a:g.mode=.keep)(args:List aq)(σ:aw) :
  cC code f args σ=wI g.res (run code g.body ⟨args.take g.np++List.replicate (g.nenv-g.np) .any,σ⟩):=by
 rw[yV good h];have b:enter g args σ=⟨args.take g.np++List.replicate (g.nenv-g.np) .any,σ⟩:=by unfold enter;rw[a]
 rw[b];unfold wI;congr 1;funext r;obtain⟨e,s⟩:=r;unfold qY iw;rw[a];cases e<;>rfl
end Go.AM
namespace Go.AM
open P
set_option maxHeartbeats 64000000
set_option maxRecDepth 40000
theorem rz{c:Type}{f:c→aq}{m:Nat}{g:Bool}[Nc f m g][Fx f](l:List c)(id ep:Nat)(σ:aw)(h:σ[id]?=some (aB m ep (l.map f))):rL m σ (.sl id ep 0 l.length)=.frs m (l.map f):=by
 have d:(l.map f).take l.length=l.map f:=ay (by simp);have b:∀a,(l.map f).map (rr a)=l.map f:=fun a=>by
  rw[bY];exact aW fun y _=>Fx.fx false false 0 a 17 y
 simp only[rL,h,d,b,UQ];simp
theorem rJ{n:Int}(a:-9223372036854775808≤n)(b:n<9223372036854775808):IntKind.i64.wrap n=n:=jL ⟨a,b⟩
abbrev sq(f:aq):Prop:=∀σ,fz true false 0 σ 20 f=f
def wd{α:Type}(p:α→Bool)(l:List α):Int:=if l.any p then ((l.findIdx p:Nat):Int) else -1
theorem Jv{q:Type}{enc:q→aq}{b:Bool}{l:List q}{f:aq}{p:q→Bool}(u:l.length≤bC)(t:∀y,aM (enc y)=1∧isAgg (enc y)=false)(x:sq f)
  (h:∀y∈l,jp code f [enc y] []=some (aC (p y),[])):bB I.qhd [.aa b (l.map enc),f]=some (ap (wd p l)):=by
 rw[aT anu rfl];have e:=x [];have c:∀k,k<l.length→∀y,l[k]?=some y→p y=false→dh 0 [2,3,6,7] tf (run code tf ⟨[.aa b (l.map enc),f,am,am,ap l.length,ap k,am,am],[]⟩) =
   bU code 0 [2,3,6,7] tf ⟨[.aa b (l.map enc),f,am,am,ap l.length,ap (k+1:Nat),am,am],[]⟩:=fun k d y n r=>by
  have s:=t y;have i:=h y (aN n);rw[r]at i;have m:((k:Int)<(l.length:Int)):=by omega
  simp[tf,n,s,i,m,cW d u,cN]
 unfold wd;by_cases o:l.any p=true
 ·have m:=bM (cB.1 o);have r:p l[l.findIdx p]=true:=du (w:=m);have a:=dl (base:=0) (clr:=[2,3,6,7]) (b:=tf) (fun k=>⟨[.aa b (l.map enc),f,am,am,ap l.length,ap k,am,am],[]⟩) (l.findIdx p)
   (.ret,⟨[.aa b (l.map enc),f,ap (l.findIdx p),ap (l.findIdx p),ap l.length,ap (l.findIdx p),aC true,aC true],[]⟩)
   (fun k d=>c k (by omega) _ (au (by omega)) (by simpa using cU d))
   (by
    have v:l[l.findIdx p]?=some l[l.findIdx p]:=au m;have s:=t l[l.findIdx p];have i:=h _ (aJ m);rw[r]at i;have j:((l.findIdx p:Int)<(l.length:Int)):=by omega
    simp[tf,v,s,i,j])
  simp at a;simp[atd,abg,e,a,o]
 have g:∀y∈l,p y=false:=fun y n=>by simpa using cQ.1 (eB _▸o) y n
 have a:=dl (base:=0) (clr:=[2,3,6,7]) (b:=tf) (fun k=>⟨[.aa b (l.map enc),f,am,am,ap l.length,ap k,am,am],[]⟩) l.length
  (.ext 0,⟨[.aa b (l.map enc),f,am,am,ap l.length,ap l.length,aC false,am],[]⟩)
  (fun k d=>c k d _ (au d) (g _ (aJ d)))
  (by simp[tf])
 simp at a;simp[atd,abg,e,a,o]
theorem rD{a:Type}{enc:a→aq}{b:Bool}{l:List a}{f:aq}{p:a→Bool}(e:l.length≤bC)(g:∀y,aM (enc y)=1∧isAgg (enc y)=false)(d:sq f)
  (h:∀y∈l,jp code f [enc y] []=some (aC (p y),[])):bB I.qgm [.aa b (l.map enc),f]=some (aC (l.any p)):=by
 rw[aT amA rfl];have h:=Jv (b:=b) e g d h;have c:=d [];unfold wd at h;cases ha:l.any p<;>rw[ha]at h<;>simp[aug,agV,c,h]
theorem yh{q:Type}{enc:q→aq}{b:Bool}{l:List q}{f:aq}{p:q→Bool}(u:l.length≤bC)(t:∀y,aM (enc y)=2∧isAgg (enc y)=true)(x:sq f)
  (h:∀y∈l,jp code f [enc y] []=some (aC (p y),[])):bB I.qgz [.aa b (l.map enc),f]=some (ap (wd p l)):=by
 rw[aT alw rfl];have e:=x [];have c:∀k,k<l.length→∀y,l[k]?=some y→p y=false→dh 0 [2,3,6,7] tQ (run code tQ ⟨[.aa b (l.map enc),f,am,am,ap l.length,ap k,am,am],[]⟩) =
   bU code 0 [2,3,6,7] tQ ⟨[.aa b (l.map enc),f,am,am,ap l.length,ap (k+1:Nat),am,am],[]⟩:=fun k d y n r=>by
  have s:=t y;have i:=h y (aN n);rw[r]at i;have m:((k:Int)<(l.length:Int)):=by omega
  simp[tQ,n,s,i,m,cW d u,cN]
 unfold wd;by_cases o:l.any p=true
 ·have m:=bM (cB.1 o);have r:p l[l.findIdx p]=true:=du (w:=m);have a:=dl (base:=0) (clr:=[2,3,6,7]) (b:=tQ) (fun k=>⟨[.aa b (l.map enc),f,am,am,ap l.length,ap k,am,am],[]⟩) (l.findIdx p)
   (.ret,⟨[.aa b (l.map enc),f,ap (l.findIdx p),ap (l.findIdx p),ap l.length,ap (l.findIdx p),aC true,aC true],[]⟩)
   (fun k d=>c k (by omega) _ (au (by omega)) (by simpa using cU d))
   (by
    have v:l[l.findIdx p]?=some l[l.findIdx p]:=au m;have s:=t l[l.findIdx p];have i:=h _ (aJ m);rw[r]at i;have j:((l.findIdx p:Int)<(l.length:Int)):=by omega
    simp[tQ,v,s,i,j])
  simp at a;simp[asv,aaW,e,a,o]
 have g:∀y∈l,p y=false:=fun y n=>by simpa using cQ.1 (eB _▸o) y n
 have a:=dl (base:=0) (clr:=[2,3,6,7]) (b:=tQ) (fun k=>⟨[.aa b (l.map enc),f,am,am,ap l.length,ap k,am,am],[]⟩) l.length
  (.ext 0,⟨[.aa b (l.map enc),f,am,am,ap l.length,ap l.length,aC false,am],[]⟩)
  (fun k d=>c k d _ (au d) (g _ (aJ d)))
  (by simp[tQ])
 simp at a;simp[asv,aaW,e,a,o]
theorem vP{a:Type}{enc:a→aq}{b:Bool}{l:List a}{f:aq}{p:a→Bool}(e:l.length≤bC)(g:∀y,aM (enc y)=2∧isAgg (enc y)=true)(d:sq f)
  (h:∀y∈l,jp code f [enc y] []=some (aC (p y),[])):bB I.qgi [.aa b (l.map enc),f]=some (aC (l.any p)):=by
 rw[aT amT rfl];have h:=yh (b:=b) e g d h;have c:=d [];unfold wd at h;cases ha:l.any p<;>rw[ha]at h<;>simp[atq,aeK,c,h]
theorem A0{h:Type}{enc:h→aq}[Nc enc 1 false][Fx enc](b:Bool)(l:List h)(j:l.length≤bC):bB I.qgd [.aa b (l.map enc)]=some (.frs 1 (l.map enc)):=by
 cases l with
 |nil=>cases b<;>exact kV (n:=20) (σ:=[]) (by kernel_rfl)
 |cons v r=>
  have a:=HY (f:=enc) (v::r);have m:((v::r).map enc).length=r.length+1:=by simp
  have d:kw [] (.aa b ((v::r).map enc))=false:=rfl;unfold bB;rw[kQ good YS,d];simp only[bq,cI];unfold mz;have g:r.length+1≤bC:=by simpa using j
  have c:uN false [] (.aa b ((v::r).map enc))=some (aC false):=rfl;have i:=rz (f:=enc) (v::r) 0 0 [aB 1 0 ((v::r).map enc)] rfl;have e:(v::r).map enc≠[]:=by simp
  have k:∀x,x∈(v::r).map enc→aM x=1:=fun x e=>by simpa using aY.1 a x e
  have o:((v::r).map enc).take (r.length+1)=(v::r).map enc:=ay (by simp);simp only[bA]at i;generalize (v::r).map enc=xs at *;simp[atP,agL,enter,qY,append,a,m,g,-uN,c,e];rw[if_pos k];simp[qY];exact i
@[simp] theorem p6{a:Type}{enc:a→aq}[Nc enc 1 false][Fx enc](b:Bool)(l:List a)(c:l.length≤bC)(σ:aw):cC code I.qgd [.aa b (l.map enc)] σ=some (.frs 1 (l.map enc),σ):=by
 rw[tZ YS rfl,A0 b l c];rfl
theorem HT{l:Type}{enc:l→aq}[Nc enc 1 false][Fx enc](b:Bool)(ls:List (iN l))(M:(ls.flatMap (·.l)).length≤bC)(E:ls.length≤bC) :
  bB I.qgf [.aa b (ls.map (iN.c enc))]=some (.aa false ((ls.flatMap (·.l)).map enc)):=by
 rw[aT aml rfl];have p:∀(r:List (iN l)) (k:Nat),ls.drop k=r→(ls.flatMap (·.l)).length=((ls.take k).flatMap (·.l)).length+(r.flatMap (·.l)).length:=fun r k h=>by
  have:=congrArg (fun x=>(x.flatMap (fun (s:iN l)=>s.l)).length) (pf k ls);simp only[jy,bZ,h]at this;omega
 generalize J:ls.flatMap (·.l)=F at *;have S:F.length≤68719476736:=M;have j:=p;have u:∀(r:List (iN l)) (k:Nat),ls.drop k=r→k≤ls.length→bU code 0 [3,9,10] F5 ⟨[.aa b (ls.map (iN.c enc)),.ai,ap (((ls.take k).flatMap (·.l)).length:Nat),am,am,am,.aa b (ls.map (iN.c enc)),ap ls.length,ap k,am,am,am,am,am,am],[]⟩ =
   some (.ext 0,⟨[.aa b (ls.map (iN.c enc)),.ai,ap (F.length:Nat),am,am,am,.aa b (ls.map (iN.c enc)),ap ls.length,ap ls.length,aC false,am,am,am,am,am],[]⟩):=by
  intro r;induction r with
  |nil=>
   intro k hd D;have:k=ls.length:=by
    have:=congrArg List.length hd;simp at this;omega
   subst this;rw[aZ,de,J];simp[F5]
  |cons y r a=>
   intro k hd D;have m:k<ls.length:=by
    have:=congrArg List.length hd;simp at this;omega
   have f:ls[k]?=some y:=by
    have:=congrArg (·[0]?) hd;simpa using this
   have o:ls.drop (k+1)=r:=by
    have:=congrArg List.tail hd;simpa [kN] using this
   have hi:((k:Int)<(ls.length:Int)):=by omega
   have g:=j r (k+1) o;have U:((ls.take (k+1)).flatMap (·.l)).length=((ls.take k).flatMap (·.l)).length+y.l.length:=by
    rw[eH,f];simp
   have a:=a (k+1) o (by omega);rw[U]at a g;generalize ((ls.take k).flatMap (·.l)).length=s at *;have w:=rJ (n:=(s:Int)+(y.l.length:Int)) (by omega) (by omega);have C:¬((s:Int)+(y.l.length:Int)<0):=by omega
   rw[aZ,←a];simp[F5,hi,f,w,C,cW m E,cN]
 have u:=u ls 0 (by simp) (by simp);simp at u;have W:∀(r:List (iN l)) (k ep:Nat) (es:List aq),ls.drop k=r→k≤ls.length→es.take ((ls.take k).flatMap (·.l)).length=((ls.take k).flatMap (·.l)).map enc→((ls.take k).flatMap (·.l)).length≤es.length→∃c es',es'.take F.length=F.map enc∧F.length≤es'.length ∧
   bU code 1 [5,14] vF ⟨[.aa b (ls.map (iN.c enc)),.ai,ap (F.length:Nat),am,.sl 0 ep 0 ((ls.take k).flatMap (·.l)).length,am,.aa b (ls.map (iN.c enc)),ap ls.length,ap ls.length,aC false,am,.aa b (ls.map (iN.c enc)),ap ls.length,ap k,am],[aB 1 ep es]⟩ =
   some (.ext 2,⟨[.aa b (ls.map (iN.c enc)),.ai,ap (F.length:Nat),am,.sl 0 c 0 F.length,am,.aa b (ls.map (iN.c enc)),ap ls.length,ap ls.length,aC false,am,.aa b (ls.map (iN.c enc)),ap ls.length,ap ls.length,aC false],[aB 1 c es']⟩):=by
  intro r;induction r with
  |nil=>
   intro k ep es hd D B d;have:k=ls.length:=by
    have:=congrArg List.length hd;simp at this;omega
   subst this;rw[de,J]at B d;refine⟨ep,es,B,d,?_⟩;rw[aZ,de,J];simp[vF]
  |cons y r a=>
   intro k ep es hd D B d;have m:k<ls.length:=by
    have:=congrArg List.length hd;simp at this;omega
   have f:ls[k]?=some y:=by
    have:=congrArg (·[0]?) hd;simpa using this
   have o:ls.drop (k+1)=r:=by
    have:=congrArg List.tail hd;simpa [kN] using this
   have hi:((k:Int)<(ls.length:Int)):=by omega
   have g:=j r (k+1) o;have R:(ls.take (k+1)).flatMap (·.l)=(ls.take k).flatMap (·.l)++y.l:=by
    rw[eH,f];simp
   have a:=fun ep es=>a (k+1) ep es o (by omega);rw[R]at a g;generalize (ls.take k).flatMap (·.l)=s at *;rw[bZ]at g;by_cases e:y.l=[]
   ·rw[e,dO]at a;obtain⟨c,es',v,A,t⟩:=a ep es B d;refine⟨c,es',v,A,?_⟩;rw[aZ,←t];simp[vF,hi,f,e,append,cW m E,cN]
   obtain⟨c,es',v,A,t⟩:=a (ep+1) (s.map enc++y.l.map enc) (by rw[←List.map_append];exact ay (by simp)) (by simp);refine⟨c,es',v,A,?_⟩;have V:s.length+y.l.length≤bC:=by unfold bC;omega
   have z:∀x∈y.l,aM (enc x)=1:=fun x _=>Nc.nc x;rw[bZ]at t;rw[aZ,←t];simp[vF,hi,f,e,append,d,B,V,cW m E,cN];rw[if_pos z];simp[cN,cW m E]
 have q:0<F.length→cC code I.qgu [.ai,ap (F.length:Nat)] []=some (.sl 0 0 0 0,[aB 1 0 (List.replicate F.length (ap 0))]):=fun H=>by
  rw[cz agl rfl];generalize F.length=n at *;have T:¬((n:Int)<0):=by omega
  have P:(0:Int)<(n:Int):=by omega
  have O:=rJ (n:=(n:Int)) (by omega) (by omega);have L:IntKind.i64.wrap 0=0:=rfl;simp[as6,XP,T,P,O,L,append,M,H,show ¬n=0 by omega,show (n:Int).toNat=n by omega]
 have i:cC code I.qgu [.ai,ap 0] []=some (.ai,[]):=by
  rw[cz agl rfl];have L:IntKind.i64.wrap 0=0:=rfl;simp[as6,XP,L]
 by_cases H:F.length=0
 ·have G:∀(r:List (iN l)) (k:Nat),ls.drop k=r→k≤ls.length→bU code 0 [5,14] vF ⟨[.aa b (ls.map (iN.c enc)),.ai,ap 0,am,.ai,am,.aa b (ls.map (iN.c enc)),ap ls.length,ap ls.length,aC false,am,.aa b (ls.map (iN.c enc)),ap ls.length,ap k,am],[]⟩ =
    some (.ext 2,⟨[.aa b (ls.map (iN.c enc)),.ai,ap 0,am,.ai,am,.aa b (ls.map (iN.c enc)),ap ls.length,ap ls.length,aC false,am,.aa b (ls.map (iN.c enc)),ap ls.length,ap ls.length,aC false],[]⟩):=by
   intro r;induction r with
   |nil=>
    intro k hd D;have:k=ls.length:=by
     have:=congrArg List.length hd;simp at this;omega
    subst this;rw[aZ];simp[vF]
   |cons y r a=>
    intro k hd D;have m:k<ls.length:=by
     have:=congrArg List.length hd;simp at this;omega
    have f:ls[k]?=some y:=by
     have:=congrArg (·[0]?) hd;simpa using this
    have o:ls.drop (k+1)=r:=by
     have:=congrArg List.tail hd;simpa [kN] using this
    have hi:((k:Int)<(ls.length:Int)):=by omega
    have e:y.l=[]:=by
     have N:=da H;rw[←J,List.flatMap_eq_nil_iff]at N;exact N y (aN f)
    rw[aZ,←a (k+1) o (by omega)];simp[vF,hi,f,e,append,cW m E,cN]
  have G:=G ls 0 (by simp) (by simp);simp at G;have K:=da H;subst K;simp at u;simp[asW,Ys,u,G,i]
 obtain⟨ep,es,v,A,t⟩:=W ls 0 0 (List.replicate F.length (ap 0)) (by simp) (by simp) (by simp) (by simp);have Q:=q (by omega);simp at t;simp[asW,Ys,u,Q,t,v,A];exact fun y _=>by rw[Fx.fx]
abbrev cG(l:List Int):List aq:=l.map (.int .i64)
def dF(l:List Int):List Int:=l.foldl (fun acc x=>if acc.getLast?=some x then acc else acc++[x]) []
theorem rU(l:List Int)(x:Int):dF (l++[x])=if (dF l).getLast?=some x then dF l else dF l++[x]:=by
 unfold dF;simp[List.foldl_append]
theorem Hb{b:Type}{p:List b→Prop}(l:List b)(c:p [])(d:∀l x,p l→p (l++[x])):p l:=by
 have:∀m:List b,p m.reverse:=fun m=>by
  induction m with
  |nil=>simpa using c
  |cons a m e=>rw[List.reverse_cons];exact d _ _ e
 simpa using this l.reverse
theorem AH(l:List Int):(dF l).getLast?=l.getLast?:=by
 refine Hb (p:=fun l=>(dF l).getLast?=l.getLast?) l rfl fun l x a=>?_;rw[rU];split
 ·rename_i h;rw[h];simp
 simp
theorem CA(l:List Int)(x:Int):x∈dF l↔x∈l:=by
 refine Hb (p:=fun l=>x∈dF l↔x∈l) l (by simp[dF]) fun l y b=>?_;rw[rU];split
 ·rename_i h;rw[b];constructor
  ·intro a;simp[a]
  intro a;rcases ba.1 a with a|a
  ·exact a
  simp at a;subst a;rw[AH]at h;exact List.mem_of_getLast? h
 simp[b]
theorem sh(l:List Int):(dF l).length≤l.length:=by
 refine Hb (p:=fun l=>(dF l).length≤l.length) l (aF _) fun l y a=>?_;rw[rU];split<;>simp<;>omega
theorem vU{l:List Int}{j:Nat}(a:j<l.length)(b:0<j):dF (l.take (j+1))=if l[j-1]=l[j] then dF (l.take j) else dF (l.take j)++[l[j]]:=by
 rw[dt a,rU,AH];have:(l.take j).getLast?=some l[j-1]:=by
  rw[List.getLast?_eq_getElem?];simp[gu];have:min j l.length=j:=by omega
  rw[this];simp[show j-1<j by omega,show j-1<l.length by omega]
 rw[this];simp
theorem aca{σ:aw}{id:Nat}{o o':Obj}(h:σ[id]?=some o):(σ.set id o')[id]?=some o':=by
 have:=(ak.1 h).1;simp[this]
def mO(l:List Int)(k0:Nat):Nat→List Int×Nat
 |0=>(l,k0)
 |m+1=>let p:=mO l k0 m
  if l.getD (k0+m+1) 0=l.getD (k0+m) 0 then p else (p.1.set p.2 (l.getD (k0+m+1) 0),p.2+1)
theorem Dk{l:List Int}{a:Nat}(d:0<a)(h:a<l.length)(hd:l[a-1]=l[a])(i:dF (l.take a)=l.take a):∀m,a+m<l.length →
  (mO l a m).1.length=l.length∧(mO l a m).2≤a+m∧(mO l a m).1.take (mO l a m).2=dF (l.take (a+m+1))∧(mO l a m).1.drop (a+m)=l.drop (a+m)
 |0,_=>by
  have:=vU (l:=l) h d;rw[if_pos hd,i]at this;simp[mO,this]
 |m+1,s=>by
  obtain⟨f,r,g,p⟩:=Dk d h hd i m (by omega);have q:l.getD (a+m+1) 0=l[a+m+1]:=by simp[aR,show a+m+1<l.length by omega]
  have o:l.getD (a+m) 0=l[a+m]:=by simp[aR,show a+m<l.length by omega]
  have b:=vU (l:=l) (j:=a+m+1) (by omega) (by omega);have k:(mO l a m).1.drop (a+(m+1))=l.drop (a+(m+1)):=by
   have:=congrArg (List.drop 1) p;simpa [nz,dA,iu,Nat.add_left_comm] using this
  unfold mO;simp only[q,o];by_cases c:l[a+m+1]=l[a+m]
  ·rw[if_pos c];rw[if_pos (by simpa using c.symm)]at b;exact⟨f,by omega,by rw[g];simpa [dA] using b.symm,k⟩
  rw[if_neg c];rw[if_neg (by simpa using fun e=>c e.symm)]at b;refine⟨by simp[f],by simp;omega,?_,?_⟩
  ·have n:(mO l a m).2<(mO l a m).1.length:=by omega
   simp only;rw[dt (by simpa using n),List.take_set_of_le (by omega),g];simp only[iL];simpa [dA] using b.symm
  simp only;rw[List.drop_set_of_lt (by omega)];exact k
theorem uR{l:List Int}{k:Nat}(h:k<l.length):(cG l)[k]?=some (ap l[k]):=by simp[cG,h]
abbrev aag(σ:aw)(id ep n k0:Nat)(l:List Int)(m:Nat):St:=
 ⟨[.sl id ep 0 n,am,ap ((mO l k0 m).2:Nat),.sl id ep k0 (n-k0),ap ((m+1:Nat):Int),aC false,aC true,aC true,am,am],σ.set id (aB 1 ep (cG (mO l k0 m).1))⟩
theorem Pk{σ:aw}{id ep a:Nat}{l:List Int}(g:σ[id]?=some (aB 1 ep (cG l)))(G:l.length≤bC)(y:0<a)(C:a<l.length)(hd:l[a-1]=l[a])(t:dF (l.take a)=l.take a) :
  bU code σ.length [8,9] Ct (aag σ id ep l.length a l 0)=some (.ext 2,⟨[.sl id ep 0 l.length,am,ap ((dF l).length:Nat),.sl id ep a (l.length-a),ap ((l.length-a:Nat):Int),aC false,aC true,aC true,aC false,am],σ.set id (aB 1 ep (cG (mO l a (l.length-a-1)).1))⟩):=by
 refine dl (aag σ id ep l.length a l) (l.length-a-1) _ (fun m L=>?_) ?_
 ·obtain⟨p,o,c,f⟩:=Dk y C hd t m (by omega);have j:mO l a (m+1)=if l.getD (a+m+1) 0=l.getD (a+m) 0 then mO l a m else ((mO l a m).1.set (mO l a m).2 (l.getD (a+m+1) 0),(mO l a m).2+1):=rfl
  have v:l.getD (a+m+1) 0=l[a+m+1]:=by simp[aR,show a+m+1<l.length by omega]
  have F:l.getD (a+m) 0=l[a+m]:=by simp[aR,show a+m<l.length by omega]
  rw[v,F]at j;clear v F;unfold aag;rcases hA:mO l a m with⟨A,k⟩;rw[hA]at p o c f j;rw[j];clear j hA;simp only at p o c f;have i:=aca (o':=aB 1 ep (cG A)) g;have r:(cG A)[a+(m+1)]?=some (ap l[a+m+1]):=by
   have:A[a+(m+1)]=l[a+m+1]:=by
    have:=congrArg (fun x=>x[1]?) f;simp only[List.getElem?_drop]at this;rw[au (by omega),au (by omega)]at this;simpa [dA] using this
   rw[uR (by omega),this]
  have q:(cG A)[a+m]?=some (ap l[a+m]):=by
   have:A[a+m]=l[a+m]:=by
    have:=congrArg (fun x=>x[0]?) f;simp only[List.getElem?_drop]at this;rw[au (by omega),au (by omega)]at this;simpa [dA] using this
   rw[uR (by omega),this]
  have u:((m:Int)+1<((l.length-a:Nat):Int)):=by omega
  have H:l.length≤68719476736:=G;have s:=rJ (n:=(m:Int)) (by omega) (by omega);have w:=rJ (n:=(m:Int)+1+1) (by omega) (by omega);have z:=rJ (n:=(k:Int)+1) (by omega) (by omega);have E:m+1<l.length-a:=by omega
  have D:m<l.length-a:=by omega
  have K:k<l.length:=by omega
  have e:((m:Int)+1).toNat=m+1:=by omega
  have B:(0:Int)≤(m:Int)+1:=by omega
  have I:k<A.length:=by omega
  have h:(cG A)[k]?=some (ap A[k]):=uR I;by_cases d:l[a+m+1]=l[a+m]
  ·rw[if_pos d];simp[Ct,u,i,r,q,E,D,s,w,z,e,B,d,cN,-List.getElem?_map]
  rw[if_neg d];simp[Ct,u,i,r,q,E,D,K,s,w,z,e,B,d,cN,h,C1 d,-List.getElem?_map]
 obtain⟨p,o,c,f⟩:=Dk y C hd t (l.length-a-1) (by omega);have b:(dF l).length=(mO l a (l.length-a-1)).2:=by
  rw[show a+(l.length-a-1)+1=l.length by omega,de]at c;rw[←c,cY];omega
 rw[b];unfold aag;rcases hA:mO l a (l.length-a-1) with⟨A,k⟩;have i:=aca (o':=aB 1 ep (cG A)) g;have J:l.length-a-1+1=l.length-a:=by omega
 rw[J];simp[Ct,i]
theorem DA{σ:aw}{id:Nat}{o:Obj}(h:σ[id]?=some o):σ.set id o=σ:=by
 refine fb fun i=>?_;by_cases hi:id=i
 ·subst hi;rw[aca h,h]
 rw[aD hi]
theorem xc{l:List Int}(h:∀k (_:0<k) (c:k<l.length),l[k-1]≠l[k]):∀j,j≤l.length→dF (l.take j)=l.take j
 |0,_=>by simp[dF]
 |1,b=>by
  match l,b with
  |a::r,_=>simp[dF]
 |j+2,b=>by
  rw[vU (j:=j+1) (by omega) (by omega),if_neg (h (j+1) (by omega) (by omega)),xc h (j+1) (by omega),←List.take_succ_eq_append_getElem]
abbrev M8(σ:aw)(id ep n:Nat)(m:Nat):St:=⟨[.sl id ep 0 n,am,ap ((m+1:Nat):Int),am,am,aC false,am,am,am,am],σ⟩
theorem yc{σ:aw}{id ep:Nat}{l:List Int}(b:σ[id]?=some (aB 1 ep (cG l)))(e:l.length≤bC)(m:Nat)(c:m+1<l.length)(hd:l[m]≠l[m+1]) :
  dh σ.length [1,3,4,6,7,8,9] s7 (run code s7 (M8 σ id ep l.length m))=bU code σ.length [1,3,4,6,7,8,9] s7 (M8 σ id ep l.length (m+1)):=by
 have g:l.length≤68719476736:=e;have h:=rJ (n:=(m:Int)) (by omega) (by omega);have j:=rJ (n:=(m:Int)+1+1) (by omega) (by omega);have i:((m:Int)+1<(l.length:Int)):=by omega
 have f:=uR (l:=l) (k:=m+1) c;have d:=uR (l:=l) (k:=m) (by omega);have a:((m:Int)+1).toNat=m+1:=by omega
 have o:(0:Int)≤(m:Int)+1:=by omega
 have q:m<l.length:=by omega
 have p:(l[m+1]==l[m])=false:=fa (Ne.symm hd);simp[s7,M8,i,b,f,d,h,j,a,o,c,q,p,cN,-List.getElem?_map]
theorem V4(l:List Int):(∀k (_:0<k) (b:k<l.length),l[k-1]≠l[k])∨∃c,∃(_:0<c) (b:c<l.length),l[c-1]=l[c]∧∀k (_:0<k) (a:k<c),l[k-1]≠l[k]:=by
 have key:∀n,n≤l.length→(∀k (_:0<k) (b:k<n) (a:k<l.length),l[k-1]≠l[k])∨∃c,∃(_:0<c) (b:c<l.length),l[c-1]=l[c]∧∀k (_:0<k) (a:k<c),l[k-1]≠l[k]:=by
  intro n;induction n with
  |zero=>intro _;exact .inl fun k _ b=>absurd b (cZ _)
  |succ n f=>
   intro i;rcases f (by omega) with h|h
   ·by_cases d:0<n
    ·by_cases hd:l[n-1]=l[n]
     ·exact .inr ⟨n,d,by omega,hd,fun k b a=>h k b a (by omega)⟩
     exact .inl fun k b e a=>by
      by_cases g:k=n
      ·subst g;exact hd
      exact h k b (by omega) a
    exact .inl fun k b e a=>by omega
   exact .inr h
 rcases key l.length (aF _) with h|h
 ·exact .inl fun k d b=>h k d b b
 exact .inr h
theorem xE{σ:aw}{id ep:Nat}{l:List Int}(e:σ[id]?=some (aB 1 ep (cG l)))(j:l.length≤bC) :
  ∃A:List Int,cC code I.qge [.sl id ep 0 l.length] σ=some (.sl id ep 0 (dF l).length,σ.set id (aB 1 ep (cG A)))∧A.length=l.length∧A.take (dF l).length=dF l:=by
 rw[cz aom rfl];by_cases O:l.length<2
 ·have g:=xc (l:=l) (fun k p i=>by omega) l.length (aF _);rw[de]at g;refine⟨l,?_,rfl,by rw[g,de]⟩;have hi:((l.length:Int)<2):=by omega
  rw[g,DA e];simp[asn,Ub,e,hi]
 have hi:¬((l.length:Int)<2):=by omega
 rcases V4 l with h|⟨d,p,i,hd,v⟩
 ·have g:=xc h l.length (aF _);rw[de]at g;refine⟨l,?_,rfl,by rw[g,de]⟩;have a:=dl (base:=σ.length) (clr:=[1,3,4,6,7,8,9]) (b:=s7) (M8 σ id ep l.length) (l.length-1)
   (.ext 0,⟨[.sl id ep 0 l.length,am,ap l.length,am,am,aC false,aC false,am,am,am],σ⟩)
   (fun m K=>yc e j m (by omega) (h (m+1) (by omega) (by omega))) (by
    unfold M8;rw[show l.length-1+1=l.length by omega];simp[s7,e])
  unfold M8 at a;simp at a;rw[g,DA e];simp[asn,Ub,e,hi,a]
 have u:dF (l.take d)=l.take d:=by
  have:=xc (l:=l.take d) (fun k t q=>by
   simp at q;simpa using v k t (by omega)) d (by simp;omega)
  rwa [qJ,Nat.min_self]at this
 have f:=Pk (ep:=ep) e j p i hd u;obtain⟨H,L,o,M⟩:=Dk p i hd u (l.length-d-1) (by omega);rw[show d+(l.length-d-1)+1=l.length by omega,de]at o;have s:(mO l d (l.length-d-1)).2=(dF l).length:=by rw[←o,cY];omega
 rw[s]at o;generalize (mO l d (l.length-d-1)).1=A at *;have r:=sh l;generalize N:(dF l).length=c at *;have y:=fun o'=>aca (o':=o') e
 refine⟨A.take c++List.replicate (l.length-c) 0++A.drop (c+(l.length-c)),?_,by simp;omega,by
  rw[dG,gg (by simp;omega)];exact o⟩
 have a:=dl (base:=σ.length) (clr:=[1,3,4,6,7,8,9]) (b:=s7) (M8 σ id ep l.length) (d-1)
  (.ret,⟨[.sl id ep 0 l.length,.sl id ep 0 c,ap c,.sl id ep d (l.length-d),ap ((l.length-d:Nat):Int),aC false,aC true,aC true,aC false,am],σ.set id (aB 1 ep (cG (A.take c++List.replicate (l.length-c) 0++A.drop (c+(l.length-c)))))⟩)
  (fun m K=>yc e j m (by omega) (v (m+1) (by omega) (by omega))) (by
   unfold M8;rw[show d-1+1=d by omega];have B:l.length≤68719476736:=j;have C:=rJ (n:=(d:Int)-1) (by omega) (by omega);have F:((d:Int)-1).toNat=d-1:=by omega
   have G:(0:Int)≤(d:Int)-1:=by omega
   have z:(1:Int)≤(d:Int):=by omega
   have E:((d:Int)<(l.length:Int)):=by omega
   have x:=uR (l:=l) (k:=d) i;have w:=uR (l:=l) (k:=d-1) (by omega);have J:d-1<l.length:=by omega
   have D:d≤l.length:=by omega
   have c5:c+(l.length-c)=l.length:=by omega
   unfold aag at f;simp[mO]at f;rw[DA e]at f;simp[s7,E,e,x,w,C,F,G,z,J,D,hd,f,i,y,r,H,c5,-List.getElem?_map])
 unfold M8 at a;simp at a;simp[asn,Ub,e,hi,a]
end Go.AM
namespace Go.AM
structure EN where
 tag:Int
 l:Int
 r:Int
 col:Int
 v:wm
 deriving DecidableEq,Inhabited
def EN.a(n:EN):aq:=.agg [.int .i64 n.tag,.int .i64 n.l,.int .i64 n.r,.int .i64 n.col,.int .i64 n.v.k,.int .i64 n.v.n,.int .u64 n.v.u,.str n.v.s]
end Go.AM
namespace Go.AM
open P
set_option maxHeartbeats 4000000
set_option maxRecDepth 4000
@[simp] theorem ajA(n:EN):aM n.a=8:=rfl
@[simp] theorem alD(n:EN):isAgg n.a=true:=rfl
@[simp] theorem afy(n:EN)(fl top:Bool)(base:Nat)(σ:aw)(m:Nat):fz fl top base σ (m+2) n.a=n.a:=by simp[EN.a]
def AC(e:List EN):List aq:=e.map EN.a
@[simp] theorem afg(e:List EN):(AC e).length=e.length:=by simp[AC]
theorem Pn{e:List EN}{k:Nat}(h:k<e.length):(AC e)[k]?=some e[k].a:=by simp[AC,h]
def KT(b:Bool)(e:List EN):aq:=aI [.aa b (AC e)]
def dv(t:Int):Int:=if t=1∨t=2 then 0 else if 4≤t∧t≤7 then 1 else if 12≤t∧t≤23 then 2 else -1
theorem BU(t:Int):bB I.qce [ap t]=some (ap (dv t)):=by
 rw[aT amr rfl];unfold dv;by_cases b:t=1
 ·subst b;simp[arD,FH]
 by_cases a:t=2
 ·subst a;simp[arD,FH]
 have f:¬(t=1∨t=2):=by omega
 rw[if_neg f];by_cases c:4≤t
 ·by_cases e:t≤7
  ·simp[arD,FH,fa b,fa a,c,e]
  by_cases d:12≤t
  ·by_cases g:t≤23
   ·simp[arD,FH,fa b,fa a,c,e,d,g]
   simp[arD,FH,fa b,fa a,c,e,d,g]
  simp[arD,FH,fa b,fa a,c,e,d]
 have d:¬(12≤t):=by omega
 simp[arD,FH,fa b,fa a,c,d]
def wV(v:wm):Bool:=okV v&&v.k != 4
theorem It(v:wm):bB I.qhm [v.a]=some (aC (wV v)):=by
 rw[aT an8 rfl];have h:=Qx v;unfold wV;obtain⟨k,n,u,s⟩:=v;simp only[VZ]at *;cases hv:okV ⟨k,n,u,s⟩<;>rw[hv]at h<;>simp[auN,aeS,h]
def CS:wm:=⟨0,0,0,[]⟩
def iA(n:EN):Bool:=if n.tag=1 then wV n.v&&n.col==0 else if n.tag=2 then n.v==CS&&decide (0≤n.col)&&decide (n.col<16) else n.v==CS&&n.col==0
theorem aex(v:wm):eR [0,0,0,2] [ap v.k,ap v.n,.int .u64 v.u,aO v.s] [ap 0,ap 0,.int .u64 0,aO []]=some (v==CS):=by
 obtain⟨k,n,u,s⟩:=v;unfold CS;by_cases a:k=0
 ·by_cases b:n=0
  ·by_cases c:u=0
   ·by_cases d:s=[]
    ·subst a b c d;simp
    have f:(s==[])=false:=by simp[d]
    have e:((⟨k,n,u,s⟩:wm) == ⟨0,0,0,[]⟩)=false:=by simp[d]
    rw[e];simp[a,b,c,f]
   have e:((⟨k,n,u,s⟩:wm) == ⟨0,0,0,[]⟩)=false:=by simp[c]
   rw[e];simp[a,b,fa c]
  have e:((⟨k,n,u,s⟩:wm) == ⟨0,0,0,[]⟩)=false:=by simp[b]
  rw[e];simp[a,fa b]
 have e:((⟨k,n,u,s⟩:wm) == ⟨0,0,0,[]⟩)=false:=by simp[a]
 rw[e];simp[fa a]
theorem Fc(n:EN):bB I.qbx [n.a]=some (aC (iA n)):=by
 rw[aT akU rfl];have b:=It n.v;have a:=aex n.v;unfold iA EN.a;unfold wm.a at b;by_cases d:n.tag=1
 ·cases hv:wV n.v<;>rw[hv]at b<;>simp[asc,Uw,d,b]
 by_cases c:n.tag=2
 ·cases hv:(n.v==CS)<;>rw[hv]at a<;>simp[asc,Uw,c,a,-eR];by_cases e:0≤n.col<;>simp[e]
 cases hv:(n.v==CS)<;>rw[hv]at a<;>simp[asc,Uw,d,c,fa d,fa c,a,-eR]
end Go.AM
namespace Go.AM
open P
set_option maxHeartbeats 64000000
set_option maxRecDepth 40000
instance:Nc EN.a 8 true:=⟨fun _=>rfl,fun _=>rfl⟩
instance:Fx EN.a:=⟨fun fl top base σ n y=>afy y fl top base σ (n+1)⟩
structure ll where
 tag:Int
 b:Bool
 arg:List EN
def ll.a(a:ll):aq:=aI [ap a.tag,.aa a.b (a.arg.map EN.a)]
structure yK where
 b:Bool
 l:List EN
def yK.a(e:yK):aq:=aI [.aa e.b (e.l.map EN.a)]
structure cJ where
 op:Int
 l:Int
 r:Int
 tab:Int
 bk:Bool
 ac:List Int
 left:Bool
 bc:Bool
 cond:List EN
 by':Bool
 keys:List Int
 bg:Bool
 ah:List ll
 bi:Bool
 items:List yK
 bo:Bool
 ords:List (Int×Bool)
 limit:Int
def cJ.a(n:cJ):aq:=aI [ap n.op,ap n.l,ap n.r,ap n.tab,.aa n.bk (n.ac.map (.int .i64)),aC n.left,.aa n.bc (n.cond.map EN.a),.aa n.by' (n.keys.map (.int .i64)),.aa n.bg (n.ah.map ll.a),.aa n.bi (n.items.map yK.a),.aa n.bo (n.ords.map iq),ap n.limit]
instance:Nc ll.a 2 true:=⟨fun _=>rfl,fun _=>rfl⟩
instance:Ft ll.a:=⟨fun fl top base σ n y h=>by cases fl<;>cases top<;>simp[ll.a]at h ⊢⟩
instance:Nc yK.a 1 true:=⟨fun _=>rfl,fun _=>rfl⟩
instance:Ft yK.a:=⟨fun fl top base σ n y h=>by cases fl<;>cases top<;>simp[yK.a]at h ⊢⟩
instance:Nc iq 2 true:=⟨fun _=>rfl,fun _=>rfl⟩
instance:Fx iq:=⟨fun fl top base σ n y=>by simp[iq]⟩
instance:Nc cJ.a 12 true:=⟨fun _=>rfl,fun _=>rfl⟩
instance:Ft cJ.a:=⟨fun fl top base σ n y h=>by cases fl<;>cases top<;>simp[cJ.a]at h ⊢⟩
instance:Nc (iN.c (aq.int .i64)) 1 false:=⟨fun _=>rfl,fun _=>rfl⟩
instance:Ft (iN.c (aq.int .i64)):=⟨fun fl top base σ n y h=>by cases fl<;>cases top<;>simp at h ⊢⟩
end Go.AM
namespace Go.AM
open P
set_option maxHeartbeats 64000000
set_option maxRecDepth 40000
attribute [local simp] aG bd
def aiq(op:Int):Int:=if op=1∨op=9 then 0 else if op=2∨op=7 then 2 else if op=3∨op=4∨op=5∨op=6∨op=8∨op=10∨op=11 then 1 else -1
def iy(n:cJ):Bool:=
 (n.op==1 ||n.op==9 ||n.tab==0&&n.ac.length==0)&&(n.op==2 || !n.left)&&(n.op==2 ||n.op==3 ||n.cond.length==0) &&
 (n.op==4 ||n.op==10 ||n.op==11 ||(n.keys.length:Int)+n.ah.length==0)&&(n.op==5 ||n.items.length==0)&&(n.op==8 ||n.ords.length==0&&n.limit==0)
def LX(t:Int):Bool:=t==4 ||decide (12≤t)&&decide (t≤15)
@[simp] theorem W7(t:Int):bB I.qbw [ap t]=some (aC (LX t)):=by
 rw[aT anX rfl];unfold LX;simp[auA,agw]
 repeat' (split<;>(try simp_all))
 all_goals omega
def acg(own k:Int):Int:=if k=0∨k=own then own else if own=0 then k else -1
def uB(ac:List Int)(n:EN)(l:List Int):Int×Int:=
 let own:=l.foldl acg 0
 if n.tag=1 then (n.v.k,0) else if n.tag=2 then (ac.getD n.col.toNat 0,0) else
 let want:=if LX n.tag then 2 else if n.tag=5∨n.tag=22∨n.tag=23 then 1 else own
 if own=-1∨own≠0∧own≠want then (0,201) else (if LX n.tag then 2 else 1,0)
theorem Rn(n:EN)(b:Bool)(l:List Int)(a:Bool)(ac:List Int)(f:l.length≤bC)(g:n.tag=2→0≤n.col∧n.col<ac.length) :
  bB I.qbr [n.a,.aa b (l.map (.int .i64)),.cptr true (.aa a (ac.map (.int .i64))) 0]=some (fy [ap (uB ac n l).1,ap (uB ac n l).2]):=by
 rw[aT akc rfl];have h:=fun x=>(gL (base:=1) (clr:=[7,13,14,15]) (b:=Gj) l
  (fun k (own:Int)=>⟨[n.a,.aa b (l.map (.int .i64)),.cptr true (.aa a (ac.map (.int .i64))) 0,aH 0 0 0 0,ap 0,ap 0,ap own,am,am,am,.aa b (l.map (.int .i64)),ap l.length,ap k,am,am,am,am,am,am,am,am],[aB 8 0 [n.a]]⟩)
  (fun _ _=>True) acg
  (fun own=>(.ext 0,⟨[n.a,.aa b (l.map (.int .i64)),.cptr true (.aa a (ac.map (.int .i64))) 0,aH 0 0 0 0,ap 0,ap 0,ap own,am,am,am,.aa b (l.map (.int .i64)),ap l.length,ap l.length,aC false,am,am,am,am,am,am,am],[aB 8 0 [n.a]]⟩))
  (fun k y own e d _=>by
   refine⟨?_,trivial⟩;have c:((k:Int)<(l.length:Int)):=by omega
   unfold acg;simp[Gj,c,d,cN]
   repeat' (split<;>(try simp_all[cW e f,cN])))
  (fun own _=>by simp[Gj]) 0 x).1
 have h:=h trivial;simp[EN.a]at h;unfold uB;simp[atK,afR,h,EN.a];generalize l.foldl acg 0=own
 repeat' (split<;>(try simp_all))
end Go.AM
namespace Go.AM
open P
set_option maxHeartbeats 8000000
set_option maxRecDepth 8000
def dS(l:List Nat):List aq:=l.map fun (n:Nat)=>ap (n:Int)
@[simp] theorem ad4(l:List Nat):(dS l).length=l.length:=by simp[dS]
@[simp] theorem ajL:dS []=[]:=rfl
theorem tW{l:List Nat}{k:Nat}(h:k<l.length):(dS l)[k]?=some (ap (l[k]:Int)):=by simp[dS,h]
theorem xi{l:List Nat}{k:Nat}(h:k<(dS l).length):(dS l)[k]=ap ((l[k]'(by simpa using h):Nat):Int):=by simp[dS]
theorem eo(l m:List Nat):dS (l++m)=dS l++dS m:=by simp[dS]
@[simp] theorem ajy(n:Nat):dS [n]=[ap (n:Int)]:=rfl
@[simp] theorem ajK(n m:Nat):dS [n,m]=[ap (n:Int),ap (m:Int)]:=rfl
theorem sk(l:List Nat)(fl top:Bool)(base:Nat)(σ:aw)(m:Nat):(dS l).map (fz fl top base σ (m+1))=dS l:=by
 unfold dS;rw[bY];exact aW fun n _=>by simp
theorem oK(l:List Nat)(base:Nat)(σ:aw):(dS l).map (cn base σ)=dS l:=sk l false true base σ 19
def sW(i:Nat)(n:EN)(all opn:List Nat):Option (List Nat×List Nat):=
 if dv n.tag<0∨opn.length<dv n.tag∨iA n=false then none else
 match opn.drop (opn.length-(dv n.tag).toNat) with
 |[]=>if n.l=-1∧n.r=-1 then some (all++[i],opn++[i]) else none
 |[p]=>if n.l=p∧n.r=-1 then some (all++[min i (all.getD p 0)],opn.take (opn.length-1)++[i]) else none
 |[p,q]=>if n.l=p∧n.r=q then some (all++[min (min i (all.getD p 0)) (all.getD q 0)],opn.take (opn.length-2)++[i]) else none
 |_=>none
abbrev iE(b:Bool)(e:List EN)(k:Nat)(all opn:List Nat):St:=
 ⟨[aI [.aa b (AC e)],aH 0 0 0 0,am,am,.sl 1 k 0 all.length,.sl 2 k 0 opn.length,am,am,am,am,am,am,am,am,.aa b (AC e),ap e.length,ap k,am,am,am,am,am,am,am],
  [aB 1 0 [aI [.aa b (AC e)]],aB 1 k (dS all),aB 1 k (dS opn)]⟩
theorem wr(t:Int):-1≤dv t∧dv t≤2:=by
 unfold dv
 repeat' split
 all_goals omega
theorem S9:IntKind.i64.wrap 1=1:=rfl
theorem afZ:IntKind.i64.wrap 2=2:=rfl
theorem Om{b:Bool}{e:List EN}{k:Nat}{all a t s:List Nat}(Q:k<e.length)(m:e.length≤bC)(C:all.length=k)(S:∀p∈a,p<k)(g:a.length≤k)
  (h:sW k e[k] all a=some (t,s)) :
  dh 3 [2,3,6,7,8,9,10,11,12,13,17,18,19,20,21,22,23] jG (run code jG (iE b e k all a)) =
   bU code 3 [2,3,6,7,8,9,10,11,12,13,17,18,19,20,21,22,23] jG (iE b e (k+1) t s):=by
 have r:=Pn Q;have B:=BU e[k].tag;have l:=Fc e[k];have x:((k:Int)<(e.length:Int)):=by omega
 unfold sW at h;split at h
 ·cases h
 rename_i ab;have V:iA e[k]=true:=by cases hq:iA e[k]<;>simp_all
 rw[V]at l;have af:¬(dv e[k].tag<0):=by omega
 have M:¬((a.length:Int)<dv e[k].tag):=by omega
 have ad:=wr e[k].tag;have X:k+1≤bC:=by omega
 have n:dv e[k].tag=0∨dv e[k].tag=1∨dv e[k].tag=2:=by omega
 rcases n with L|L|L
 ·rw[L]at h B;simp at h;obtain⟨⟨J,D⟩,rfl,rfl⟩:=h;unfold EN.a at r l;rw[J,D]at r l;have F:(dS all).take k=dS all:=ay (by simp[C]);have P:(dS a).take a.length=dS a:=ay (by simp);have G:=sk all;have E:=sk a;have K:=oK all;have O:=oK a;have i:¬((a.length:Int)<0):=by omega
  have H:IntKind.i64.wrap (a.length:Int)=a.length:=jL (by unfold bC at m;omega);have f:a.length+1≤bC:=by omega
  simp[iE,jG,r,x,B,l,C,F,P,G,E,K,O,i,H,append,eo,X,f,cW Q m,bQ,bw,lK 5,lK 6,xH]
 ·rw[L]at h B M;have d:1≤a.length:=by omega
  obtain⟨o,p,rfl⟩:∃o p,a=o++[p]:=⟨a.dropLast,a.getLast (by intro e;subst e;simp at d),(dQ _).symm⟩;simp at h;obtain⟨⟨J,D⟩,rfl,rfl⟩:=h;have y:p<k:=S p (by simp);unfold EN.a at r l;rw[J,D]at r l;have c:p<all.length:=by omega
  have R:=tW c;have F:(dS all).take k=dS all:=ay (by simp[C]);have P:(dS (o++[p])).take o.length=dS o:=by rw[eo,gg (by simp)]
  have T:(dS (o++[p]))[o.length]?=some (ap (p:Int)):=by rw[eo,bI (by simp)];simp
  have G:=sk all;have E:=sk o;have K:=oK all;have O:=oK o;have Z:(o++[p]).length=o.length+1:=by simp
  have i:¬((o.length:Int)+1<1):=by omega
  have H:IntKind.i64.wrap ((o.length:Int)+1-1)=o.length:=by rw[jL (by simp at g;unfold bC at m;omega)];omega
  have z:IntKind.i64.wrap (o.length:Int)=o.length:=by rw[jL (by simp at g;unfold bC at m;omega)]
  have f:o.length+1≤bC:=by simp at g;omega
  simp at g;have hd:all[p]?.getD 0=all[p]:=by simp[c]
  have j:(if all[p]<k then (all[p]:Int) else (k:Int))=((min k all[p]:Nat):Int):=by split<;>omega
  simp[iE,jG,r,x,B,l,C,F,P,T,G,E,K,O,i,H,z,append,eo,X,f,cW Q m,bQ,bw,lK 5,xH,R,y,c,xi,j,S9]
 rw[L]at h B M;have d:2≤a.length:=by omega
 obtain⟨o',q,rfl⟩:∃o p,a=o++[p]:=⟨a.dropLast,a.getLast (by intro e;subst e;simp at d),(dQ _).symm⟩;have N:1≤o'.length:=by simp at d;omega
 obtain⟨o,p,rfl⟩:∃o p,o'=o++[p]:=⟨o'.dropLast,o'.getLast (by intro e;subst e;simp at N),(dQ _).symm⟩;have u:(o++[p]++[q]).drop ((o++[p]++[q]).length-(2:Int).toNat)=[p,q]:=by
  simp
 have A:(o++[p]++[q]).take ((o++[p]++[q]).length-2)=o:=by
  rw[dG,gg (by simp)]
 rw[u]at h;simp only[A]at h;split at h
 ·rename_i W;obtain⟨J,D⟩:=W;simp only[aL,dZ]at h;obtain⟨rfl,rfl⟩:=h;have y:p<k:=S p (by simp);have Y:q<k:=S q (by simp);unfold EN.a at r l;rw[J,D]at r l;have c:p<all.length:=by omega
  have v:q<all.length:=by omega
  have R:=tW c;have q2:=tW v;have F:(dS all).take k=dS all:=ay (by simp[C]);have hN:dS (o++[p]++[q])=dS o++([ap (p:Int),ap (q:Int)]:List aq):=by simp[eo]
  have P:(dS o++([ap (p:Int),ap (q:Int)]:List aq)).take o.length=dS o:=by rw[gg (by simp)]
  have T:(dS o++([ap (p:Int),ap (q:Int)]:List aq))[o.length]?=some (ap (p:Int)):=by rw[bI (by simp)];simp
  have t4:(dS o++([ap (p:Int),ap (q:Int)]:List aq))[o.length+1]?=some (ap (q:Int)):=by rw[bI (by simp)];simp
  have G:=sk all;have E:=sk o;have K:=oK all;have O:=oK o;simp at g;have i:¬((o.length:Int)+1+1<2):=by omega
  have I:¬((o.length:Int)+2<2):=by omega
  have H:IntKind.i64.wrap ((o.length:Int)+1+1-2)=o.length:=by rw[jL (by unfold bC at m;omega)];omega
  have U:IntKind.i64.wrap ((o.length:Int)+2-2)=o.length:=by rw[jL (by unfold bC at m;omega)];omega
  have z:IntKind.i64.wrap (o.length:Int)=o.length:=by rw[jL (by unfold bC at m;omega)]
  have f:o.length+1≤bC:=by omega
  have hd:all[p]?.getD 0=all[p]:=by simp[c]
  have ae:all[q]?.getD 0=all[q]:=by simp[v]
  have j:(if all[p]<k then (all[p]:Int) else (k:Int))=((min k all[p]:Nat):Int):=by split<;>omega
  have w:(if all[q]<min k all[p] then (all[q]:Int) else ((min k all[p]:Nat):Int))=((min (min k all[p]) all[q]:Nat):Int):=by split<;>omega
  unfold iE;rw[hN];simp[jG,r,x,B,l,C,F,P,T,t4,G,E,K,O,i,I,H,U,z,append,eo,X,f,cW Q m,bQ,bw,lK 5,xH,R,q2,y,c,Y,v,xi,j,w,S9,afZ]
 cases h
end Go.AM
namespace Go.AM
open P
set_option maxHeartbeats 8000000
set_option maxRecDepth 8000
abbrev Ac:List Nat:=[2,3,6,7,8,9,10,11,12,13,17,18,19,20,21,22,23]
def Oo(r:Option (Ex×St)):Prop:=∃s,r=some (.ret,s)∧pC s.env 2=.ai∧pC s.env 3=aC false
theorem Sj{k:Nat}{n:EN}{all c:List Nat}(h:sW k n all c=none) :
  (dv n.tag<0∨c.length<dv n.tag∨iA n=false) ∨
  ((0≤dv n.tag∧dv n.tag≤c.length∧iA n=true) ∧
   ((dv n.tag=0∧¬(n.l=-1∧n.r=-1))∨(∃(o:List Nat) (p:Nat),dv n.tag=1∧c=o++[p]∧¬(n.l=(p:Int)∧n.r=-1))∨(∃(o:List Nat) (p q:Nat),dv n.tag=2∧c=o++[p,q]∧¬(n.l=(p:Int)∧n.r=(q:Int))))):=by
 unfold sW at h;split at h
 ·exact .inl (by assumption)
 rename_i l;have m:iA n=true:=by cases hq:iA n<;>simp_all
 have r:=wr n.tag;refine .inr ⟨⟨by omega,by omega,m⟩,?_⟩;rcases (show dv n.tag=0∨dv n.tag=1∨dv n.tag=2 by omega) with f|f|f
 ·rw[f]at h;simp at h;exact .inl ⟨f,fun ⟨a,b⟩=>h a b⟩
 ·rw[f]at h;have d:1≤c.length:=by omega
  obtain⟨o,p,rfl⟩:∃o p,c=o++[p]:=⟨c.dropLast,c.getLast (by intro e;subst e;simp at d),(dQ _).symm⟩;simp at h;exact .inr (.inl ⟨o,p,f,rfl,fun ⟨a,b⟩=>h a b⟩)
 rw[f]at h;have d:2≤c.length:=by omega
 obtain⟨o',q,rfl⟩:∃o p,c=o++[p]:=⟨c.dropLast,c.getLast (by intro e;subst e;simp at d),(dQ _).symm⟩;have i:1≤o'.length:=by simp at d;omega
 obtain⟨o,p,rfl⟩:∃o p,o'=o++[p]:=⟨o'.dropLast,o'.getLast (by intro e;subst e;simp at i),(dQ _).symm⟩;have g:(o++[p]++[q]).drop ((o++[p]++[q]).length-(2:Int).toNat)=[p,q]:=by simp
 rw[g]at h;simp only at h;split at h
 ·cases h
 rename_i j;exact .inr (.inr ⟨o,p,q,f,by simp,j⟩)
theorem ahy{a b c d:Int}(h:¬(c=a∧d=b)):eqa true [0,0] (aI [ap a,ap b]) (aI [ap c,ap d])=some (aC true):=by
 by_cases f:c=a
 ·have g:¬b=d:=fun e=>h ⟨f,e.symm⟩;simp[f,fa g]
 have g:¬a=c:=fun e=>f e.symm;simp[fa g]
theorem Oy{b:Bool}{e:List EN}{k:Nat}{all a:List Nat}(M:k<e.length)(u:e.length≤bC)(F:all.length=k)(z:∀p∈a,p<k)(w:a.length≤k)
  (h:sW k e[k] all a=none):Oo (dh 3 Ac jG (run code jG (iE b e k all a))):=by
 have n:=Pn M;have j:=BU e[k].tag;have m:=Fc e[k];have c:((k:Int)<(e.length:Int)):=by omega
 rcases Sj h with H|⟨⟨t,N,J⟩,G⟩
 ·unfold EN.a at n m;by_cases g:dv e[k].tag<0
  ·exact⟨_,by simp[iE,jG,n,c,j,g];rfl,rfl,rfl⟩
  by_cases l:(a.length:Int)<dv e[k].tag
  ·exact⟨_,by simp[iE,jG,n,c,j,g,l];rfl,rfl,rfl⟩
  have D:iA e[k]=false:=H.elim (fun h=>absurd h g) fun h=>h.elim (fun h=>absurd h l) id;rw[D]at m;exact⟨_,by simp[iE,jG,n,c,j,g,l,m];rfl,rfl,rfl⟩
 have g:¬(dv e[k].tag<0):=by omega
 have l:¬((a.length:Int)<dv e[k].tag):=by omega
 rw[J]at m;unfold EN.a at n m;have C:IntKind.i64.wrap (a.length:Int)=a.length:=by rw[jL (by unfold bC at u;omega)]
 rcases G with⟨t,f⟩|⟨o,p,t,rfl,f⟩|⟨o,p,q,t,rfl,f⟩
 ·rw[t]at j;have x:=ahy f;have d:¬((a.length:Int)<0):=by omega
  exact⟨_,by simp[iE,jG,n,c,j,d,m,C,lK 5,lK 6,xH,-eqa,x];rfl,rfl,rfl⟩
 ·rw[t]at j;have x:=ahy f;have s:p<k:=z p (by simp);have i:p<all.length:=by omega
  have y:=tW i;simp at w;have B:(dS (o++[p]))[o.length]?=some (ap (p:Int)):=by rw[eo,bI (by simp)];simp
  have d:¬((o.length:Int)+1<1):=by omega
  have A:IntKind.i64.wrap ((o.length:Int)+1-1)=o.length:=by rw[jL (by unfold bC at u;omega)];omega
  have r:IntKind.i64.wrap (o.length:Int)=o.length:=by rw[jL (by unfold bC at u;omega)]
  exact⟨_,by simp[iE,jG,n,c,j,d,m,A,r,F,B,y,s,i,xi,eo,bQ,bw,lK 5,xH,S9,-eqa,x];rfl,rfl,rfl⟩
 rw[t]at j;have x:=ahy f;have s:p<k:=z p (by simp);have E:q<k:=z q (by simp);have i:p<all.length:=by omega
 have v:q<all.length:=by omega
 have y:=tW i;have I:=tW v;simp at w;have L:dS (o++[p,q])=dS o++([ap (p:Int),ap (q:Int)]:List aq):=by simp[eo]
 have B:(dS o++([ap (p:Int),ap (q:Int)]:List aq))[o.length]?=some (ap (p:Int)):=by rw[bI (by simp)];simp
 have K:(dS o++([ap (p:Int),ap (q:Int)]:List aq))[o.length+1]?=some (ap (q:Int)):=by rw[bI (by simp)];simp
 have d:¬((o.length:Int)+2<2):=by omega
 have A:IntKind.i64.wrap ((o.length:Int)+2-2)=o.length:=by rw[jL (by unfold bC at u;omega)];omega
 have r:IntKind.i64.wrap (o.length:Int)=o.length:=by rw[jL (by unfold bC at u;omega)]
 unfold iE;rw[L];exact⟨_,by simp[jG,n,c,j,d,m,A,r,F,B,K,y,I,s,i,E,v,xi,eo,bQ,bw,lK 5,xH,S9,afZ,-eqa,x];rfl,rfl,rfl⟩
def iB:List EN→Nat→List Nat→List Nat→Option (List Nat×List Nat)
 |[],_,all,opn=>some (all,opn)
 |n::r,i,all,opn=>(sW i n all opn).bind fun q=>iB r (i+1) q.1 q.2
theorem WU{k:Nat}{n:EN}{all d c b:List Nat}(f:all.length=k)(e:∀p∈d,p<k)(g:d.length≤k)(h:sW k n all d=some (c,b)) :
  c.length=k+1∧(∀p∈b,p<k+1)∧b.length≤k+1:=by
 unfold sW at h;split at h
 ·cases h
 split at h
 ·split at h
  ·cases h
   exact⟨by simp[f],fun p a=>by
    rcases ba.1 a with a|a
    ·have:=e p a;omega
    simp at a;omega,by simp;omega⟩
  cases h
 ·split at h
  ·cases h
   exact⟨by simp[f],fun p a=>by
    rcases ba.1 a with a|a
    ·have:=e p (cT a);omega
    simp at a;omega,by simp;omega⟩
  cases h
 ·split at h
  ·cases h
   exact⟨by simp[f],fun p a=>by
    rcases ba.1 a with a|a
    ·have:=e p (cT a);omega
    simp at a;omega,by simp;omega⟩
  cases h
 cases h
theorem FF{b:Bool}{e:List EN}(j:e.length≤bC):∀(m k:Nat) (all a:List Nat),k+m=e.length→all.length=k→(∀p∈a,p<k)→a.length≤k →
  (match iB (e.drop k) k all a with
   |none=>Oo (bU code 3 Ac jG (iE b e k all a))
   |some (c,d)=>c.length=e.length∧∃x,bU code 3 Ac jG (iE b e k all a) =
     some (.ext 0,⟨[aI [.aa b (AC e)],aH 0 0 0 0,am,am,.sl 1 e.length 0 c.length,.sl 2 e.length 0 d.length,am,am,am,am,am,am,am,am,.aa b (AC e),ap e.length,ap e.length,x,am,am,am,am,am,am],
      [aB 1 0 [aI [.aa b (AC e)]],aB 1 e.length (dS c),aB 1 e.length (dS d)]⟩))
 |0,k,all,a,n,h,i,f=>by
  have n:k=e.length:=by omega
  subst n;rw[List.drop_length];simp only[iB];refine⟨h,aC false,?_⟩;rw[lK];simp[iE,jG]
 |m+1,k,all,a,n,h,i,f=>by
  have g:k<e.length:=by omega
  rw[dx g];simp only[iB];cases hs:sW k e[k] all a with
  |none=>
   simp only[Option.bind_none];rw[lK];exact Oy g j h i f hs
  |some q=>
   obtain⟨c,d⟩:=q;simp only[cH];obtain⟨r,t,s⟩:=WU h i f hs;have o:=FF (b:=b) j m (k+1) c d (by omega) r t s;have l:=Om (b:=b) g j h i f hs;rw[lK 3 Ac jG (iE b e k all a),l];exact o
theorem ED(l:List Nat)(fl top:Bool)(base:Nat)(σ:aw)(n:Nat):∀a,a∈dS l→aM (fz fl top base σ (n+1) a)=aM a:=fun a b=>by
 obtain⟨k,_,rfl⟩:=bK.1 b;simp
def wn(e:List EN):Bool:=match iB e 0 [] [] with
 |none=>false
 |some (all,opn)=>opn.length==1&&decide (all.length≤1000)
theorem N0(b:Bool)(e:List EN)(l:e.length≤bC):∃x,bB I.qby [KT b e]=some (fy [x,aC (wn e)])∧(wn e=true→∃all,iB e 0 [] []=some all∧x=.aa false (dS all.1)):=by
 rw[aT alr rfl];have h:=FF (b:=b) l e.length 0 [] [] (by omega) rfl (by simp) (by simp);rw[nv]at h;unfold wn KT;cases hf:iB e 0 [] [] with
 |none=>
  rw[hf]at h;obtain⟨s,a,n,m⟩:=h;refine⟨.aa false [],?_,fun h=>by cases h⟩;unfold iE at a;simp at a;have f:s.env[2]?.getD am=.ai:=n;have g:s.env[3]?.getD am=aC false:=m;simp[asa,Tr,a,f,g]
 |some q=>
  rw[hf]at h;obtain⟨all,c⟩:=q;obtain⟨o,x,a⟩:=h;refine⟨.aa false (dS all),?_,fun _=>⟨_,rfl,rfl⟩⟩;unfold iE at a;simp at a;have i:(dS all).take all.length=dS all:=ay (by simp);have j:=sk all;by_cases k:c.length=1
  ·simp[asa,Tr,a,k,i,j];exact⟨ED all _ _ _ _ _,by omega⟩
  have d:¬((c.length:Int)=1):=by omega
  simp[asa,Tr,a,k,fa d,i,j];exact ED all _ _ _ _ _
theorem acZ(e:List EN)(fl top:Bool)(base:Nat)(σ:aw)(n:Nat):(AC e).map (fz fl top base σ (n+2))=AC e:=by
 unfold AC;rw[bY];exact aW fun v _=>afy v fl top base σ n
theorem zq(b:Bool)(e:List EN)(c:e.length≤bC):bB I.qbo [KT b e]=some (ap (if wn e then 0 else 200)):=by
 rw[aT ajZ rfl];obtain⟨x,h,_⟩:=N0 b e c;have d:∀a,a=b∨a=true→True:=fun _ _=>trivial;unfold KT at *;cases ho:wn e<;>rw[ho]at h<;>simp[atE,af5,h]
end Go.AM
namespace Go.AM
open P
set_option maxHeartbeats 64000000
set_option maxRecDepth 40000
attribute [local simp] aG bd
def JB(x:Int):List Int→List Int
 |[]=>[x]
 |y::r=>if x≤y then x::y::r else y::JB x r
def iK:List Int→List Int
 |[]=>[]
 |x::r=>JB x (iK r)
theorem Pg(x z:Int):∀l:List Int,z∈JB x l↔z=x∨z∈l
 |[]=>by simp[JB]
 |y::r=>by
  unfold JB;split
  ·simp
  simp[Pg x z r];constructor<;>rintro (h|h|h)<;>simp[h]
theorem Ec(z:Int):∀l:List Int,z∈iK l↔z∈l
 |[]=>by simp[iK]
 |x::r=>by simp[iK,Pg,Ec z r]
theorem Oj(x:Int):∀l:List Int,(JB x l).length=l.length+1
 |[]=>rfl
 |y::r=>by
  unfold JB;split<;>simp[Oj x r]
theorem oO:∀l:List Int,(iK l).length=l.length
 |[]=>rfl
 |x::r=>by simp[iK,Oj,oO r]
theorem TT(x:Int):∀l:List Int,lR si (ap x) (l.map (.int .i64))=(JB x l).map (.int .i64)
 |[]=>rfl
 |y::r=>by
  by_cases h:x≤y
  ·simp[lR,JB,si,h]
  simp[lR,JB,si,h,TT x r]
theorem Ou:∀l:List Int,nN si (l.map (.int .i64))=(iK l).map (.int .i64)
 |[]=>rfl
 |x::r=>by simp only[aV,nN,Ou r,TT];rfl
theorem KA:∀l:List Int,NK (l.map (.int .i64))=some l
 |[]=>rfl
 |x::r=>by simp[NK,KA r]
theorem EB{σ:aw}{id ep:Nat}{l:List Int}(a:σ[id]?=some (aB 1 ep (cG l)))(b:l.length≤bC) :
  cC code I.slices_Sort_int_int [.sl id ep 0 l.length] σ=some (am,σ.set id (aB 1 ep (cG (iK l)))):=by
 refine xe good (k:=2) (n:=0) yr ?_;have d:code.prims=prims:=rfl;rw[d];have c:((cG l).drop 0).take l.length=cG l:=by simp
 have e:(cG l).drop l.length=[]:=by simp
 simp only[prims,yF,a,c,e,cE,KA,Ou];rw[if_pos (by simp[b])];simp
def sU(e:List EN):List Int:=e.flatMap fun n=>if n.tag=2 then [n.col] else []
theorem NL(e:List EN):(sU e).length≤e.length:=by
 induction e with
 |nil=>exact aF _
 |cons n e a=>
  unfold sU at *;simp only[fN,bZ,bA];split<;>simp only[bA,bD]<;>omega
def nT(e:List EN):List Int:=dF (iK (sU e))
theorem Wp(b:Bool)(e:List EN)(d:e.length≤bC)(u:wn e=true):bB I.qbp [aI [.aa b (e.map EN.a)]]=some (.aa false (cG (nT e))):=by
 rw[aT anN rfl];have f:=fun b=>zq b e d;rw[u]at f;simp only[KT,AC]at f;have r:(sU e).length≤bC:=bR (NL e) d;obtain⟨ep,m⟩:=Rf (base:=2) (clr:=[4,9,10]) (b:=CI) e
  (fun k ep (a:List Int)=>⟨[aI [.aa b (e.map EN.a)],aH 0 0 0 0,.ai,.sl 1 ep 0 a.length,am,aC false,.aa b (e.map EN.a),ap e.length,ap k,am,am],[aB 1 0 [aI [.aa b (e.map EN.a)]],aB 1 ep (cG a)]⟩)
  (fun n=>if n.tag=2 then [n.col] else [])
  (fun ep a=>(.ext 0,⟨[aI [.aa b (e.map EN.a)],aH 0 0 0 0,.ai,.sl 1 ep 0 a.length,am,aC false,.aa b (e.map EN.a),ap e.length,ap e.length,aC false,am],[aB 1 0 [aI [.aa b (e.map EN.a)]],aB 1 ep (cG a)]⟩)) 1
  (fun n _=>by split<;>simp)
  (fun k n ep a q p B=>by
   have t:((k:Int)<(e.length:Int)):=by omega
   have z:a.length+1≤bC:=by omega
   by_cases g:n.tag=2
   ·exact⟨ep+1,by simp[CI,t,p,EN.a,g,append,z,cW q d,bQ,bw]⟩
   exact⟨ep,by simp[CI,t,p,EN.a,g,fa g,cW q d,bQ,bw]⟩)
  (fun ep a _=>by simp[CI]) 0
 have w:=fun i:Obj=>EB (σ:=[i,aB 1 ep (cG (sU e))]) (id:=1) (ep:=ep) rfl r;obtain⟨A,o,C,y⟩:=xE (σ:=[aB 1 0 [aI [.aa b (e.map EN.a)]],aB 1 ep (cG (iK (sU e)))]) (id:=1) (ep:=ep) (l:=iK (sU e)) rfl (by rw[oO];exact r);simp only[cG,bm,bD,show ((0:Nat):Int)=0 from rfl]at m;rw[oO]at o;unfold nT;have x:=sh (iK (sU e));have j:(e.flatMap fun n=>if n.tag=2 then [n.col] else [])=sU e:=rfl;rw[j]at m;have v:(cG A).take (dF (iK (sU e))).length=cG (dF (iK (sU e))):=by
  unfold cG;rw[←List.map_take,y]
 generalize dF (iK (sU e))=c at *;generalize iK (sU e)=s at *;generalize sU e=cs at *;have h:c.length≤A.length:=by omega
 simp[atC,afv,f,m,w,o,v,h]
end Go.AM
