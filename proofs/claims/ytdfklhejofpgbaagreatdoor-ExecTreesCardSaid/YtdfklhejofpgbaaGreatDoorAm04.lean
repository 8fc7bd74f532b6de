/- Part of the proof. -/
import Derived.Test.YtdfklhejofpgbaaGreatDoorAm03
import Derived.Shelf.SlSortCmp.Kit1
import Derived.Shelf.Sort.Plain
import Derived.Laws.Externs
import Derived.Lib.Bytealg
set_option linter.unusedVariables false
set_option linter.unusedSimpArgs false
namespace Go.AM
variable {M:cZ} {P:Program} {w w':World} {c c1:cX} {σ τ:ay}
def yU(M:cZ)(P:Program)(co:Nat→Bool)(g:re)(rec:ki)(em:List Tmp):Prop:=
 ∃nt,g.nenv=em.length∧nt≤rec.tmps.size∧fK M P co em nt false rec.assign g.pre∧g.params.map (em[·]?)=rec.params.toList.map some∧em.Nodup∧fK M P co em nt false rec.body g.body
def Yy(M:cZ)(P:Program)(co:Nat→Bool)(code:Code):Prop:=
 ∀site rec em,M.site site rec em→∃g,code.fns site=.round g∧yU M P co g rec em
def yu(M:cZ)(P:Program)(f:Nat)(p:afM):Prop:=
 ∀(C:gn),jP M P C→jE M P C→∀args σ v σ',p C args σ=some (v,σ')→∀(F:Fence) (n:Nat) (w:World) (c:cX) (cargs:Array Value),rk F→ei M w c σ→iW M w c→iX M w c args cargs →
  oo F n P (M.fm f) cargs w (fU M c w σ' v)∧((∃a∈args,js a=false)→∀(cargs':Array Value) (w':World),(callFunc (M.fm f) cargs').run P w'=.ok (.enter (M.fm f) cargs') w')
structure vF (M:cZ) (P:Program) (co:Nat→Bool) (code:Code):Prop where
 mixed:P.follows .mixedOrders=true
 fns:∀f g,code.fns f=.fn g→Zn M P co f g
 nilfns:∀f g,code.fns f=.nilfn g→Zn M P co f g
 prims:∀f k,code.fns f=.prim k→yu M P f (code.prims k)
 sites:Yy M P co code
 keeps:∀f,co f=true→(∃g,(code.fns f=.fn g∨code.fns f=.nilfn g)∧g.mode.lends=true)∨∃k,code.fns f=.prim k∧∀C args σ v σ',code.prims k C args σ=some (v,σ')→σ'=σ
theorem Pp{a:Option Addr}{n cap:Nat}(h:n=0):∃b k,Value.slice a n cap=.slice b 0 k:=by subst h;exact⟨_,_,rfl⟩
theorem Vp(hs:ei M w c σ){x:ap}{cx:Value}(hx:R M w c x cx)(h:gd σ x=true):∃a cap,cx=.slice a 0 cap:=by
 unfold gd at h;split at h
 ·cases h
 rename_i hns;split at h
 ·rename_i hrd;cases hx<;>first|(simp[rd]at hrd;done)|skip
  case str=>exact absurd rfl (hns _)
  case aa xs _ _ _ _ _ _ _ _ _ _ _=>simp only[rd,aJ]at hrd;subst hrd;exact⟨_,_,rfl⟩
  case imm0=>exact⟨_,_,rfl⟩
  case lst=>simp only[rd,aJ]at hrd;subst hrd;exact⟨_,_,rfl⟩
  case lst0=>exact⟨_,_,rfl⟩
  case aj=>exact⟨_,_,rfl⟩
  case emp=>exact⟨_,_,rfl⟩
  case sl=>
   simp only[rd]at hrd;unfold sliceAt at hrd;split at hrd
   ·split at hrd
    ·rename_i hc;simp only[aJ]at hrd;have:=congrArg List.length hrd;simp at this;exact Pp (by omega)
    cases hrd
   cases hrd
  case sl0=>exact⟨_,_,rfl⟩
  case slOld=>
   rename_i h2 _ _ _;simp only[rd]at hrd;unfold sliceAt at hrd;split at hrd
   ·rename_i k e es ho;split at hrd
    ·rename_i hc;have:=h2 k e (by rw[hs.H,eI ho]);omega
    cases hrd
   cases hrd
 cases h
theorem Ts{l:Nat}{xs args:List ap}{cargs:Array Value}(h:iX M w c (.frs l xs::args) cargs):False:=by
 obtain⟨x,_,h⟩:=h.2 0 (by simp);cases h
theorem FZ{em:List Tmp}(hnd:em.Nodup):∀{ps:List Nat} {ts:List Tmp} {args:List ap} {cargs:List Value} {env:List ap} {tmps:Array Value},
  ps.map (em[·]?)=ts.map some→args.length=ps.length→cargs.length=args.length→(∀i (h:i<args.length) (h':i<cargs.length),R M w c args[i] cargs[i])→env.length=em.length→(∀t∈em,t<tmps.size)→lr M w c env [] (u7 em) tmps →
  lr M w c (jQ env ps args) [] (u7 em) ((ts.zip cargs).foldl (fun tmps (t,a)=>tmps.setIfInBounds t a) tmps)
 |[],[],args,cargs,env,tmps,_,h1,h2,_,_,_,ht=>by
  cases args with
  |nil=>exact ht
  |cons _ _=>simp at h1
 |[],_::_,_,_,_,_,h,_,_,_,_,_,_=>by simp at h
 |_::_,[],_,_,_,_,h,_,_,_,_,_,_=>by simp at h
 |p::ps,t::ts,[],_,_,_,_,h1,_,_,_,_,_=>by simp at h1
 |p::ps,t::ts,x::args,[],_,_,_,_,h2,_,_,_,_=>by simp at h2
 |p::ps,t::ts,x::args,y::cargs,env,tmps,h,h1,h2,hr,he,hb,ht=>by
  simp only[bG,mB]at h;obtain⟨hp,h⟩:=h;have hpl:p<em.length:=(al.1 hp).1;have hpe:em[p]=t:=(al.1 hp).2;simp only[jQ,gz,eG];refine FZ hnd h (by simpa using h1) (by simpa using h2) (fun i hi hi'=>hr (i+1) (by simpa using hi) (by simpa using hi')) (by simpa using he) (fun t ht=>by simpa using hb t ht) ?_;intro q o hq;unfold u7 at hq;obtain⟨k,hk,rfl⟩:=bF hq;show R M w c (mK (env.set p x) k) _;rw[List.idxOf?,dn]at hk;obtain⟨k1,k2,_⟩:=hk;have k2':em[k]=q:=by simpa using k2
  have htl:t<tmps.size:=hb t (by rw[←hpe];exact aF _);by_cases hkp:k=p
  ·subst hkp;have:mK (env.set k x) k=x:=by
    unfold mK;rw[dc];simp[he,k1]
   rw[this];have hqt:q=t:=by rw[←k2',hpe]
   subst hqt;have:=hr 0 (by simp) (by simp);simpa [Array.getD,htl] using this
  rw[yx (fun e=>hkp e.symm)];have hqt:q≠t:=fun e=>hkp (Az hnd _ _ (by rw[k2',hpe,e]))
  have:=ht q (.env k) (by unfold u7;rw[show em.idxOf? q=some k by
   rw[List.idxOf?,dn];exact⟨k1,k2,fun j hj=>by
    simp only[aP];exact fun e=>absurd (Az hnd _ _ (e.trans k2'.symm)) (by omega)⟩];rfl)
  have e:(tmps.setIfInBounds t y).getD q undef=tmps.getD q undef:=by
   rw[bJ,bJ,Array.getElem?_setIfInBounds_ne (fun e=>hqt e.symm)]
  rw[e];exact this
theorem GC{ts:Array Tmp}{xs:Array Value}{tmps:Array Value}:(ts.zip xs).foldl (fun tmps (t,a)=>tmps.setIfInBounds t a) tmps=(ts.toList.zip xs.toList).foldl (fun tmps (t,a)=>tmps.setIfInBounds t a) tmps:=by
 rw[←Array.foldl_toList,Array.toList_zip]
theorem Dw:∀(l:List (Tmp×Value)) (tmps:Array Value),(l.foldl (fun tmps (t,a)=>tmps.setIfInBounds t a) tmps).size=tmps.size
 |[],_=>rfl
 |_::l,tmps=>by simp only[eG];rw[Dw l];simp
def ahI:Ex→Option Ex
 |.nrm=>none
 |e=>some e
theorem Ga{l:Nat}{e:Ex}{s:St}{v:ap}(h:eR l (e,s)=some (v,σ)) :
  ∃j,s.st[l]?=some (.pend true none)∧j=ahI e∧v=.bool (qM e).isNone∧σ=s.st.set l (.pend false j):=by
 unfold eR at h;dsimp only at h;generalize s.st[l]?=q at h
 match q,h with
 |some (.pend true none),h=>
  cases e with
  |nrm=>cases h;exact⟨none,rfl,rfl,rfl,rfl⟩
  |ret=>cases h;exact⟨some .ret,rfl,rfl,rfl,rfl⟩
  |ext i=>cases h;exact⟨some (.ext i),rfl,rfl,rfl,rfl⟩
theorem K8{co:Nat→Bool}{C:gn}{k:Nat}(hm:P.follows .mixedOrders=true)(hp:sL co C)(hC:jP M P C)(hR:jE M P C){site l:Nat}{g:re}{env args:List ap}{v:ap}{σ':ay}
  (hl:σ[l]?=some (.pend false none)) (hlen:((env++args).drop g.nenv).length=g.params.length)
  (hr:(exec C k g.pre ⟨jQ ((env++args).take g.nenv) g.params ((env++args).drop g.nenv),σ⟩).bind (nh C k l g.body)=some (v,σ'))
  (hok:∀rec em,M.site site rec em→yU M P co g rec em)
  {F:Fence} {n:Nat} {cargs:Array Value} {x:Value} (hF:rk F) (hs:ei M w c σ) (hg:iW M w c) (ha:iX M w c args cargs) (hx:R M w c (.yld l site env) x) :
  ∃b tmps w1,x=.func (.yield b) #[] #[]∧(Instr.yield b cargs).run P w=.ok (.round b (c.loops l).fn tmps (c.loops l).assign (c.loops l).body) w1 ∧
   RoundIn F n P b (c.loops l).fn tmps (c.loops l).assign (c.loops l).body w1 fun e w'=>∃cv,e=.returned cv∧fU M c w σ' v cv w':=by
 have hH:c.H l=.pend:=by rw[hs.H,eI hl]
 have hlive:c.H l≠.dead:=by rw[hH];simp
 cases hx with
 |yldOld h0 h1 h2=>rw[hH]at h2;cases h2
 |@yld _ _ _ _ em blk f h1 h2 h3 h4 h5 h6 h7=>
  obtain⟨nt,g1,g2,g3,g4,g5,g6⟩:=hok _ _ h4;have henv:env.length=g.nenv:=by rw[g1,h5]
  have hdrop:(env++args).drop g.nenv=args:=by rw[←henv];simp
  have htake:(env++args).take g.nenv=env:=by rw[←henv];simp
  rw[hdrop]at hlen;rw[hdrop,htake]at hr;obtain⟨b,b1,b2⟩:=hs.obj _ _ hl;rw[h3]at b1;cases b1;replace b2:w.heap[blk]?=some (.loop (oM (c.loops l) .ready none)):=b2;have hpar:(c.loops l).params.size=g.params.length:=by
   have:=congrArg List.length g4;simpa using this.symm
  have hy:=run_yield (P:=P) (args:=cargs) b2 (by rw[ha.1,hlen];exact hpar.symm);refine⟨blk,_,w,rfl,hy,?_⟩;apply roundIn_of_wpIn (hF.fn _);obtain⟨⟨e0,s0⟩,r0,r00⟩:=bI hr;have hsz:(((c.loops l).params.zip cargs).foldl (fun tmps (t,a)=>tmps.setIfInBounds t a) (c.loops l).tmps).size=(c.loops l).tmps.size:=by rw[GC,Dw]
  have htb:∀t∈em,t<(c.loops l).tmps.size:=fun t ht=>by
   obtain⟨i,hi,rfl⟩:=dm.1 ht;exact (bH.1 (h6 i hi (by omega))).1
  have ht0:lr M w c env [] (u7 em) (c.loops l).tmps:=fun t o ho=>by
   unfold u7 at ho;obtain⟨i,hi,rfl⟩:=bF ho;show R M w c (mK env i) _;rw[List.idxOf?,dn]at hi;obtain⟨i1,i2,_⟩:=hi;have i2':em[i]=t:=by simpa using i2
   have i3:i<env.length:=by omega
   have e1:mK env i=env[i]:=by
    unfold mK;rw[am i3];rfl
   rw[e1,bJ,←i2',h6 i i1 i3];exact h7 i i3
  have ht1:lr M w c (jQ env g.params args) [] (u7 em) (((c.loops l).params.zip cargs).foldl (fun tmps (t,a)=>tmps.setIfInBounds t a) (c.loops l).tmps):=by
   rw[GC];refine FZ g5 g4 hlen (by simp[ha.1]) (fun i hi hi'=>?_) (by omega) htb ht0;obtain⟨y,y1,y2⟩:=ha.2 i hi;have:cargs.toList[i]=y:=by
    have:=(bH.1 y1).2;simpa using this
   rw[this];exact y2
  refine ud hm hp hC hR (hF.inRound blk) (fun h=>by cases h) g3 _ e0 s0 r0 0 c _ _ hg ⟨hs,ht1,aI g2 (Nat.le_of_eq hsz.symm),bP _,show nR _ _ _ [] from trivial⟩ _ fun a1 w1 c1 hs1 hst1=>?_;have hgo:e0=.nrm∧s0.st[l]?=some (.pend false none)∧(exec C k g.body ⟨s0.env,s0.st.set l (.pend true none)⟩).bind (eR l)=some (v,σ'):=by
   unfold nh at r00;split at r00
   ·rename_i h1 h2;exact⟨h1,h2,r00⟩
   cases r00
  obtain⟨rfl,hl1,hr1⟩:=hgo;have hH1:c1.H l=.pend:=by rw[hs1.sim.H,eI hl1]
  obtain⟨q1,q2,q3⟩:=hst1.place l h1 (by rw[hH,hH1]) hlive;obtain⟨b,b1,b3⟩:=hs1.sim.obj _ _ hl1;have h31:c1.place l=some blk:=by rw[q1,h3]
  rw[h31]at b1;cases b1;replace b3:w1.heap[blk]?=some (.loop (oM (c1.loops l) .ready none)):=b3;have hbr:=run_beginRound (P:=P) b3 rfl;refine⟨_,hbr,?_⟩;have hset:s6 w1 (w1.putObj blk (.loop { oM (c1.loops l) .ready none with state:=.busy })) blk (.loop { oM (c1.loops l) .ready none with state:=.busy }):=⟨⟨rfl,rfl,rfl,aM _⟩,rfl⟩;obtain⟨s1,st1⟩:=hs1.sim.pend (bz':=true) (j':=none) hl1 h31 hset rfl;obtain⟨⟨e,s'⟩,r1,r2⟩:=bI hr1;refine ud hm hp hC hR (hF.inRound blk) (fun h=>by cases h) g6 _ e s' r1 0 c1 _ _ (hg.ext (hst1.trans st1).toExt) ⟨s1,fun t o ho=>(hs1.tmp t o ho).ext st1.toExt,hs1.size,bP _,hs1.marks.stp st1⟩ _ fun a w2 c2 hs2 hst2=>?_
  have hpe:=Ga r2;obtain⟨j,p1,p2,p3,p4⟩:=hpe;have hst:=(hst1.trans st1).trans hst2;have hH2:c2.H l=.pend:=by rw[hs2.sim.H,eI p1]
  obtain⟨q1,q2,q3⟩:=hst.place l h1 (by rw[hH,hH2]) hlive;obtain⟨b,b1,b3⟩:=hs2.sim.obj _ _ p1;rw[q1,h3]at b1;cases b1;have hend:=run_endRound (P:=P) (qM e) b3;have hset2:s6 w2 (w2.putObj blk (.loop { oM (c2.loops l) .busy none with state:=if (qM e).isNone then .ready else .done,pending:=qM e })) blk (.loop { oM (c2.loops l) .busy none with state:=if (qM e).isNone then .ready else .done,pending:=qM e }):=⟨⟨rfl,rfl,rfl,aM _⟩,rfl⟩
  obtain⟨s3,st3⟩:=hs2.sim.pend (bz':=false) (j':=j) p1 (by rw[q1,h3]) hset2 (by
   rw[p2];cases e<;>rfl)
  have hpost:fU M c w σ' v (.bool (qM e).isNone) _:=⟨c2,by rw[p4];exact s3,hst.trans st3,by rw[p3];exact .r .bool⟩;cases e with
  |nrm=>exact⟨_,_,hend,_,rfl,hpost⟩
  |ret=>exact⟨_,_,hend,_,rfl,hpost⟩
  |ext i=>exact⟨_,_,hend,_,rfl,hpost⟩
theorem B3{co:Nat→Bool}{code:Code}(hc:vF M P co code):∀n,jP M P (dl code n)∧jE M P (dl code n)∧sL co (dl code n)
 |0=>by
  refine⟨?_,?_,?_⟩
  ·intro f args σ v σ' h;cases h
  ·intro site l env args σ v σ' h;cases h
  intro f args σ v σ' _ h;cases h
 |k+1=>by
  obtain⟨ihC,ihR,ihK⟩:=B3 hc k;refine⟨fun f args σ v σ' h F n w c cargs hF hs hg ha=>?_,fun site l env args σ v σ' h F n w c cargs x hF hs hg ha hpd hx=>?_,fun f args σ v σ' hp h=>?_⟩
  ·simp only[dl]at h;split at h
   ·cases h
   ·rename_i q hq;exact hc.prims f q hq _ ihC ihR args σ v σ' h F n w c cargs hF hs hg ha
   ·rename_i g hq;refine⟨RL hc.mixed ihK ihC ihR (hc.fns f g hq) h hF hs hg ha,fun _ cargs' w'=>?_⟩;obtain⟨fn,code,em,h1,h2,h3,_⟩:=hc.fns f g hq;exact lm h1 h2 h3
   ·rename_i g hq;refine⟨?_,fun _ cargs' w'=>?_⟩
    ·have hcall:∀args v σ',qO (dl code k) k g args σ=some (v,σ')→iX M w c args cargs→oo F n P (M.fm f) cargs w (fU M c w σ' v):=fun args v σ' h ha=>
      RL hc.mixed ihK ihC ihR (hc.nilfns f g hq) h hF hs hg ha
     split at h
     ·rename_i x rest;split at h
      ·rename_i he;obtain⟨r,h1,h⟩:=bI h;obtain⟨q,h2,h⟩:=bI h;split at h
       ·rename_i hsame;cases h;simp only[aq]at hsame;obtain⟨q1,q2⟩:=q;have e1:=rP hsame.1;have e2:=Ed hsame.2;dsimp only at e1 e2;subst e1 e2;obtain⟨cx,hcx,hx⟩:=ha.2 0 (by simp);obtain⟨a,cap,rfl⟩:=Vp hs hx he;have ha':∀b,a.isNone=b→iX M w c (.emp b::rest) cargs:=fun b hb=>by
         refine⟨ha.1,fun i hi=>?_⟩;cases i with
         |zero=>exact⟨_,hcx,.emp hb⟩
         |succ i=>exact ha.2 (i+1) hi
        cases hb:a.isNone with
        |true=>exact hcall _ _ _ h1 (ha' _ hb)
        |false=>exact hcall _ _ _ h2 (ha' _ hb)
       cases h
      exact hcall _ _ _ h ha
     cases h
    obtain⟨fn,code,em,h1,h2,h3,_⟩:=hc.nilfns f g hq;exact lm h1 h2 h3
   split at h
   ·exact (Ts ha).elim
   cases h
  ·have hpl:σ[l]?=some (.pend false none):=by
    unfold jc at hpd;split at hpd
    ·assumption
    cases hpd
   have hsite:∃g,code.fns site=.round g∧∀rec em,M.site site rec em→yU M P co g rec em:=by
    cases hx with
    |@yld _ _ _ _ em blk f h1 h2 h3 h4 h5 h6 h7=>
     obtain⟨g,g1,g2⟩:=hc.sites _ _ _ h4;refine⟨g,g1,fun rec em hm=>?_⟩;obtain⟨g',g1',g2'⟩:=hc.sites _ _ _ hm;rw[g1]at g1';cases g1';exact g2'
    |yldOld h0 h1 h2=>rw[hs.H,eI hpl]at h2;cases h2
   obtain⟨g,g1,g2⟩:=hsite;simp only[dl,g1,cM]at h;split at h
   ·rename_i hl;split at h
    ·rename_i hlen;exact K8 hc.mixed ihK ihC ihR hl hlen h g2 hF hs hg ha hx
    cases h
   cases h
  simp only[dl]at h;rcases hc.keeps f hp with⟨g,hq,hl⟩|⟨q,hq,hk⟩
  ·have keep:∀args v σ',qO (dl code k) k g args σ=some (v,σ')→σ'=σ:=fun args v σ' h=>by
    unfold qO at h;obtain⟨⟨e,s⟩,_,h2⟩:=bI h;unfold kF at h2;have fin:∀v0,iq g.mode σ s v0=(v,σ')→σ'=σ:=fun v0 hfin=>by
     cases hmo:g.mode<;>rw[hmo]at hl hfin<;>first|(cases hl;done)|skip
     ·cases hfin;rfl
     simp only[iq]at hfin;cases hfin;rfl
    cases e with
    |ext i=>cases h2
    |nrm=>obtain⟨v0,_,h3⟩:=bF h2;exact fin v0 h3
    |ret=>obtain⟨v0,_,h3⟩:=bF h2;exact fin v0 h3
   rcases hq with hq|hq
   ·rw[hq]at h;exact keep _ _ _ h
   rw[hq]at h;dsimp only at h;split at h
   ·split at h
    ·obtain⟨⟨r1,r2⟩,h1,h⟩:=bI h;obtain⟨q,h2,h⟩:=bI h;split at h
     ·cases h;exact keep _ _ _ h1
     cases h
    exact keep _ _ _ h
   cases h
  rw[hq]at h;exact hk _ _ _ _ _ h
end Go.AM
namespace Go.AM
def gw(le:ap→ap→Bool)(x:ap):List ap→List ap
 |[]=>[x]
 |y::r=>if le x y then x::y::r else y::gw le x r
def eU(le:ap→ap→Bool):List ap→List ap
 |[]=>[]
 |x::r=>gw le x (eU le r)
theorem vA{le le':ap→ap→Bool}{x:ap}:∀{l:List ap},(∀y∈l,le x y=le' x y)→gw le x l=gw le' x l
 |[],_=>rfl
 |y::r,h=>by
  simp only[gw,h y (cr ..)];split
  ·rfl
  rw[vA fun z hz=>h z (aO _ hz)]
theorem t8{le:ap→ap→Bool}{x z:ap}:∀{l:List ap},z∈gw le x l↔z=x∨z∈l
 |[]=>by simp[gw]
 |y::r=>by
  simp only[gw];split
  ·simp
  simp only[dz,t8 (l:=r)];constructor
  ·rintro (h|h|h)<;>simp[h]
  rintro (h|h|h)<;>simp[h]
theorem ly{le:ap→ap→Bool}{z:ap}:∀{l:List ap},z∈eU le l↔z∈l
 |[]=>by simp[eU]
 |x::r=>by simp[eU,t8,ly (l:=r)]
theorem zf{le le':ap→ap→Bool}:∀{l:List ap},(∀x∈l,∀y∈l,le x y=le' x y)→eU le l=eU le' l
 |[],_=>rfl
 |x::r,h=>by
  have hr:eU le r=eU le' r:=zf fun a ha b hb=>h a (aO _ ha) b (aO _ hb);simp only[eU,hr];exact vA fun y hy=>h x (cr ..) y (aO _ (ly.1 hy))
def iO(C:gn)(f x y:ap):Option Int:=
 match qV C f [x,y] [] with
 |some (.int .i64 n,[])=>some n
 |_=>none
def pt(cmp:ap→ap→Option Int)(l:List ap):Prop:=
 (∀x∈l,∀y∈l,∃n,cmp x y=some n∧-9223372036854775808≤n∧n<9223372036854775808) ∧
 (∀x∈l,∀y∈l,∀n m,cmp x y=some n→cmp y x=some m→(n<0↔0<m)) ∧
 (∀x∈l,∀y∈l,cmp x y=some 0→x=y)∧(∀x∈l,cmp x x=some 0) ∧
 (∀x∈l,∀y∈l,∀z∈l,∀n m k,cmp x y=some n→cmp y z=some m→cmp x z=some k→n<0→m<0→k<0)
def mg(cmp:ap→ap→Option Int)(x y:ap):Bool:=match cmp x y with
 |some n=>decide (n≤0)
 |none=>false
def sP(cmp:ap→ap→Option Int)(l:List ap):Bool:=
 (l.all fun x=>l.all fun y=>match cmp x y,cmp y x with
  |some n,some m=>decide (-9223372036854775808≤n)&&decide (n<9223372036854775808)&&(decide (n<0)==decide (0<m))&&(n != 0 ||same x y)
  |_,_=>false) &&
 (l.all fun x=>cmp x x==some 0) &&
 l.all fun x=>l.all fun y=>l.all fun z=>match cmp x y,cmp y z,cmp x z with
  |some n,some m,some k=>!decide (n<0) || !decide (m<0) ||decide (k<0)
  |_,_,_=>false
theorem lI{cmp:ap→ap→Option Int}{l:List ap}:sP cmp l=true↔pt cmp l:=by
 unfold sP pt;simp only[aq,aG];constructor
 ·rintro⟨⟨h1,h2⟩,h3⟩;have key:∀x∈l,∀y∈l,∃n m,cmp x y=some n∧cmp y x=some m∧(-9223372036854775808≤n∧n<9223372036854775808)∧(n<0↔0<m)∧(n=0→x=y):=fun x hx y hy=>by
   have:=h1 x hx y hy;split at this
   ·rename_i n m e1 e2;simp only[aq,aL,aP,mc,cK,gO]at this;obtain⟨⟨⟨a1,a2⟩,a3⟩,a4⟩:=this;exact⟨n,m,e1,e2,⟨a1,a2⟩,a3,fun e=>a4.elim (fun h=>absurd e h) rP⟩
   cases this
  refine⟨fun x hx y hy=>?_,fun x hx y hy n m e1 e2=>?_,fun x hx y hy e=>?_,fun x hx=>by simpa using h2 x hx,fun x hx y hy z hz n m k e1 e2 e3 hn hm=>?_⟩
  ·obtain⟨n,m,e1,_,e2,_⟩:=key x hx y hy;exact⟨n,e1,e2⟩
  ·obtain⟨n',m',f1,f2,_,f3,_⟩:=key x hx y hy;rw[f1]at e1;rw[f2]at e2;cases e1;cases e2;exact f3
  ·obtain⟨n',m',f1,f2,_,_,f3⟩:=key x hx y hy;rw[f1]at e;cases e;exact f3 rfl
  have:=h3 x hx y hy z hz;rw[e1,e2,e3]at this;simpa [hn,hm] using this
 rintro⟨h1,h2,h3,h4,h5⟩;refine⟨⟨fun x hx y hy=>?_,fun x hx=>by simpa using h4 x hx⟩,fun x hx y hy z hz=>?_⟩
 ·obtain⟨n,e1,a1,a2⟩:=h1 x hx y hy;obtain⟨m,e2,_⟩:=h1 y hy x hx;rw[e1,e2];have:=h2 x hx y hy n m e1 e2;simp only[aq,aL,aP,mc,cK,gO];refine⟨⟨⟨a1,a2⟩,this⟩,?_⟩;by_cases hn:n=0
  ·subst hn;right;rw[h3 x hx y hy e1];exact pG y
  exact .inl hn
 obtain⟨n,e1,_⟩:=h1 x hx y hy;obtain⟨m,e2,_⟩:=h1 y hy z hz;obtain⟨k,e3,_⟩:=h1 x hx z hz;rw[e1,e2,e3];by_cases hn:n<0
 ·by_cases hm:m<0
  ·have:=h5 x hx y hy z hz n m k e1 e2 e3 hn hm;simp[this]
  simp[hm]
 simp[hn]
def RN:ap→Bool
 |.fn _ [] _=>true
 |_=>false
def mn(C:gn)(args:List ap)(σ:ay):Option (ap×ay):=
 match args with
 |[.aj,_]=>some (.any,σ)
 |[.sl id ep off n,f]=>match σ[id]? with
  |some (.arr k e es)=>
   let fO:=(es.drop off).take n
   let σ1:=σ.set id .dead
   let cmp:=iO C (fS σ1 f)
   if e=ep∧off+n≤es.length∧n≤most∧(fO.all fun x=>same (fS σ1 x) x&&aC x==1&&!isAgg x&&!js x)=true∧sP cmp fO=true∧RN (fS σ1 f)=true then
    some (.any,σ.set id (.arr k e (es.take off++eU (mg cmp) fO++es.drop (off+n))))
   else none
  |_=>none
 |_=>none
def LS:List ap→Option (List Int)
 |[]=>some []
 |.int .i64 n::r=>(LS r).map (n::·)
 |_=>none
def oJ:ap→ap→Bool
 |.int _ a,.int _ b=>decide (a≤b)
 |_,_=>true
def vr(args:List ap)(σ:ay):Option (ap×ay):=
 match args with
 |[.aj]=>some (.any,σ)
 |[.sl id ep off n]=>match σ[id]? with
  |some (.arr k e es)=>
   if e=ep∧off+n≤es.length∧n≤most∧(LS ((es.drop off).take n)).isSome then
    some (.any,σ.set id (.arr k e (es.take off++eU oJ ((es.drop off).take n)++es.drop (off+n))))
   else none
  |_=>none
 |_=>none
def Fa(args:List ap)(σ:ay):Option (ap×ay):=
 match args with
 |[.int .u64 x,.int .u64 y,.int .u64 c]=>
  if 0≤x∧x<18446744073709551616∧0≤y∧y<18446744073709551616∧0≤c∧c≤1 then
   some (.tup [.int .u64 ((x+y+c)%18446744073709551616),.int .u64 ((x+y+c)/18446744073709551616)],σ)
  else none
 |_=>none
def ol(args:List ap)(σ:ay):Option (ap×ay):=
 match args with
 |[.str a,.str b]=>some (.int .i64 (if Op.bytesLess a b then -1 else if a==b then 0 else 1),σ)
 |_=>none
def prims:Nat→afM
 |0=>fun _=>Fa
 |1=>mn
 |2=>fun _=>vr
 |3=>fun _=>ol
 |_=>fun _ _ _=>none
theorem Xw{C D:gn}(h:TX C D){f:ap}{args:List ap}{σ:ay}{r:ap×ay}(hr:qV C f args σ=some r):qV D f args σ=some r:=by
 unfold qV at hr ⊢;split at hr
 ·exact h _ _ _ _ hr
 ·split at hr
  ·rename_i hp;rw[if_pos hp];exact h _ _ _ _ hr
  cases hr
 cases hr
theorem W1{C D:gn}(h:TX C D){f x y:ap}{n:Int}(hr:iO C f x y=some n):iO D f x y=some n:=by
 unfold iO at hr ⊢;cases hc:qV C f [x,y] [] with
 |none=>rw[hc]at hr;cases hr
 |some q=>rw[hc]at hr;rw[Xw h hc];exact hr
theorem Nu(k:Nat)(C D:gn)(args:List ap)(σ:ay)(r:ap×ay)(h:TX C D)(hr:prims k C args σ=some r):prims k D args σ=some r:=by
 unfold prims at hr ⊢;split at hr
 ·exact hr
 ·unfold mn at hr ⊢;split at hr
  ·exact hr
  ·rename_i id ep off n f;split at hr
   ·rename_i k e es he;dsimp only at hr ⊢;split at hr
    ·rename_i hc;obtain⟨h1,h2,h0,h3,h4',h5⟩:=hc;have h4:=lI.1 h4';have heq:∀x∈(es.drop off).take n,∀y∈(es.drop off).take n,iO D (fS (σ.set id .dead) f) x y=iO C (fS (σ.set id .dead) f) x y:=fun x hx y hy=>by
      obtain⟨n,hn,_⟩:=h4.1 x hx y hy;rw[hn];exact W1 h hn
     have hO:pt (iO D (fS (σ.set id .dead) f)) ((es.drop off).take n):=by
      refine⟨fun x hx y hy=>by rw[heq x hx y hy];exact h4.1 x hx y hy,fun x hx y hy n m=>by rw[heq x hx y hy,heq y hy x hx];exact h4.2.1 x hx y hy n m,fun x hx y hy=>by rw[heq x hx y hy];exact h4.2.2.1 x hx y hy,fun x hx=>by rw[heq x hx x hx];exact h4.2.2.2.1 x hx,fun x hx y hy z hz n m k=>by rw[heq x hx y hy,heq y hy z hz,heq x hx z hz];exact h4.2.2.2.2 x hx y hy z hz n m k⟩
     rw[if_pos ⟨h1,h2,h0,h3,lI.2 hO,h5⟩,←hr,zf (le:=mg (iO D (fS (σ.set id .dead) f))) (le':=mg (iO C (fS (σ.set id .dead) f)))];intro x hx y hy;unfold mg;rw[heq x hx y hy]
    cases hr
   cases hr
  cases hr
 ·exact hr
 ·exact hr
 cases hr
end Go.AM
namespace Go.AM
open Go.Proofs Go.Sort Go.Shelf
variable {M:cZ} {P:Program} {w w':World} {c c1:cX} {σ τ:ay}
theorem Y1{F:Fence}(h:rk F):∃r,F={ Fence.wide with round:=r }:=by
 obtain⟨fn,depth,alive,round⟩:=F;obtain⟨h1,h2,h3⟩:=h;dsimp only at h1 h2 h3;subst h2 h3;have:fn=fun _=>True:=funext fun f=>propext ⟨fun _=>trivial,fun _=>h1 f⟩;subst this;exact⟨round,rfl⟩
theorem uw{F:Fence}(h:rk F){n:Nat}{f:FuncId}{args:Array Value}{R:Ending→World→Prop}:CallsIn F n P f args w R↔Calls P f args w R:=by
 obtain⟨r,rfl⟩:=Y1 h;exact callsIn_wide (n:=n)
theorem wT:rk Fence.wide:=⟨fun _=>trivial,rfl,rfl⟩
def cX.side(c:cX)(w:World)(blk:Nat):cX:={ c with bor:=fun b=>b<w.heap.size∧b≠blk,H:=hd [],N:=0,place:=fun _=>none }
theorem sN(hs:ei M w c σ){id blk:Nat}(hl:c.H id≠.dead)(hb:c.place id=some blk):aai true 0 { c with H:=hd (σ.set id .dead) } (c.side w blk) where
 sld:=fun b h=>h
 sb:=fun b h=>⟨hs.low b (hs.sb b h),fun e=>(hs.plow id blk hl hb).2 (hs.sb blk (e▸h))⟩
 bor:=fun b h=>⟨hs.low b h,fun e=>(hs.plow id blk hl hb).2 (e▸h)⟩
 gone:=fun i b _ h1 h2=>by
  have h1':hd (σ.set id .dead) i≠.dead:=h1;have hne:i≠id:=fun e=>by
   subst e;apply h1';have hlt:i<σ.length:=by
    have:hd σ i≠.dead:=by rw[←hs.H];exact hl
    exact BW this
   rw[eI (o:=.dead) (by rw[dc];simp[hlt])]
  rw[iE hne,←hs.H]at h1';exact⟨(hs.plow i b h1' h2).1,fun e=>hne (hs.inj i id b h1' hl h2 (e▸hb))⟩
 N:=fun id h=>absurd h (bX _)
 keep:=fun id h=>absurd h (bX _)
theorem VF{blk:Nat}{W:World}(hs:ei M w c σ){id:Nat}(hl:c.H id≠.dead)(hb:c.place id=some blk)(hz:w.heap.size≤W.heap.size)(hW:∀b,b<w.heap.size→b≠blk→W.heap[b]?=w.heap[b]?) :
  ei M W (c.side w blk) []∧Ext (c.side w blk) w (c.side w blk) W:=by
 have h0:ei M w (c.side w blk) []:=⟨rfl,rfl,(sN hs hl hb).sb,fun b h=>h.1,fun id b h=>absurd (by rfl) h,fun i j b h=>absurd (by rfl) h,fun id o h=>by cases h⟩;refine⟨⟨rfl,rfl,h0.sb,fun b h=>bd h.1 hz,fun id b h=>absurd (by rfl) h,fun i j b h=>absurd (by rfl) h,fun id o h=>by cases h⟩,⟨fun _ h=>h,fun _ h=>h,fun b hb=>?_,aM _,fun _ _=>.inl rfl,fun _ _ _ _=>⟨rfl,rfl,rfl⟩⟩⟩;have:b<w.heap.size∧b≠blk:=hb.elim (fun h=>h) (h0.sb b);exact hW b this.1 this.2
theorem aah{W W':World}(h:Same W W')(hz:W.heap.size≤W'.heap.size)(hf:∀b,b<W.heap.size→W'.heap[b]?=W.heap[b]?):∃q os,W'=grow (W.drewN q) os:=by
 refine⟨W'.drawn-W.drawn,W'.heap.extract W.heap.size W'.heap.size,?_⟩;obtain⟨heap,tape,drawn,os,output⟩:=W;obtain⟨heap',tape',drawn',os',output'⟩:=W';obtain⟨h1,h2,h3,h4⟩:=h;dsimp only at h1 h2 h3 h4 hz hf;subst h1 h2 h3;simp only[grow,World.drewN,World.mk.injEq,true_and,and_true];refine⟨?_,by omega⟩;apply ej;intro i;by_cases hi:i<heap.size
 ·rw[hf i hi,dB hi]
 rw[gE (by omega),ji];by_cases hi2:i<heap'.size
 ·rw[if_pos (by omega)];congr 1;omega
 rw[if_neg (by omega),dH (by omega)]
theorem wZ{le:ap→ap→Bool}{x:ap}:∀{l:List ap},(gw le x l).Perm (x::l)
 |[]=>.refl _
 |y::r=>by
  simp only[gw];split
  ·exact .refl _
  exact (List.Perm.cons y wZ).trans (List.Perm.swap x y r)
theorem wa{le:ap→ap→Bool}:∀{l:List ap},(eU le l).Perm l
 |[]=>.refl _
 |x::r=>wZ.trans (List.Perm.cons x wa)
theorem uH{le:ap→ap→Bool}{x:ap}:∀{l:List ap},(∀y∈l,le x y=true∨le y x=true)→(∀y∈l,∀z∈l,le x y=true→le y z=true→le x z=true)→l.Pairwise (fun a b=>le a b=true)→(gw le x l).Pairwise (fun a b=>le a b=true)
 |[],_,_,_=>by simp[gw]
 |y::r,ht,htr,hp=>by
  simp only[gw];obtain⟨h1,h2⟩:=ek.1 hp;split
  ·rename_i hxy;refine ek.2 ⟨fun z hz=>?_,hp⟩;rcases dz.1 hz with rfl|hz
   ·exact hxy
   exact htr y cr z (aO _ hz) hxy (h1 z hz)
  rename_i hxy;refine ek.2 ⟨fun z hz=>?_,uH (fun z hz=>ht z (aO _ hz)) (fun a ha b hb=>htr a (aO _ ha) b (aO _ hb)) h2⟩;rcases t8.1 hz with rfl|hz
  ·exact (ht y cr).resolve_left hxy
  exact h1 z hz
theorem sv{le:ap→ap→Bool}:∀{l:List ap},(∀x∈l,∀y∈l,le x y=true∨le y x=true)→(∀x∈l,∀y∈l,∀z∈l,le x y=true→le y z=true→le x z=true)→(eU le l).Pairwise (fun a b=>le a b=true)
 |[],_,_=>List.Pairwise.nil
 |x::r,ht,htr=>by
  refine uH (fun y hy=>ht x cr y (aO _ (ly.1 hy))) (fun y hy z hz=>htr x cr y (aO _ (ly.1 hy)) z (aO _ (ly.1 hz))) ?_;exact sv (fun a ha b hb=>ht a (aO _ ha) b (aO _ hb)) fun a ha b hb c hc=>htr a (aO _ ha) b (aO _ hb) c (aO _ hc)
section order
variable {cmp:ap→ap→Option Int} {l:List ap}
theorem sC(h:pt cmp l){x y:ap}(hx:x∈l)(hy:y∈l):mg cmp x y=true↔∃n,cmp x y=some n∧n≤0:=by
 unfold mg;obtain⟨n,h1,_⟩:=h.1 x hx y hy;rw[h1];simp
theorem Bj(h:pt cmp l){x y:ap}(hx:x∈l)(hy:y∈l):mg cmp x y=true∨mg cmp y x=true:=by
 rw[sC h hx hy,sC h hy hx];obtain⟨n,h1,_⟩:=h.1 x hx y hy;obtain⟨m,h2,_⟩:=h.1 y hy x hx;have:=h.2.1 y hy x hx m n h2 h1;by_cases hn:n≤0
 ·exact .inl ⟨n,h1,hn⟩
 exact .inr ⟨m,h2,by have:=this.2 (by omega);omega⟩
theorem VA(h:pt cmp l){x y:ap}(hx:x∈l)(hy:y∈l)(h1:mg cmp x y=true)(h2:mg cmp y x=true):x=y:=by
 rw[sC h hx hy]at h1;rw[sC h hy hx]at h2;obtain⟨n,e1,n0⟩:=h1;obtain⟨m,e2,m0⟩:=h2;have:=h.2.1 x hx y hy n m e1 e2;have hn:n=0:=by
  by_cases hlt:n<0
  ·have:=this.1 hlt;omega
  omega
 subst hn;exact h.2.2.1 x hx y hy e1
theorem Aw(h:pt cmp l){x y z:ap}(hx:x∈l)(hy:y∈l)(hz:z∈l)(h1:mg cmp x y=true)(h2:mg cmp y z=true):mg cmp x z=true:=by
 rw[sC h hx hy]at h1;rw[sC h hy hz]at h2;obtain⟨n,e1,n0⟩:=h1;obtain⟨m,e2,m0⟩:=h2;by_cases hn:n=0
 ·subst hn;rw[h.2.2.1 x hx y hy e1];rw[sC h hy hz];exact⟨m,e2,m0⟩
 by_cases hm:m=0
 ·subst hm;rw[←h.2.2.1 y hy z hz e2,sC h hx hy];exact⟨n,e1,n0⟩
 obtain⟨k,e3,_⟩:=h.1 x hx z hz;have:=h.2.2.2.2 x hx y hy z hz n m k e1 e2 e3 (by omega) (by omega);rw[sC h hx hz];exact⟨k,e3,by omega⟩
end order
def Ba(cmp:ap→ap→Option Int)(fO:List ap)(i j:Fin fO.length):Int:=(cmp fO[i] fO[j]).getD 0
theorem aeP{cmp:ap→ap→Option Int}{fO:List ap}(h:pt cmp fO):SWO (ltOf (Ba cmp fO)):=by
 have hm:∀i:Fin fO.length,fO[i]∈fO:=fun i=>aF _;have hlt:∀i j:Fin fO.length,ltOf (Ba cmp fO) i j=true↔mg cmp fO[j] fO[i]=false:=fun i j=>by
  unfold ltOf Ba mg;obtain⟨n,h1,_⟩:=h.1 _ (hm i) _ (hm j);obtain⟨m,h2,_⟩:=h.1 _ (hm j) _ (hm i);rw[h1,h2];have:=h.2.1 _ (hm i) _ (hm j) n m h1 h2;simp only[cJ,aL,eW];omega
 have hle:∀i j:Fin fO.length,ltOf (Ba cmp fO) i j=false↔mg cmp fO[j] fO[i]=true:=fun i j=>by
  have:=hlt i j;cases h1:ltOf (Ba cmp fO) i j<;>cases h2:mg cmp fO[j] fO[i]<;>simp_all
 refine⟨fun i=>?_,fun i j k h1 h2=>?_,fun i j k h1 h2=>?_⟩
 ·rw[hle];exact (Bj h (hm i) (hm i)).elim (fun h=>h) fun h=>h
 ·rw[hlt]at h1 h2 ⊢;cases h3:mg cmp fO[k] fO[i] with
  |false=>rfl
  |true=>
   have hij:mg cmp fO[i] fO[j]=true:=(Bj h (hm i) (hm j)).resolve_right (by rw[h1];simp);have:=Aw h (hm k) (hm i) (hm j) h3 hij;rw[h2]at this;cases this
 rw[hle]at h1 h2 ⊢;exact Aw h (hm k) (hm j) (hm i) h2 h1
theorem PZ{cmp:ap→ap→Option Int}{fO:List ap}(h:pt cmp fO){ds:List (Fin fO.length)}(hp:ds.Perm (List.finRange fO.length))(hs:ds.Pairwise fun i j=>ltOf (Ba cmp fO) j i=false) :
  ds.map (fun i=>fO[i])=eU (mg cmp) fO:=by
 have hm:∀i:Fin fO.length,fO[i]∈fO:=fun i=>aF _;have hall:(List.finRange fO.length).map (fun i=>fO[i])=fO:=by
  apply List.ext_getElem
  ·simp
  intro i h1 h2;simp
 have hp1:(ds.map fun i=>fO[i]).Perm fO:=by
  have:=hp.map (fun i:Fin fO.length=>fO[i])
  rwa [hall]at this
 have hmem:∀x∈ds.map (fun i=>fO[i]),x∈fO:=fun x hx=>hp1.mem_iff.1 hx;refine lb (le:=fun x y=>mg cmp x y=true) ?_ ?_ (sv (fun x hx y hy=>Bj h hx hy) fun x hx y hy z hz=>Aw h hx hy hz) (hp1.trans wa.symm)
 ·intro a b ha hb h1 h2;exact VA h (hmem a ha) (ly.1 hb) h1 h2
 rw[List.pairwise_map];refine hs.imp fun {i j} hij=>?_;have:ltOf (Ba cmp fO) j i=false:=hij;unfold ltOf Ba at this;obtain⟨n,h1,_⟩:=h.1 _ (hm i) _ (hm j);obtain⟨m,h2,_⟩:=h.1 _ (hm j) _ (hm i);rw[h2]at this;simp only[cJ,eW]at this;rw[sC h (hm i) (hm j)];have hx:=h.2.1 _ (hm i) _ (hm j) n m h1 h2;have hy:=h.2.1 _ (hm j) _ (hm i) m n h2 h1;refine⟨n,h1,?_⟩;by_cases hn:n≤0
 ·exact hn
 have:=hy.2 (by omega);omega
theorem M0(hs:ei M w c σ){id e blk off n:Nat}{es mid':List ap}(ho:σ[id]?=some (.arr 1 e es))(hb:c.place id=some blk){cs cs':Array Value}{T:TypeId}{Fv:Nat→Nat→Value}(hcs:w.heap[blk]?=some (.cells cs T (0,0)))
  (hz0:es.length*1≤cs.size) (hroom:c.room id=cs.size) (hF:∀i j,i<es.length→j<1→cs[i*1+j]?=some (Fv i j)∧(Fv i j).oneCell'=true) (hR:∀i (hi:i<es.length) j (hj:j<(cellsOf es[i]).length),R M w c (cellsOf es[i])[j] (Fv i j))
  (hall:∀x∈es,aC x=1) (hfit:off+n≤es.length) (hn:mid'.length=n) (hall':∀x∈mid',aC x=1∧isAgg x=false) (g:Nat→Value) (hg:∀i,i<n→(g i).oneCell'=true) (hgR:∀i (h:i<mid'.length),R M w c mid'[i] (g i))
  (hw:w'.heap[blk]?=some (.cells cs' T (0,0))) (hcz:cs'.size=cs.size) (hc':∀k,cs'[k]?=if off≤k∧k<off+n then some (g (k-off)) else cs[k]?) (hrest:∀b,b<w.heap.size→b≠blk→w'.heap[b]?=w.heap[b]?) (hsz:w.heap.size≤w'.heap.size) (hsame:Same w w') :
  ei M w' c (σ.set id (.arr 1 e (es.take off++mid'++es.drop (off+n))))∧iD c w c w':=by
 have hlive:c.H id≠.dead:=by rw[hs.H,eI ho];simp
 have hbl:blk<w.heap.size:=(bH.1 hcs).1;have hset:s6 w { w with heap:=w.heap.setIfInBounds blk (.cells cs' T (0,0)) } blk (.cells cs' T (0,0)):=⟨⟨rfl,rfl,rfl,aM _⟩,rfl⟩;have hlen:(es.take off++mid'++es.drop (off+n)).length=es.length:=by simp[hn];omega
 have at_:∀i (hi:i<(es.take off++mid'++es.drop (off+n)).length),(off≤i∧i<off+n∧∃h:i-off<mid'.length,(es.take off++mid'++es.drop (off+n))[i]=mid'[i-off]) ∨
   (¬(off≤i∧i<off+n)∧∃h:i<es.length,(es.take off++mid'++es.drop (off+n))[i]=es[i]):=fun i hi=>by
  by_cases h1:i<off
  ·right;refine⟨by omega,by omega,?_⟩;rw[bU (by simp[hn];omega),bU (by simp;omega)];simp
  by_cases h2:i<off+n
  ·left;refine⟨by omega,h2,by omega,?_⟩;rw[bU (by simp[hn];omega),cH (by simp;omega)];congr 1;simp;omega
  right;refine⟨by omega,by omega,?_⟩;rw[cH (by simp[hn];omega)];simp only[dU];congr 1;simp[hn];omega
 obtain⟨s1,st1⟩:=hs.setRow (es':=es.take off++mid'++es.drop (off+n)) ho hb hcs hset hcz hroom (by simp) (fun x hx=>by
   rcases bT.1 hx with hx|hx
   ·rcases bT.1 hx with hx|hx
    ·exact hall x (bv hx)
    exact (hall' x hx).1
   exact hall x (cQ hx)) (by rw[hlen];exact hz0) (fun i j=>if off≤i∧i<off+n then g (i-off) else Fv i j)
  (fun i j hi hj=>by
   have hj0:j=0:=by omega
   subst hj0;rw[hc'];rw[hlen]at hi;simp only[iI,eK];split
   ·exact⟨rfl,hg _ (by omega)⟩
   have:=hF i 0 hi (by omega);simpa using this)
  (fun i hi j hj=>by
   rcases at_ i hi with⟨h1,h2,h3,h4⟩|⟨h1,h2,h3⟩
   ·simp only[h4]at hj ⊢;rw[if_pos ⟨h1,h2⟩];have hna:=(hall' _ (aF h3)).2;have hcell:cellsOf mid'[i-off]=[mid'[i-off]]:=by
     cases hm:mid'[i-off]<;>first|rfl|(rw[hm]at hna;cases hna)
    simp only[hcell]at hj ⊢;have hj0:j=0:=by simpa using hj
    subst hj0;exact hgR _ h3
   simp only[h3]at hj ⊢;rw[if_neg h1];exact hR i h2 j hj)
 obtain⟨s2,x2⟩:=s1.over (w':=w') (fun b hbz hbb=>by
   rw[hset.get b hbl];split
   ·rename_i e1;rw[e1];exact hw
   rename_i hne;rw[hset.size]at hbz;exact hrest b hbz hne) (by rw[hset.size];exact hsz)
 refine⟨s2,{ Ext.trans st1.toExt x2 with same:=hsame,size:=hsz,frame:=fun b hbz hbn=>hrest b hbz (fun e=>hbn id hlive (e▸hb)),liv:=fun i b h1 h2 _=>⟨i,h1,h2⟩,old:=fun _ h _=>.inl h,oldb:=fun _ h _=>.inl h }⟩
theorem pQ{α:Type}[Inhabited α]{enc:α→Value}{blk off m:Nat}{d:Array α}{os:Array Go.Obj}{cs:Array Value}{T:TypeId}(hcs:w.heap[blk]?=some (.cells cs T (0,0))) :
  (grow (putRow enc (Sort.ahead w m) blk off d) os).heap[blk]?=some (.cells (putCells enc off d cs) T (0,0))∧(∀b,b<w.heap.size→b≠blk→(grow (putRow enc (Sort.ahead w m) blk off d) os).heap[b]?=w.heap[b]?) ∧
   w.heap.size≤(grow (putRow enc (Sort.ahead w m) blk off d) os).heap.size∧Same w (grow (putRow enc (Sort.ahead w m) blk off d) os):=by
 have hbl:blk<w.heap.size:=(bH.1 hcs).1;have hh:(grow (putRow enc (Sort.ahead w m) blk off d) os).heap=w.heap.modify blk (onCells (putCells enc off d))++os:=rfl;refine⟨?_,fun b hb hne=>?_,?_,⟨rfl,rfl,rfl,Nat.le_add_right _ _⟩⟩
 ·rw[hh,dB (by simpa using hbl),gM,if_pos rfl,hcs];rfl
 ·rw[hh,dB (by simpa using hb),gM,if_neg (fun e=>hne e.symm)]
 rw[hh];simp
theorem zh{α:Type}[Inhabited α]{enc:α→Value}{off k:Nat}{d:Array α}{cs:Array Value}(hfit:off+d.size≤cs.size):(putCells enc off d cs)[k]?=if off≤k∧k<off+d.size then some (enc d[k-off]!) else cs[k]?:=by
 unfold putCells;rw[Array.getElem?_mapIdx];by_cases h:off≤k∧k<off+d.size
 ·rw[if_pos h,de (by omega)];simp[h]
 rw[if_neg h];cases cs[k]? with
 |none=>rfl
 |some x=>simp[h]
theorem LV{id:Nat}{o:Obj}(h:σ[id]?=some o):σ.set id o=σ:=by
 apply f7;intro i;rw[dc];split
 ·rename_i e;subst e;rw[if_pos (al.1 h).1,h]
 rfl
end Go.AM
namespace Go.AM
open Go.Proofs Go.Sort Go.Shelf
variable {M:cZ} {P:Program} {w w':World} {c c1:cX} {σ τ:ay}
theorem Mr{ρ:Ren}(L:SlLaysF.n6 P ρ)(L0:SlLaysF0.n6 P ρ){f:Nat}(hf:M.fm f=ρ.f 6)(he:∀args w,(callFunc (ρ.f 6) args).run P w=.ok (.enter (ρ.f 6) args) w):yu M P f mn:=by
 intro C hC hR args σ v σ' h F n0 w c cargs hF hs hg ha;refine⟨.inl ⟨by rw[hf];exact he _ _,?_⟩,fun _ cargs' w'=>by rw[hf];exact he cargs' w'⟩;rw[uw hF,hf];have two:∀{a b:ap},iX M w c [a,b] cargs→∃x0 x1,cargs=#[x0,x1]∧R M w c a x0∧R M w c b x1:=fun {a b} ha=>by
  obtain⟨x0,e0,r0⟩:=ha.2 0 (by simp);obtain⟨x1,e1,r1⟩:=ha.2 1 (by simp);refine⟨x0,x1,?_,r0,r1⟩;apply ej;intro i;have hz:cargs.size=2:=ha.1
  match i with
  |0=>rw[e0];rfl
  |1=>rw[e1];rfl
  |i+2=>rw[dH (by omega),dH (by simp)]
 have nothing:∀{a:Option Addr} {cap:Nat} {x1:Value},Calls P (ρ.f 6) #[.slice a 0 cap,x1] w fun e w'=>∃cv,e=.returned cv∧fU M c w σ .any cv w':=fun {a cap x1}=>
  (AnyF.slices_SortFunc_none L0 a cap x1 w).mono fun e w' hx=>by
   obtain⟨rfl,rfl⟩:=hx;exact⟨_,rfl,c,hs,.refl c w',.r .any⟩
 unfold mn at h;split at h
 ·cases h;obtain⟨x0,x1,rfl,r0,r1⟩:=two ha;cases r0 with
  |@aj _ a=>exact nothing
 ·rename_i id ep off n fv;split at h
  ·rename_i k e es ho;dsimp only at h;split at h
   ·rename_i hc;obtain⟨hep,hfit,hmost,hfix,hord0,hpf⟩:=hc;have hord:=lI.1 hord0;cases h;obtain⟨x0,x1,rfl,r0,r1⟩:=two ha;have hH:c.H id=.arr k e:=by rw[hs.H,eI ho]
    have hlive:c.H id≠.dead:=by rw[hH];simp
    have hlen:((es.drop off).take n).length=n:=by simp;omega
    by_cases hn0:n=0
    ·subst hn0;have hσ:σ.set id (.arr k e (es.take off++eU (mg (iO C (fS (σ.set id .dead) fv))) ((es.drop off).take 0)++es.drop (off+0)))=σ:=by
      have:es.take off++eU (mg (iO C (fS (σ.set id .dead) fv))) ((es.drop off).take 0)++es.drop (off+0)=es:=by simp[eU]
      rw[this];exact LV ho
     rw[hσ];cases r0 with
     |sl=>exact nothing
     |sl0=>exact nothing
     |slOld h0 h1 h2=>exact absurd (h2 k e hH) (by omega)
    obtain⟨o1,o2,o3,o4⟩:=hs.obj id _ ho;generalize hmid:(es.drop off).take n=fO at *;have hfix':∀x∈fO,fS (σ.set id .dead) x=x∧aC x=1∧isAgg x=false∧js x=false:=fun x hx=>by
     have:=aG.1 hfix x hx;simp only[aq,aP,cN]at this;obtain⟨⟨⟨a1,a2⟩,a3⟩,a4⟩:=this;exact⟨rP a1,a2,a3,a4⟩
    have hmem:∀i:Fin fO.length,fO[i]∈fO:=fun i=>aF _;have hin:∀(i:Nat) (h:i<fO.length),∃h':off+i<es.length,fO[i]=es[off+i]:=fun i hi=>by
     refine⟨by omega,?_⟩;subst hmid;simp
    have hk1:k=1:=by
     obtain⟨h1,h2⟩:=hin 0 (by omega);have a:=(hfix' fO[0] (aF (by omega))).2.1;rw[h2,o2 _ (aF h1)]at a;exact a
    subst hk1;cases r0 with
    |sl0=>exact absurd rfl hn0
    |slOld h0 h1 h2=>exact absurd (h2 1 e hH) (by omega)
    |@sl _ _ _ _ _ cap k2 blk h1 h2 h3 h4 h5=>
     have hk2:k2=1:=by rw[hH]at h2;cases h2;rfl
     subst hk2;obtain⟨cs,T,Fv,q1,q2,q3,q4,q5⟩:=o4 blk h3;have hblk:=(hs.plow id blk hlive h3).1
     haveI:Inhabited (Fin fO.length):=⟨⟨0,by omega⟩⟩
     have hview:∀{x:ap} {cx:Value},R M w c x cx→R M w (c.side w blk) (fS (σ.set id .dead) x) cx:=fun hx=>
      (IX (hs.kill id).1 (sN hs hlive h3) iB false _ _ (hx.ext (hs.kill id).2)).ext (Ext.ofStill (sN hs hlive h3).sb true)
     have hglob:iW M w (c.side w blk):=fun g a hga=>
      (IX (hs.kill id).1 (sN hs hlive h3) 1 false _ _ ((hg g a hga).ext (hs.kill id).2)).ext (Ext.ofStill (sN hs hlive h3).sb true)
     have helem:∀i:Fin fO.length,R M w c fO[i] (Fv (off+i) 0):=fun i=>by
      obtain⟨a1,a2⟩:=hin i.1 i.2;have hna:=(hfix' _ (hmem i)).2.2.1;have hcell:cellsOf fO[i]=[fO[i]]:=by
       cases hm:fO[i]<;>first|rfl|(rw[hm]at hna;cases hna)
      have hj:0<(cellsOf es[off+i.1]).length:=by
       have:cellsOf es[off+i.1]=[fO[i]]:=by rw[←hcell];exact congrArg cellsOf a2.symm
       rw[this];simp
      have:=q5 (off+i.1) a1 0 hj;have e1:(cellsOf es[off+i.1])[0]=fO[i]:=by
       have:cellsOf es[off+i.1]=[fO[i]]:=by rw[←hcell];exact congrArg cellsOf a2.symm
       simp[this]
      rw[e1]at this;exact this
     have hside:∀i:Fin fO.length,R M w (c.side w blk) fO[i] (Fv (off+i) 0):=fun i=>by
      have:=hview (helem i)
      rwa [(hfix' _ (hmem i)).1]at this
     have hfv:=hview r1;generalize hfe:fS (σ.set id .dead) fv=fv' at *;unfold RN at hpf;split at hpf
     ·rename_i g0 cap0;obtain⟨fs,cb,rfl,hfs,hcb⟩:=Fd hfv;have hfs0:fs=#[]:=gf hfs.1;subst hfs0
      have hat:∀(W:World),(∀b,b<w.heap.size→b≠blk→W.heap[b]?=w.heap[b]?)→w.heap.size≤W.heap.size→∀i j:Fin fO.length,
        (Calls P (M.fm g0) (#[Fv (off+i) 0,Fv (off+j) 0]++cb) W fun e w'=>e=.returned (.int .i64 (Ba (iO C (.fn g0 [] cap0)) fO i j))∧∃q os,w'=grow (W.drewN q) os)∧∀args w,(callFunc (M.fm g0) args).run P w=.ok (.enter (M.fm g0) args) w:=fun W hfr hz i j=>by
       obtain⟨sW,xW⟩:=VF (W:=W) hs hlive h3 hz hfr;obtain⟨r,hr,_⟩:=hord.1 _ (hmem i) _ (hmem j);have hcf:Ba (iO C (.fn g0 [] cap0)) fO i j=r:=by unfold Ba;rw[hr];rfl
       rw[hcf];unfold iO at hr;split at hr
       ·rename_i m hq;cases hr;have hq':C g0 ([fO[i],fO[j]]++cap0) []=some (.int .i64 r,[]):=hq;have hcall:=hC g0 _ [] _ [] hq' Fence.wide 0 W (c.side w blk) (#[Fv (off+i) 0,Fv (off+j) 0]++cb) wT sW (hglob.ext xW) (iX.append ⟨rfl,fun t ht=>by
         match t,ht with
         |0,_=>exact⟨_,rfl,(hside i).ext xW⟩
         |1,_=>exact⟨_,rfl,(hside j).ext xW⟩
         |t+2,ht=>exact absurd ht (by simp)⟩ (iX.ext hcb xW))
        have henter:=hcall.2 ⟨fO[i],by simp,(hfix' _ (hmem i)).2.2.2⟩;refine⟨?_,henter⟩;rcases hcall.1 with⟨_,hin⟩|⟨cv,w',hv,_⟩
        ·rw[uw wT]at hin;refine hin.mono fun e w' hx=>?_;obtain⟨cv,rfl,c',s',st',rf⟩:=hx;have hcv:cv=.int .i64 r:=by
          cases rf with
          |r h=>cases h;rfl
         subst hcv;exact⟨rfl,aah st'.same st'.size fun b hb=>st'.frame b hb fun id h=>absurd (by rfl) h⟩
        rw[henter]at hv;cases hv
       cases hr
      have hds:(List.finRange fO.length).toArray.size=fO.length:=by simp
      have hget:∀j,(hj:j<fO.length)→(List.finRange fO.length).toArray[j]! = ⟨j,hj⟩:=fun j hj=>by
       rw[getElem!_pos _ j (by simpa using hj)];simp
      have hHold:Holds (fun i:Fin fO.length=>Fv (off+i) 0) w blk off (List.finRange fO.length).toArray:=fun j hj=>by
       rw[hds]at hj;rw[hget j hj];have:=(q4 (off+j) 0 (by omega) (by omega)).1;simp only[World.cell?,World.frozen?,q1];refine⟨by simpa using this,by simp⟩
      have hone:OneCell (fun i:Fin fO.length=>Fv (off+i) 0):=fun i=>(q4 (off+i) 0 (by have:=i.2;omega) (by omega)).2;have hcmp:CmpLays1 P (M.fm g0) cb (fun i:Fin fO.length=>Fv (off+i) 0) (Ba (iO C (.fn g0 [] cap0)) fO) blk off (List.finRange fO.length).toArray.size w:=fun m os dk _ i j=>by
       obtain⟨_,f2,f3,_⟩:=pQ (w:=w) (enc:=fun i:Fin fO.length=>Fv (off+i) 0) (off:=off) (m:=m) (d:=dk) (os:=os) q1;exact (hat _ f2 f3 i j).1
      have hmain:=Any.slices_SortFunc L (fun i:Fin fO.length=>Fv (off+i) 0) hone (Ba (iO C (.fn g0 [] cap0)) fO) (aeP hord) (M.fm g0) cb blk off cap (List.finRange fO.length).toArray w
       (hat w (fun _ _ _=>rfl) (aM _) ⟨0,by omega⟩ ⟨0,by omega⟩).2 hcmp hHold hblk (by rw[hds,hlen];unfold most at hmost;omega)
      have e1:(⟨blk,off*1,none⟩:Addr)=⟨blk,off,none⟩:=by rw[iI]
      have e2:(List.finRange fO.length).toArray.size=n:=by rw[hds,hlen]
      rw[e2]at hmain;rw[e1];refine hmain.mono fun e' w' hx=>?_;obtain⟨rfl,d',m,os,⟨p1,p2,p3⟩,hso,rfl⟩:=hx;have hd'z:d'.size=fO.length:=by rw[p1,hds]
      have hx1:d'.extract 0 n=d':=by rw[show n=d'.size by omega];exact Array.extract_size
      have hx2:(List.finRange fO.length).toArray.extract 0 n=(List.finRange fO.length).toArray:=by rw[←e2];exact Array.extract_size
      rw[hx1,hx2]at p3
      have hsorted:=PZ hord (ds:=d'.toList) (by simpa using p3) (by
       rw[ia];intro i j hi hj hij;have:=hso i j (bP _) hij (by simp at hj;omega);rw[getElem!_pos d' i (by simpa using hi),getElem!_pos d' j (by simpa using hj)]at this;simpa using this)
      obtain⟨f1,f2,f3,f4⟩:=pQ (w:=w) (enc:=fun i:Fin fO.length=>Fv (off+i) 0) (off:=off) (m:=m) (d:=d') (os:=os) q1;have hfit':off+d'.size≤cs.size:=by omega
      have:=M0 (w':=sortWorld (fun i:Fin fO.length=>Fv (off+i) 0) w blk off m d' os) hs (mid':=eU (mg (iO C (.fn g0 [] cap0))) fO) (off:=off) (n:=n) (cs':=putCells (fun i:Fin fO.length=>Fv (off+i) 0) off d' cs) ho h3 q1 q2 q3 q4 q5 o2 hfit (by rw[←hsorted];simp;omega)
       (fun x hx=>by
        have:=hfix' x (ly.1 hx);exact⟨this.2.1,this.2.2.1⟩) (fun i=>Fv (off+(d'[i]!).1) 0) (fun i hi=>(q4 (off+(d'[i]!).1) 0 (by have:=(d'[i]!).2;omega) (by omega)).2)
       (fun i hi=>by
        have hi':i<d'.size:=by rw[←hsorted]at hi;simpa using hi
        have e3:(eU (mg (iO C (.fn g0 [] cap0))) fO)[i]=fO[d'[i]]:=by
         have:(eU (mg (iO C (.fn g0 [] cap0))) fO)[i]?=some fO[d'[i]]:=by
          rw[←hsorted];simp[hi']
         exact (al.1 this).2
        rw[e3,getElem!_pos d' i hi'];exact helem d'[i])
       f1 (by simp[putCells]) (fun k=>by
        rw[zh hfit',show d'.size=n by omega]) f2 f3 f4
      exact⟨_,rfl,c,this.1,this.2,.r .any⟩
     cases hpf
   cases h
  cases h
 cases h
end Go.AM
namespace Go.AM
open Go.Proofs Go.Sort Go.Shelf
variable {M:cZ} {P:Program} {w w':World} {c c1:cX} {σ τ:ay}
theorem Fu:∀{l:List ap} {zs:List Int},LS l=some zs↔l=zs.map (.int .i64)
 |[],zs=>by
  simp only[LS,aJ];cases zs<;>simp
 |x::r,zs=>by
  cases x with
  |int k n=>
   by_cases hk:k=.i64
   ·subst hk;simp only[LS,aY];constructor
    ·rintro⟨ys,h,rfl⟩;rw[Fu.1 h];rfl
    intro h;cases zs with
    |nil=>cases h
    |cons z zs=>
     simp only[bG,mB,ap.int.injEq,true_and]at h;obtain⟨rfl,h⟩:=h;exact⟨zs,Fu.2 h,rfl⟩
   have:LS (.int k n::r)=none:=by
    cases k<;>first|rfl|exact absurd rfl hk
   rw[this];constructor
   ·intro h;cases h
   intro h;cases zs with
   |nil=>cases h
   |cons z zs=>simp only[bG,mB,ap.int.injEq]at h;exact absurd h.1.1 hk
  |_=>
   constructor
   ·intro h;cases h
   intro h;cases zs<;>simp at h
theorem LY{zs:List Int}:eU oJ (zs.map (.int .i64))=(zs.mergeSort fun x y=>decide (x≤y)).map (.int .i64):=by
 have hm:∀x∈zs.map (ap.int .i64),∃n,x=.int .i64 n:=fun x hx=>by
  obtain⟨n,_,rfl⟩:=aU.1 hx;exact⟨n,rfl⟩
 refine lb (le:=fun x y=>oJ x y=true) ?_ (sv (fun x hx y hy=>?_) fun x hx y hy z hz h1 h2=>?_) ?_ (wa.trans ((List.mergeSort_perm zs _).map _).symm)
 ·intro a b ha hb h1 h2;obtain⟨n,rfl⟩:=hm a (ly.1 ha);obtain⟨m,_,rfl⟩:=aU.1 hb;simp only[oJ,aL]at h1 h2;rw[Int.le_antisymm h1 h2]
 ·obtain⟨n,rfl⟩:=hm x hx;obtain⟨m,rfl⟩:=hm y hy;simp only[oJ,aL];omega
 ·obtain⟨n,rfl⟩:=hm x hx;obtain⟨m,rfl⟩:=hm y hy;obtain⟨k,rfl⟩:=hm z hz;simp only[oJ,aL]at h1 h2 ⊢;omega
 rw[List.pairwise_map];have:=List.pairwise_mergeSort (le:=fun x y:Int=>decide (x≤y)) (fun a b c h1 h2=>by simp at h1 h2 ⊢;omega) (fun a b=>by simp;omega) zs;refine this.imp fun {a b} h=>?_;simpa [oJ] using h
theorem MB{ρ:Ren}(L:Lays.n189 P ρ){f:Nat}(hf:M.fm f=ρ.f 189)(he:∀args w,(callFunc (ρ.f 189) args).run P w=.ok (.enter (ρ.f 189) args) w):yu M P f fun _=>vr:=by
 intro C hC hR args σ v σ' h F n0 w c cargs hF hs hg ha;refine⟨.inl ⟨by rw[hf];exact he _ _,?_⟩,fun _ cargs' w'=>by rw[hf];exact he cargs' w'⟩;rw[uw hF,hf];have one:∀{a:ap},iX M w c [a] cargs→∃x0,cargs=#[x0]∧R M w c a x0:=fun {a} ha=>by
  obtain⟨x0,e0,r0⟩:=ha.2 0 (by simp);refine⟨x0,?_,r0⟩;apply ej;intro i;have hz:cargs.size=1:=ha.1
  match i with
  |0=>rw[e0];rfl
  |i+1=>rw[dH (by omega),dH (by simp)]
 have nothing:∀{a:Option Addr} {cap:Nat},Calls P (ρ.f 189) #[.slice a 0 cap] w fun e w'=>∃cv,e=.returned cv∧fU M c w σ .any cv w':=fun {a cap}=>
  (Any.slices_Sort_int_none L a cap w).mono fun e w' hx=>by
   obtain⟨rfl,rfl⟩:=hx;exact⟨_,rfl,c,hs,.refl c w',.r .any⟩
 replace h:vr args σ=some (v,σ'):=h;unfold vr at h;split at h
 ·cases h;obtain⟨x0,rfl,r0⟩:=one ha;cases r0 with
  |@aj _ a=>exact nothing
 ·rename_i id ep off n;split at h
  ·rename_i k e es ho;split at h
   ·rename_i hc;obtain⟨hep,hfit,hmost,hints⟩:=hc;cases h;obtain⟨x0,rfl,r0⟩:=one ha;have hH:c.H id=.arr k e:=by rw[hs.H,eI ho]
    have hlive:c.H id≠.dead:=by rw[hH];simp
    have hlen:((es.drop off).take n).length=n:=by simp;omega
    obtain⟨zs,hzs⟩:=eg.1 hints;have hmz:=Fu.1 hzs;have hzl:zs.length=n:=by rw[←hlen,hmz];simp
    by_cases hn0:n=0
    ·subst hn0;have hσ:σ.set id (.arr k e (es.take off++eU oJ ((es.drop off).take 0)++es.drop (off+0)))=σ:=by
      have:es.take off++eU oJ ((es.drop off).take 0)++es.drop (off+0)=es:=by simp[eU]
      rw[this];exact LV ho
     rw[hσ];cases r0 with
     |sl=>exact nothing
     |sl0=>exact nothing
     |slOld h0 h1 h2=>exact absurd (h2 k e hH) (by omega)
    obtain⟨o1,o2,o3,o4⟩:=hs.obj id _ ho
    have hin:∀(i:Nat) (h:i<n),es[off+i]'(by omega)=.int .i64 (zs[i]'(by omega)):=fun i hi=>by
     have h1:((es.drop off).take n)[i]'(by omega)=es[off+i]'(by omega):=by simp
     have h2:((es.drop off).take n)[i]?=(zs.map (ap.int .i64))[i]?:=by rw[hmz]
     rw[am (by omega),h1]at h2;simpa [show i<zs.length by omega] using h2
    have hk1:k=1:=by
     have:=o2 _ (aF (show off+0<es.length by omega));rw[hin 0 (by omega)]at this;exact this.symm
    subst hk1;cases r0 with
    |sl0=>exact absurd rfl hn0
    |slOld h0 h1 h2=>exact absurd (h2 1 e hH) (by omega)
    |@sl _ _ _ _ _ cap k2 blk h1 h2 h3 h4 h5=>
     have hk2:k2=1:=by rw[hH]at h2;cases h2;rfl
     subst hk2;obtain⟨cs,T,Fv,q1,q2,q3,q4,q5⟩:=o4 blk h3;have hblk:=(hs.plow id blk hlive h3).1
     have hval:∀(i:Nat) (h:i<n),Fv (off+i) 0=.int .i64 (zs[i]'(by omega)):=fun i hi=>by
      have hj:0<(cellsOf (es[off+i]'(by omega))).length:=by rw[hin i hi];simp[cellsOf]
      have:=q5 (off+i) (by omega) 0 hj;simp only[hin i hi]at this;have h':R M w c (.int .i64 (zs[i]'(by omega))) (Fv (off+i) 0):=this;generalize Fv (off+i) 0=q at h';cases h';rfl
     have hHold:Holds (Value.int .i64) w blk off zs.toArray:=fun j hj=>by
      have hj':j<n:=by simpa [hzl] using hj
      have:=(q4 (off+j) 0 (by omega) (by omega)).1;rw[hval j hj']at this;rw[getElem!_pos _ j hj];simp only[World.cell?,World.frozen?,q1];refine⟨by simpa using this,by simp⟩
     have hmain:=Any.slices_Sort_int L blk off cap zs w hHold hblk (by rw[hzl];unfold most at hmost;omega);have e1:(⟨blk,off*1,none⟩:Addr)=⟨blk,off,none⟩:=by rw[iI]
     rw[hzl]at hmain;rw[e1];refine hmain.mono fun e' w' hx=>?_;obtain⟨rfl,m,os,rfl⟩:=hx;generalize hss:(zs.mergeSort fun x y=>decide (x≤y))=ss at *;have hsl:ss.length=n:=by rw[←hss,List.length_mergeSort,hzl]
     have hsorted:eU oJ ((es.drop off).take n)=ss.map (.int .i64):=by rw[hmz,LY,hss]
     obtain⟨f1,f2,f3,f4⟩:=pQ (w:=w) (enc:=Value.int .i64) (off:=off) (m:=m) (d:=ss.toArray) (os:=os) q1;have hfit':off+ss.toArray.size≤cs.size:=by simp;omega
     have:=M0 (w':=grow (putRow (Value.int .i64) (Sort.ahead w m) blk off ss.toArray) os) hs (mid':=eU oJ ((es.drop off).take n)) (off:=off) (n:=n) (cs':=putCells (Value.int .i64) off ss.toArray cs) ho h3 q1 q2 q3 q4 q5 o2 hfit (by rw[hsorted];simp[hsl])
      (fun x hx=>by
       rw[hsorted]at hx;obtain⟨z,_,rfl⟩:=aU.1 hx;exact⟨rfl,rfl⟩) (fun i=>.int .i64 (ss.toArray[i]!)) (fun i hi=>rfl)
      (fun i hi=>by
       have hi':i<ss.length:=by rw[hsorted]at hi;simpa using hi
       have e3:(eU oJ ((es.drop off).take n))[i]=.int .i64 ss[i]:=by
        have:(eU oJ ((es.drop off).take n))[i]?=some (.int .i64 ss[i]):=by
         rw[hsorted];simp[hi']
        exact (al.1 this).2
       rw[e3,getElem!_pos ss.toArray i (by simpa using hi')];exact .int)
      f1 (by simp[putCells]) (fun k=>by
       rw[zh hfit'];simp only[List.size_toArray,hsl]) f2 f3 f4
     exact⟨_,rfl,c,this.1,this.2,.r .any⟩
   cases h
  cases h
 cases h
end Go.AM
namespace Go.AM
variable {M:cZ} {P:Program} {w w':World} {c c1:cX} {σ τ:ay}
theorem uF:∀(a b:List UInt8),Lib.compareBytes a b=if Op.bytesLess a b then -1 else if a==b then 0 else 1
 |[],[]=>rfl
 |[],_::_=>rfl
 |_::_,[]=>rfl
 |a::x,b::y=>by
  simp only[Lib.compareBytes,Op.bytesLess];by_cases h1:a<b
  ·simp[h1]
  by_cases h2:b<a
  ·have hne:¬a=b:=fun e=>by subst e;exact h1 h2
   simp[h1,h2,hne]
  have he:a=b:=UInt8.le_antisymm (UInt8.not_lt.1 h2) (UInt8.not_lt.1 h1);subst he;rw[if_neg h1,if_neg h1,uF x y];simp[h1]
theorem JT{f:Nat}{fn:Func}(hf:P.funcs[M.fm f]?=some fn)(h1:(fn.name == "runtime.NumGoroutine")=false)(h2:fn.body.isNone=true)(h3:Extern.findNext fn=none)(h4:Extern.find fn=some Extern.BytealgCompare.compare):yu M P f fun _=>ol:=by
 intro C hC hR args σ v σ' h F n w c cargs hF hs hg ha;replace h:ol args σ=some (v,σ'):=h;unfold ol at h;split at h
 ·rename_i a b;cases h;obtain⟨x0,e0,r0⟩:=ha.2 0 (by simp);obtain⟨x1,e1,r1⟩:=ha.2 1 (by simp);have hc:cargs=#[x0,x1]:=by
   apply ej;intro i;have hz:cargs.size=2:=ha.1
   match i with
   |0=>rw[e0];rfl
   |1=>rw[e1];rfl
   |i+2=>rw[dH (by omega),dH (by simp)]
  subst hc;cases r0 with|@str _ s t ht=>cases r1 with|@str _ s' t' ht'=>
  refine⟨.inr ⟨.int .i64 (if Op.bytesLess a b then -1 else if a==b then 0 else 1),w,?_,c,hs,.refl c w,.r .int⟩,fun hx=>?_⟩
  ·rw[run_callFunc_extern hf h1 h2 h3 h4,Lib.run_compareString,uF,ht,ht'];rfl
  exfalso;obtain⟨y,hy,hp⟩:=hx;simp at hy;rcases hy with rfl|rfl<;>simp[js]at hp
 cases h
theorem UU{f:Nat}{fn:Func}(hf:P.funcs[M.fm f]?=some fn)(h1:(fn.name == "runtime.NumGoroutine")=false)(h2:fn.body.isNone=true)(h3:Extern.findNext fn=none)(h4:Extern.find fn=some add64Entry):yu M P f fun _=>Fa:=by
 intro C hC hR args σ v σ' h F n w c cargs hF hs hg ha;replace h:Fa args σ=some (v,σ'):=h;unfold Fa at h;split at h
 ·rename_i x y cc;split at h
  ·rename_i hb;obtain⟨b1,b2,b3,b4,b5,b6⟩:=hb;cases h;obtain⟨x0,e0,r0⟩:=ha.2 0 (by simp);obtain⟨x1,e1,r1⟩:=ha.2 1 (by simp);obtain⟨x2,e2,r2⟩:=ha.2 2 (by simp);have hc:cargs=#[x0,x1,x2]:=by
    apply ej;intro i;have hz:cargs.size=3:=ha.1
    match i with
    |0=>rw[e0];rfl
    |1=>rw[e1];rfl
    |2=>rw[e2];rfl
    |i+3=>rw[dH (by omega),dH (by simp)]
   subst hc;cases r0;cases r1;cases r2;refine⟨.inr ⟨.tuple #[.int .u64 ((x+y+cc)%18446744073709551616),.int .u64 ((x+y+cc)/18446744073709551616)],w,?_,c,hs,.refl c w,.r (.tup (fun i=>if i=0 then .int .u64 ((x+y+cc)%18446744073709551616) else .int .u64 ((x+y+cc)/18446744073709551616)) rfl (fun i hi=>?_) (fun i hi=>?_))⟩,fun hx=>?_⟩
   ·rw[run_callFunc_extern hf h1 h2 h3 h4,run_add64 x y cc b1 b3 b5 b6];rfl
   ·match i,hi with
    |0,_=>rfl
    |1,_=>rfl
    |i+2,hi=>exact absurd hi (by simp)
   ·match i,hi with
    |0,_=>exact .int
    |1,_=>exact .int
    |i+2,hi=>exact absurd hi (by simp)
   exfalso;obtain⟨z,hz,hp⟩:=hx;simp at hz;rcases hz with rfl|rfl|rfl<;>simp[js]at hp
  cases h
 cases h
end Go.AM
namespace Go.AM
section
variable (M:cZ) (P:Program) (co:Nat→Bool)
def MR:List (Tmp×cP)→Tmp→Option cP
 |[],_=>none
 |(u,x)::r,t=>if u==t then some x else MR r t
def VJ(em:List Tmp)(done:List (Tmp×cP))(o:Oper):Option cP:=
 if o.guard.isNone then (match Sm o.op with
  |some (.tmp t)=>(match MR done t with
   |some x=>some x
   |none=>(em.idxOf? t).map .env)
  |some (.const v)=>(Re v).map .val
  |_=>none) else none
def Ca(em:List Tmp):List Oper→List (Tmp×cP)→Nat→C8
 |[],_,_=>[]
 |o::r,done,n=>match VJ em done o with
  |some x=>(x,none)::Ca em r (match o.dst with|some d=>(d,x)::done|none=>done) n
  |none=>(.loc n,some n)::Ca em r (match o.dst with|some d=>(d,.loc n)::done|none=>done) (n+1)
def OK:Nat→C8→Option Nat
 |n,[]=>some n
 |n,(_,none)::r=>OK n r
 |n,(_,some q)::r=>if q==n then OK (n+1) r else none
def Ad(b:List Nat)(o:Oper):Nat:=o.after.toList.foldr (fun e s=>if Region.binds .any e then (s |||2^e.on) |||b.getD e.on 0 else s) 0
def jw:List Oper→List Nat→List Nat
 |[],acc=>acc
 |o::r,acc=>jw r (acc++[Ad acc o])
def C9(i:Nat):Nat:=2^i-1
def mv(b:List Nat)(i:Nat):Nat:=b.getD i 0
def AK:List Nat→Bool
 |[]=>true
 |x::r=>!r.contains x&&AK r
def vG(ins:List cj)(chk:List (Nat×Nat))(its:C8):List (Nat×Nat):=
 (List.range its.length).filterMap fun k=>match eA its k with
  |some m=>if jI co ins chk m then some (k,m) else none
  |none=>none
def adt:Option cj→Bool
 |some ⟨.box _ (.val _),none⟩=>true
 |_=>false
def abc(ops:List Oper)(ins:List cj)(em:List Tmp)(its:C8)(bef:Nat→Nat)(chk nws:List (Nat×Nat))(d:Nat):Bool:=
 match ops[d]? with
 |none=>false
 |some o=>(match o.op with|.alloc _=>true|_=>false)&&o.guard.isNone&&bef d==0&&(match o.dst,eA its d with
  |some t,some n=>jI co ins chk n&&adt ins[n]?&&((List.range ops.length).all fun j=>!(bef j).testBit d ||nws.all fun km=>decide (n≤km.2) ||(bef j).testBit km.1) &&
    ((List.range ops.length).all fun j=>j==d ||(Gk ops em its bef j t).isNone ||(bef j).testBit d)
  |_,_=>false)
def AY(draw:Bool)(ops:List Oper)(ins:List cj)(em:List Tmp)(its:C8)(bef:Nat→Nat)(chk nws:List (Nat×Nat)):Option Nat:=
 if draw then (List.range ops.length).reverse.find? (abc co ops ins em its bef chk nws) else none
def zP(ins:List cj)(chk:List (Nat×Nat))(nws:List (Nat×Nat))(bef:Nat→Nat)(late:Option Nat)(i n:Nat)(I:cj):Bool:=
 if jI co ins chk n then late==some i ||nws.all fun km=>decide (i≤km.1) ||(bef i).testBit km.1
 else TZ co I.op==0 ||
  ((nws.any (fun km=>(bef i).testBit km.1) ||nws.all (fun km=>decide (n≤km.2)) ||chk.contains (n,0)) &&
   nws.all fun km=>(bef km.1).testBit i ||nws.any (fun k'=>decide (km.2<k'.2)&&(bef i).testBit k'.1) ||
    (decide (km.2<n)&&nws.all (fun k'=>decide (k'.2≤km.2) ||decide (n≤k'.2))) ||chk.contains (n,km.2+1))
def Un(draw:Bool)(ops:List Oper)(ins:List cj)(em:List Tmp)(its:C8)(bef:Nat→Nat)(chk nws:List (Nat×Nat))(late:Option Nat)(i:Nat)(o:Oper):Bool:=
 match eA its i with
 |none=>OD ops em its bef i o
 |some n=>match ins[n]? with
  |none=>false
  |some I=>Ep M P (Gk ops em its bef i) o.op I.op&&wx its bef ops i o.guard I.guard&&B0 (o6 its i) (.loc n)&&(!draw ||zP co ins chk nws bef late i n I)
def rI{α:Type}(f:Nat→α→Bool):Nat→List α→Bool
 |_,[]=>true
 |i,x::r=>f i x&&rI f (i+1) r
def zO(draw:Bool)(ops:List Oper)(ins:List cj)(em:List Tmp)(oX:List (Nat×cP))(chk:List (Nat×Nat))(nt:Nat):Bool:=
 let its:=Ca em ops [] 0
 let b:=jw ops []
 let bef:=if draw then mv b else C9
 (its.length==ops.length)&&(ops.all fun o=>match o.dst with|some d=>decide (d<nt)|none=>true)&&AK (ops.filterMap (·.dst)) &&
 (OK 0 its==some ins.length)&&(!draw ||(rI (fun i x=>decide (x<2^i)) 0 b&&b.length==ops.length&&rI (fun i o=>Ad b o==b.getD i 0&&o.after.toList.all fun e=>!Region.binds .any e ||decide (e.on<i)) 0 ops)) &&
 rI (Un M P co draw ops ins em its bef chk (vG co ins chk its) (AY co draw ops ins em its bef chk (vG co ins chk its))) 0 ops&&tv ops em its oX&&(draw ||chk.isEmpty) &&
 chk.all (fun nj=>match ins[nj.1]? with|some I=>I.guard.isNone|none=>true)
end
theorem oH{α:Type}{f:Nat→α→Bool}:∀{l:List α} {i:Nat},rI f i l=true→∀j x,l[j]?=some x→f (i+j) x=true
 |[],_,_,j,x,h=>by simp at h
 |y::r,i,h,j,x,hx=>by
  simp only[rI,aq]at h;cases j with
  |zero=>simp only[iK,aJ]at hx;subst hx;exact h.1
  |succ j=>
   have:=oH h.2 j x (by simpa using hx)
   rwa [show i+1+j=i+(j+1) by omega]at this
theorem uB:∀{l:List Nat},AK l=true→l.Nodup
 |[],_=>List.nodup_nil
 |x::r,h=>by
  simp only[AK,aq,cN,←Bool.not_eq_true,gQ]at h;exact List.nodup_cons.2 ⟨h.1,uB h.2⟩
theorem kK{x:cP×Option Nat}{r:C8}:eA (x::r) 0=x.2:=by simp[eA]
theorem ib{x:cP×Option Nat}{r:C8}{k:Nat}:eA (x::r) (k+1)=eA r k:=by simp[eA]
theorem BH:∀{its:C8} {n m:Nat},OK n its=some m→n≤m∧(∀k q,eA its k=some q→n≤q∧q<m)∧(∀k i q p,eA its k=some q→eA its i=some p→k<i→q<p)∧∀q,n≤q→q<m→∃k,eA its k=some q∧k<its.length
 |[],n,m,h=>by
  simp only[OK,aJ]at h;subst h;exact⟨aM _,fun k q h=>by simp[eA]at h,fun k i q p h=>by simp[eA]at h,fun q h1 h2=>by omega⟩
 |(x,none)::r,n,m,h=>by
  simp only[OK]at h;obtain⟨h1,h2,h3,h4⟩:=BH h;refine⟨h1,fun k q hk=>?_,fun k i q p hk hi hlt=>?_,fun q hq hm=>?_⟩
  ·cases k with
   |zero=>rw[kK]at hk;cases hk
   |succ k=>rw[ib]at hk;exact h2 k q hk
  ·cases k with
   |zero=>rw[kK]at hk;cases hk
   |succ k=>cases i with
    |zero=>omega
    |succ i=>rw[ib]at hk hi;exact h3 k i q p hk hi (by omega)
  obtain⟨k,k1,k2⟩:=h4 q hq hm;exact⟨k+1,by rw[ib];exact k1,by simpa using k2⟩
 |(x,some y)::r,n,m,h=>by
  simp only[OK]at h;split at h
  ·rename_i hy;have hy':y=n:=by simpa using hy
   subst hy';obtain⟨h1,h2,h3,h4⟩:=BH h;refine⟨by omega,fun k q hk=>?_,fun k i q p hk hi hlt=>?_,fun q hq hm=>?_⟩
   ·cases k with
    |zero=>rw[kK]at hk;cases hk;omega
    |succ k=>rw[ib]at hk;have:=h2 k q hk;omega
   ·cases i with
    |zero=>omega
    |succ i=>
     rw[ib]at hi;cases k with
     |zero=>rw[kK]at hk;cases hk;have:=h2 i p hi;omega
     |succ k=>rw[ib]at hk;exact h3 k i q p hk hi (by omega)
   by_cases e:q=y
   ·exact⟨0,by rw[kK,e],by simp⟩
   obtain⟨k,k1,k2⟩:=h4 q (by omega) hm;exact⟨k+1,by rw[ib];exact k1,by simpa using k2⟩
  cases h
theorem zr{co:Nat→Bool}{ins:List cj}{chk:List (Nat×Nat)}{its:C8}{k m:Nat}(h:eA its k=some m)(hn:jI co ins chk m=true):(k,m)∈vG co ins chk its:=by
 unfold vG;rw[List.mem_filterMap];refine⟨k,gh.2 ?_,?_⟩
 ·unfold eA at h;cases hq:its[k]? with
  |none=>rw[hq]at h;cases h
  |some _=>exact (al.1 hq).1
 rw[h];simp[hn]
theorem Vw{co:Nat→Bool}{ins:List cj}{chk:List (Nat×Nat)}{its:C8}{km:Nat×Nat}(h:km∈vG co ins chk its):eA its km.1=some km.2∧jI co ins chk km.2=true:=by
 unfold vG at h;rw[List.mem_filterMap]at h;obtain⟨k,_,h⟩:=h;split at h
 ·rename_i m hm;split at h
  ·rename_i hn;cases h;exact⟨hm,hn⟩
  cases h
 cases h
theorem KF{b:List Nat}{o:Oper}{k:Nat}(h:(Ad b o).testBit k=true):∃e∈o.after,Region.binds .any e=true∧(k=e.on∨(mv b e.on).testBit k=true):=by
 unfold Ad at h;have key:∀l:List Edge,(l.foldr (fun e s=>if Region.binds .any e then (s |||2^e.on) |||b.getD e.on 0 else s) 0).testBit k=true→∃e∈l,Region.binds .any e=true∧(k=e.on∨(mv b e.on).testBit k=true):=by
  intro l;induction l with
  |nil=>intro h;simp at h
  |cons e l ih=>
   intro h;simp only[List.foldr_cons]at h;split at h
   ·rename_i hb;simp only[Nat.testBit_or,cK,Nat.testBit_two_pow,aL]at h;rcases h with (h|h)|h
    ·obtain⟨e',h1,h2⟩:=ih h;exact⟨e',aO _ h1,h2⟩
    ·exact⟨e,cr,hb,.inl h.symm⟩
    exact⟨e,cr,hb,.inr h⟩
   obtain⟨e',h1,h2⟩:=ih h;exact⟨e',aO _ h1,h2⟩
 obtain⟨e,h1,h2⟩:=key _ h;exact⟨e,by simpa using h1,h2⟩
theorem Nv{x i k:Nat}(h:x<2^i)(hk:x.testBit k=true):k<i:=by
 by_cases hlt:k<i
 ·exact hlt
 have:x<2^k:=bd h (Nat.pow_le_pow_right (by omega) (by omega));rw[Nat.testBit_lt_two_pow this]at hk;cases hk
theorem Ck{M:cZ}{P:Program}{co:Nat→Bool}{draw:Bool}{ops:Array Oper}{ins:List cj}{em:List Tmp}{oX:List (Nat×cP)}{chk:List (Nat×Nat)}{nt:Nat}(h:zO M P co draw ops.toList ins em oX chk nt=true) :
  uE M P co ops ins em (Ca em ops.toList [] 0) (if draw then mv (jw ops.toList []) else C9) chk (AY co draw ops.toList ins em (Ca em ops.toList [] 0) (if draw then mv (jw ops.toList []) else C9) chk (vG co ins chk (Ca em ops.toList [] 0))) nt∧tv ops.toList em (Ca em ops.toList [] 0) oX=true∧(draw=true→QZ ops (mv (jw ops.toList [])))∧(draw=false→chk=[]):=by
 unfold zO at h;dsimp only at h;simp only[aq,aP]at h;obtain⟨⟨⟨⟨⟨⟨⟨⟨h1,h2⟩,h3⟩,h4⟩,h5⟩,h6⟩,h7⟩,h8⟩,h9⟩:=h;generalize hits:Ca em ops.toList [] 0=its at *;obtain⟨n1,n2,n3,n4⟩:=BH h4;have hge:∀(i:Nat) (o:Oper),ops[i]?=some o→ops.toList[i]?=some o:=fun i o ho=>by simpa using ho
 have h5':draw=true→rI (fun i x=>decide (x<2^i)) 0 (jw ops.toList [])=true∧(jw ops.toList []).length=ops.size∧rI (fun i o=>Ad (jw ops.toList []) o==(jw ops.toList []).getD i 0&&o.after.toList.all fun e=>!Region.binds .any e ||decide (e.on<i)) 0 ops.toList=true:=fun hd=>by
  subst hd;simp only[nU,jW,aq,aP]at h5;exact⟨h5.1.1,by simpa using h5.1.2,h5.2⟩
 have low:∀i k,((if draw then mv (jw ops.toList []) else C9) i).testBit k=true→k<i:=fun i k hk=>by
  cases draw with
  |false=>
   have hk':(2^i-1).testBit k=true:=hk;rw[dX]at hk';simpa using hk'
  |true=>
   have hk':((jw ops.toList []).getD i 0).testBit k=true:=hk;obtain⟨a1,a2,_⟩:=h5' rfl;by_cases hi:i<(jw ops.toList []).length
   ·have:=oH a1 i ((jw ops.toList [])[i]) (by simp);simp only[bS,aL]at this;rw[au,am hi]at hk';exact Nv this hk'
   rw[au,dC (by omega)]at hk';simp at hk'
 refine⟨⟨by rw[h1];simp,fun i o d ho hd=>?_,fun i k oi ok d hi hk hdi hdk=>?_,low,fun k i n m hk hi hlt=>n3 k i n m hk hi hlt,fun n hn=>?_,fun k n hk=>(n2 k n hk).2,fun i o ho=>?_,fun d hd=>?_,fun n j I hm hI=>?_⟩,h7,fun hd=>?_,fun hd=>?_⟩
 ·have:=aG.1 h2 o (by rw[dt];exact⟨i,hge i o ho⟩);rw[hd]at this;simpa using this
 ·have hnd:=uB h3;have hp:=List.pairwise_filterMap.1 hnd;have hp':=ia.1 hp;have key:∀(i k:Nat) (oi ok:Oper),ops[i]?=some oi→ops[k]?=some ok→oi.dst=some d→ok.dst=some d→¬i<k:=fun i k oi ok hi hk hdi hdk hlt=>by
   obtain⟨i1,i2⟩:=al.1 (hge i oi hi);obtain⟨k1,k2⟩:=al.1 (hge k ok hk);have:=hp' i k i1 k1 hlt d (by rw[i2];exact hdi) d (by rw[k2];exact hdk);exact this rfl
  have a:=key i k oi ok hi hk hdi hdk;have b:=key k i ok oi hk hi hdk hdi;omega
 ·obtain⟨k,k1,k2⟩:=n4 n (bP _) hn;exact⟨k,k1,by rw[h1]at k2;simpa using k2⟩
 ·have hit:=oH h6 i o (hge i o ho);simp only[bS]at hit;unfold Un at hit;split at hit
  ·rename_i hn;exact .inl ⟨hn,hit⟩
  rename_i n hn;split at hit
  ·cases hit
  rename_i I hI;simp only[aq,cK,cN]at hit;obtain⟨⟨⟨i1,i2⟩,i3⟩,i4⟩:=hit;refine .inr ⟨n,I,hn,hI,sJ i3,i1,i2,?_,?_⟩
  ·intro hnw hlate k m hk hm hw;cases draw with
   |false=>
    show (2^i-1).testBit k=true;rw[dX];simpa using hk
   |true=>
    have i5:zP co ins chk (vG co ins chk its) (mv (jw ops.toList [])) (AY co true ops.toList ins em its (mv (jw ops.toList [])) chk (vG co ins chk its)) i n I=true:=by simpa using i4
    unfold zP at i5;rw[if_pos hnw]at i5;simp only[cK,aP]at i5;have:=aG.1 (i5.resolve_left hlate) (k,m) (zr hm hw);simp only[cK,aL]at this;rcases this with h|h
    ·omega
    exact h
  intro hnw;cases draw with
  |false=>
   right;refine⟨?_,fun k m hk hw=>?_⟩
   ·by_cases hex:∃k m,eA its k=some m∧jI co ins chk m=true∧m<n
    ·obtain⟨k,m,e1,e2,e3⟩:=hex;refine .inl ⟨k,m,e1,e2,?_⟩;have hlt:k<i:=by
      rcases eY k i with h|h|h
      ·exact h
      ·subst h;rw[e1]at hn;cases hn;omega
      have:=n3 i k n m hn e1 h;omega
     show (2^i-1).testBit k=true;rw[dX];simpa using hlt
    exact .inr (.inl fun k m e1 e2 e3=>hex ⟨k,m,e1,e2,e3⟩)
   rcases eY k i with h|h|h
   ·
    have hmn:=n3 k i m n hk hn h;by_cases hex:∃k' m',eA its k'=some m'∧jI co ins chk m'=true∧m<m'∧m' < n
    ·obtain⟨k',m',e1,e2,e3,e4⟩:=hex;refine .inr (.inl ⟨k',m',e1,e2,e3,?_⟩);have hlt:k' < i:=by
      rcases eY k' i with h|h|h
      ·exact h
      ·subst h;rw[e1]at hn;cases hn;omega
      have:=n3 i k' n m' hn e1 h;omega
     show (2^i-1).testBit k'=true;rw[dX];simpa using hlt
    exact .inr (.inr (.inl ⟨hmn,fun k' m' e1 e2 e3 e4=>hex ⟨k',m',e1,e2,e3,e4⟩⟩))
   ·subst h;rw[hk]at hn;cases hn;rw[hw]at hnw;cases hnw
   left;show (2^k-1).testBit i=true;rw[dX];simpa using h
  |true=>
   have i5:zP co ins chk (vG co ins chk its) (mv (jw ops.toList [])) (AY co true ops.toList ins em its (mv (jw ops.toList [])) chk (vG co ins chk its)) i n I=true:=by simpa using i4
   unfold zP at i5;rw[if_neg (by rw[hnw];simp)]at i5;simp only[cK,aq,aP]at i5;rcases i5 with h|⟨ha,hb⟩
   ·exact .inl h
   right;refine⟨?_,fun k m hk hw=>?_⟩
   ·rcases ha with (ha|ha)|ha
    ·obtain⟨km,b1,b2⟩:=d4.1 ha;obtain⟨c1,c2⟩:=Vw b1;exact .inl ⟨km.1,km.2,c1,c2,b2⟩
    ·refine .inr (.inl fun k m e1 e2 e3=>?_);have:=aG.1 ha (k,m) (zr e1 e2);simp only[aL]at this;omega
    exact .inr (.inr (gQ.1 ha))
   have:=aG.1 hb (k,m) (zr hk hw);simp only[cK,aq,aL]at this;rcases this with ((h|h)|h)|h
   ·exact .inl h
   ·obtain⟨km,b1,b2⟩:=d4.1 h;simp only[aq,aL]at b2;obtain⟨c1,c2⟩:=Vw b1;exact .inr (.inl ⟨km.1,km.2,c1,c2,b2.1,b2.2⟩)
   ·refine .inr (.inr (.inl ⟨h.1,fun k' m' e1 e2 e3 e4=>?_⟩));have:=aG.1 h.2 (k',m') (zr e1 e2);simp only[cK,aL]at this;omega
   exact .inr (.inr (.inr (gQ.1 h)))
 ·
  cases draw with
  |false=>simp[AY]at hd
  |true=>
   simp only[AY,cW]at hd;have hb:=List.find?_some hd;unfold abc at hb;split at hb
   ·cases hb
   rename_i o ho;have ho':ops[d]?=some o:=by simpa using ho
   simp only[aq,hY,aP]at hb;obtain⟨⟨⟨b1,b2⟩,b3⟩,b4⟩:=hb;refine⟨b3,?_⟩;split at b4
   ·rename_i t n ht hn;simp only[aq]at b4;obtain⟨⟨⟨c1,c2⟩,c3⟩,c4⟩:=b4;split at b1
    ·rename_i T hT;have hbox:∃kk z,ins[n]?=some ⟨.box kk (.val z),none⟩:=by
      unfold adt at c2;split at c2
      ·rename_i kk z hk;exact⟨kk,z,hk⟩
      cases c2
     obtain⟨kk,z,hk⟩:=hbox;have hlen:(jw ops.toList []).length=ops.size:=(h5' rfl).2.1;refine⟨o,T,t,n,kk,z,ho',hT,b2,ht,hn,hk,c1,fun j hj k m hkm hm hlt=>?_,fun j hjs hjd hne=>?_⟩
     ·have hjl:j<ops.size:=by
       rcases Nat.lt_or_ge j ops.size with h|h
       ·exact h
       have hj':((jw ops.toList []).getD j 0).testBit d=true:=hj;rw[au,dC (by omega)]at hj';simp at hj'
      have:=aG.1 c3 j (gh.2 (by simpa using hjl));have hj':(mv (jw ops.toList []) j).testBit d=true:=hj;simp only[hj',nU,jW]at this;have:=aG.1 this (k,m) (zr hkm hm);simp only[cK,aL]at this;rcases this with h|h
      ·omega
      exact h
     have:=aG.1 c4 j (gh.2 (by simpa using hjs));simp only[cK,aP,hY]at this;rcases this with (h|h)|h
     ·exact absurd h hjd
     ·exact absurd h hne
     exact h
    cases b1
   cases b4
 ·have:=aG.1 h9 (n,j) hm;simp only[hI]at this;simpa using this
 ·obtain⟨_,a2,a3⟩:=h5' hd;refine⟨fun i o ho e he hb=>?_,fun i o ho k hk=>?_⟩
  ·have:=oH a3 i o (hge i o ho);simp only[bS,aq]at this;have:=aG.1 this.2 e (by simpa using he);simpa [hb] using this
  have:=oH a3 i o (hge i o ho);simp only[bS,aq,aP]at this;have hk':((jw ops.toList []).getD i 0).testBit k=true:=hk;rw[←this.1]at hk';exact KF hk'
 subst hd;simpa using h8
end Go.AM
namespace Go.AM
def U4:Go.Code→List Go.Code
 |.seq a b=>[a,b]
 |.cond _ a b=>[a,b]
 |.block _ a=>[a]
 |.loop a=>[a]
 |.scope a=>[a]
 |.rangeFunc _ _ a b=>[a,b]
 |_=>[]
def qN:List Nat→Go.Code→Option Go.Code
 |[],c=>some c
 |i::r,c=>((U4 c)[i]?).bind (qN r)
theorem B7{i:Nat}:∀{p:List Nat} {c:Go.Code},qN (p++[i]) c=(qN p c).bind fun d=>(U4 d)[i]?
 |[],c=>by
  simp only[b9,qN,bM];cases (U4 c)[i]?<;>rfl
 |j::p,c=>by
  simp only[cM,qN];cases (U4 c)[j]? with
  |none=>rfl
  |some d=>exact B7
def rA:az→az
 |.lift _ _ _ x=>rA x
 |x=>x
structure pU where
 f:Nat
 path:List Nat
 em:List Tmp
def cZ.of(P:Program)(fm:Nat→FuncId)(glob:Nat→Option ap)(sites:Nat→Option pU):cZ where
 fm:=fm
 glob:=glob
 site:=fun s rec em=>∃d fn code g,sites s=some d∧P.funcs[fm d.f]?=some fn∧fn.body=some code∧qN d.path code=some (.rangeFunc g rec.params rec.assign rec.body)∧em=d.em∧fn.ntmps≤rec.tmps.size
section
variable (M:cZ) (P:Program) (co:Nat→Bool) (em:List Tmp) (nt:Nat) (top:Bool) (siteB:Nat→List Nat→Bool)
def ee:Go.Code→List Nat→az→Bool
 |.region _ ops draw,_,x=>(match x with
  |.reg ins os=>zO M P co draw ops.toList ins em os [] nt
  |.regd ins os chk=>draw&&zO M P co draw ops.toList ins em os chk nt
  |_=>false)
 |.seq a b,path,x=>if BJ b then ee a (path++[0]) (rA x) else if BJ a then ee b (path++[1]) (rA x) else (match x with
  |.seq y z=>ee a (path++[0]) (rA y)&&ee b (path++[1]) (rA z)
  |_=>false)
 |.cond t a b,path,x=>(match x with
  |.cond t' y z=>lM M (u7 em) t t'&&ee a (path++[0]) (rA y)&&ee b (path++[1]) (rA z)
  |_=>false)
 |.block id a,path,x=>(match x with
  |.blk id' y=>id==id'&&ee a (path++[0]) (rA y)
  |_=>false)
 |.loop a,path,x=>(match x with
  |.loop _ y=>ee a (path++[0]) (rA y)
  |_=>false)
 |.scope a,path,x=>(match x with
  |.scope y=>ee a (path++[0]) (rA y)
  |_=>false)
 |.rangeFunc g _ _ _,path,x=>(match x with
  |.rng n f site=>top&&lM M (u7 em) g f&&AK em&&em.all (fun t=>decide (t<nt))&&n==em.length&&siteB site path
  |_=>false)
 |.exit id,_,x=>(match x with
  |.exit id'=>id==id'
  |_=>false)
 |.ret,_,x=>(match x with
  |.ret=>true
  |_=>false)
 |c,_,x=>(match x with
  |.skip=>BJ c
  |_=>false)
end
theorem jT{M:cZ}{P:Program}{co:Nat→Bool}{em:List Tmp}{nt:Nat}{top:Bool}{c:Go.Code}:∀{x:az},fK M P co em nt top c (rA x)→fK M P co em nt top c x
 |.lift _ _ _ x,h=>.lift (jT (x:=x) h)
 |.skip,h=>h
 |.reg ..,h=>h
 |.regd ..,h=>h
 |.seq ..,h=>h
 |.cond ..,h=>h
 |.blk ..,h=>h
 |.loop ..,h=>h
 |.exit _,h=>h
 |.ret,h=>h
 |.rng ..,h=>h
 |.scope _,h=>h
theorem tG{M:cZ}{P:Program}{co:Nat→Bool}{em:List Tmp}{nt:Nat}{top:Bool}{siteB:Nat→List Nat→Bool}{root:Go.Code}
  (hsite:∀site path g ps assign body,siteB site path=true→qN path root=some (.rangeFunc g ps assign body)→∀fn tmps defers,nt≤tmps.size→M.site site ⟨fn,tmps,ps,assign,body,defers⟩ em) :
  ∀(c:Go.Code) (path:List Nat) (x:az),qN path root=some c→ee M P co em nt top siteB c path x=true→fK M P co em nt top c x:=by
 have kid:∀{path:List Nat} {c d:Go.Code} {i:Nat},qN path root=some c→(U4 c)[i]?=some d→qN (path++[i]) root=some d:=fun h1 h2=>by
  rw[B7,h1];exact h2
 intro c;induction c with
 |region id ops draw=>
  intro path x hp h;simp only[ee]at h;split at h
  ·obtain⟨h1,h2,h3,h4⟩:=Ck h;cases draw with
   |false=>exact .text h1 h2
   |true=>exact .any h1 (h3 rfl) h2
  ·simp only[aq]at h;obtain⟨hd,h⟩:=h;subst hd;obtain⟨h1,h2,h3,h4⟩:=Ck h;exact .anyd h1 (h3 rfl) h2
  cases h
 |seq a b iha ihb=>
  intro path x hp h;simp only[ee]at h;split at h
  ·rename_i hn;exact .left hn (jT (iha _ _ (kid hp rfl) h))
  split at h
  ·rename_i hn;exact .right hn (jT (ihb _ _ (kid hp rfl) h))
  split at h
  ·simp only[aq]at h;exact .seq (jT (iha _ _ (kid hp rfl) h.1)) (jT (ihb _ _ (kid hp rfl) h.2))
  cases h
 |cond t a b iha ihb=>
  intro path x hp h;simp only[ee]at h;split at h
  ·simp only[aq]at h;exact .cond h.1.1 (jT (iha _ _ (kid hp rfl) h.1.2)) (jT (ihb _ _ (kid hp rfl) h.2))
  cases h
 |block id a ih=>
  intro path x hp h;simp only[ee]at h;split at h
  ·simp only[aq,aP]at h;rw[h.1];exact .blk (jT (ih _ _ (kid hp rfl) h.2))
  cases h
 |loop a ih=>
  intro path x hp h;simp only[ee]at h;split at h
  ·exact .loop (jT (ih _ _ (kid hp rfl) h))
  cases h
 |scope a ih=>
  intro path x hp h;simp only[ee]at h;split at h
  ·exact .scope (jT (ih _ _ (kid hp rfl) h))
  cases h
 |rangeFunc g ps assign body=>
  intro path x hp h;simp only[ee]at h;split at h
  ·simp only[aq,aP]at h;obtain⟨⟨⟨⟨⟨h1,h2⟩,h3⟩,h4⟩,h5⟩,h6⟩:=h;exact .rng h1 h2 (uB h3) (fun t ht=>by simpa using aG.1 h4 t ht) h5 (hsite _ _ _ _ _ _ h6 hp)
  cases h
 |exit id=>
  intro path x hp h;simp only[ee]at h;split at h
  ·rw[aP]at h;rw[h];exact .exit
  cases h
 |ret=>
  intro path x hp h;simp only[ee]at h;split at h
  ·exact .ret
  cases h
 |skip=>
  intro path x hp h;simp only[ee]at h;split at h
  ·exact .nop h
  cases h
 |_=>
  intro path x hp h;simp only[ee]at h;split at h
  ·exact .nop h
  cases h
def tA:List Nat→List Nat→Bool
 |[],[]=>true
 |a::x,b::y=>a==b&&tA x y
 |_,_=>false
theorem sZ:∀{a b:List Nat},tA a b=true→a=b
 |[],[],_=>rfl
 |[],_::_,h=>by simp[tA]at h
 |_::_,[],h=>by simp[tA]at h
 |a::x,b::y,h=>by
  simp only[tA,aq,aP]at h;rw[h.1,sZ h.2]
def Wu(sites:Nat→Option pU)(f:Nat)(em:List Tmp)(s:Nat)(path:List Nat):Bool:=match sites s with
 |some d=>d.f==f&&tA d.path path&&tA d.em em
 |none=>false
section
variable (P:Program) (fm:Nat→FuncId) (glob:Nat→Option ap) (sites:Nat→Option pU) (co:Nat→Bool)
def CI(f:Nat)(em:List Tmp)(g:aS):Bool:=match P.funcs[fm f]? with
 | some fn=>!(fn.name == "runtime.NumGoroutine")&&(match fn.body with
  |some code=>ee (cZ.of P fm glob sites) P co em fn.ntmps true (Wu sites f em) code [] (rA g.body)
  |none=>false)&&tA (em.take g.np) (List.range g.np)&&decide (g.np≤em.length)&&g.res.length==fn.results.toList.length&&((g.res.zip fn.results.toList).all fun p=>HB P em p.1 p.2)&&g.mode.ok
 |none=>false
def BE(s:Nat)(g:re):Bool:=match sites s with
 |some d=>(match P.funcs[fm d.f]? with
  |some fn=>(match fn.body with
   |some code=>(match qN d.path code with
    |some (.rangeFunc _ ps assign body)=>g.nenv==d.em.length&&ee (cZ.of P fm glob sites) P co d.em fn.ntmps false (fun _ _=>false) assign [] (rA g.pre)&&tA (g.params.map fun i=>d.em.getD i 0) ps.toList&&(g.params.all fun i=>decide (i<d.em.length))&&AK d.em &&
      ee (cZ.of P fm glob sites) P co d.em fn.ntmps false (fun _ _=>false) body [] (rA g.body)
    |_=>false)
   |none=>false)
  |none=>false)
 |none=>false
end
theorem Fl{P:Program}{fm:Nat→FuncId}{glob:Nat→Option ap}{sites:Nat→Option pU}{co:Nat→Bool}{f:Nat}{em:List Tmp}{g:aS}(h:CI P fm glob sites co f em g=true) :
  Zn (cZ.of P fm glob sites) P co f g:=by
 unfold CI at h;split at h
 ·rename_i fn hfn;simp only[aq,cN,aP,aL]at h;obtain⟨⟨⟨⟨⟨⟨h1,h2⟩,h3⟩,h4⟩,h5⟩,h6⟩,h7⟩:=h;split at h2
  ·rename_i code hc;refine⟨fn,code,em,hfn,h1,hc,?_,sZ h3,h4,h5,h6,h7⟩;refine jT (tG (root:=code) (fun site path g ps assign body hs hp fn' tmps defers hsz=>?_) code [] _ rfl h2);unfold Wu at hs;split at hs
   ·rename_i d hd;simp only[aq,aP]at hs;obtain⟨⟨s1,s2⟩,s3⟩:=hs;refine⟨d,fn,code,g,hd,by rw[s1];exact hfn,hc,by rw[sZ s2];exact hp,(sZ s3).symm,hsz⟩
   cases hs
  cases h2
 cases h
theorem JI{P:Program}{fm:Nat→FuncId}{glob:Nat→Option ap}{sites:Nat→Option pU}{co:Nat→Bool}{s:Nat}{g:re}(h:BE P fm glob sites co s g=true){rec:ki}{em:List Tmp}(hs:(cZ.of P fm glob sites).site s rec em) :
  yU (cZ.of P fm glob sites) P co g rec em:=by
 obtain⟨d,fn,code,q,h1,h2,h3,h4,rfl,h6⟩:=hs;unfold BE at h;rw[h1]at h;simp only[h2,h3,h4,aq,aP]at h;obtain⟨⟨⟨⟨⟨k1,k2⟩,k3⟩,k4⟩,k5⟩,k6⟩:=h;refine⟨fn.ntmps,k1,h6,jT (tG (root:=rec.assign) (fun site path g ps assign body hs=>by cases hs) _ [] _ rfl k2),?_,uB k5,?_⟩
 ·rw[←sZ k3,cE];refine bx fun i hi=>?_;have hlt:i<d.em.length:=by simpa using aG.1 k4 i hi
  simp[hlt]
 exact jT (tG (root:=rec.body) (fun site path g ps assign body hs=>by cases hs) _ [] _ rfl k6)
end Go.AM
namespace Go.AM
def ZU(P:Program)(fm:Nat→FuncId)(glob:Nat→Option ap)(sites:Nat→Option pU)(co:Nat→Bool)(em:Nat→List Tmp)(n:Nat):jR→Bool
 |.fn g=>CI P fm glob sites co n (em n) g
 |.nilfn g=>CI P fm glob sites co n (em n) g
 |.round g=>BE P fm glob sites co n g
 |_=>true
def Xe(f:Nat→jR→Bool):Nat→List jR→Prop
 |_,[]=>True
 |i,x::r=>f i x=true∧Xe f (i+1) r
theorem yR{f:Nat→jR→Bool}:∀{l:List jR} {i:Nat},Xe f i l→∀j x,l[j]?=some x→f (i+j) x=true
 |[],_,_,j,x,h=>by simp at h
 |y::r,i,h,j,x,hx=>by
  cases j with
  |zero=>simp only[iK,aJ]at hx;subst hx;exact h.1
  |succ j=>
   have:=yR h.2 j x (by simpa using hx)
   rwa [show i+1+j=i+(j+1) by omega]at this
theorem getD_some{l:List jR}{n:Nat}{e:jR}(h:l.getD n .none=e)(he:e≠.none):l[n]?=some e:=by
 rw[au]at h;cases hq:l[n]? with
 |none=>rw[hq]at h;exact absurd h.symm he
 |some x=>rw[hq]at h;simp at h;rw[h]
def tZ(tbl:List jR)(n:Nat):Bool:=match tbl.getD n .none with
 |.fn g=>g.mode.lends
 |.nilfn g=>g.mode.lends
 |.prim k=>k==0 ||k==3
 |_=>false
def xE(tbl:List jR):Code:=⟨fun n=>tbl.getD n .none,prims⟩
theorem MX{args:List ap}{σ σ':ay}{v:ap}(h:Fa args σ=some (v,σ')):σ'=σ:=by
 unfold Fa at h;split at h
 ·split at h
  ·cases h;rfl
  cases h
 cases h
theorem Cq{args:List ap}{σ σ':ay}{v:ap}(h:ol args σ=some (v,σ')):σ'=σ:=by
 unfold ol at h;split at h
 ·cases h;rfl
 cases h
theorem Za{P:Program}{fm:Nat→FuncId}{glob:Nat→Option ap}{sites:Nat→Option pU}{em:Nat→List Tmp}{tbl:List jR}(hm:P.follows .mixedOrders=true)
  (hall:Xe (ZU P fm glob sites (tZ tbl) em) 0 tbl) (hs:∀s d,sites s=some d→∃g,tbl.getD s .none=.round g)
  (hp:∀f k,tbl.getD f .none=.prim k→yu (cZ.of P fm glob sites) P f (prims k)):vF (cZ.of P fm glob sites) P (tZ tbl) (xE tbl) where
 mixed:=hm
 fns:=fun f g h=>by
  have:=yR hall f _ (getD_some h (by simp));rw[bS]at this;exact Fl this
 nilfns:=fun f g h=>by
  have:=yR hall f _ (getD_some h (by simp));rw[bS]at this;exact Fl this
 prims:=hp
 sites:=fun s rec em' h=>by
  have h0:=h;obtain⟨d,_,_,_,hd,_⟩:=h0;obtain⟨g,hg⟩:=hs s d hd;refine⟨g,hg,?_⟩;have:=yR hall s _ (getD_some hg (by simp));rw[bS]at this;exact JI this h
 keeps:=fun f h=>by
  unfold tZ at h;split at h
  ·rename_i g hg;exact .inl ⟨g,.inl hg,h⟩
  ·rename_i g hg;exact .inl ⟨g,.inr hg,h⟩
  ·rename_i k hk;refine .inr ⟨k,hk,fun C args σ v σ' hr=>?_⟩;simp only[cK,aP]at h;rcases h with rfl|rfl
   ·exact MX hr
   exact Cq hr
  cases h
def cX.start(w:World)(gs:Nat→Prop)(lp:ki):cX:={ sld:=fun b=>gs b∧b<w.heap.size,bor:=fun b=>b<w.heap.size,H:=hd [],N:=0,place:=fun _=>none,room:=fun _=>0,loops:=fun _=>lp }
theorem Ty{M:cZ}{w:World}{gs:Nat→Prop}{lp:ki}:ei M w (cX.start w gs lp) []:=
 ⟨rfl,rfl,fun _ h=>h.2,fun _ h=>h,fun id b h=>absurd (by rfl) h,fun i j b h=>absurd (by rfl) h,fun id o h=>by cases h⟩
theorem To{P:Program}{fm:Nat→FuncId}{glob:Nat→Option ap}{sites:Nat→Option pU}{tbl:List jR}(hc:vF (cZ.of P fm glob sites) P (tZ tbl) (xE tbl)){n f:Nat}{args:List ap}{v:ap}{σ':ay}
  (hrun:dl (xE tbl) n f args []=some (v,σ')) (hf:∃a∈args,js a=false) {w:World} {gs:Nat→Prop} {lp:ki} {cargs:Array Value} (hg:iW (cZ.of P fm glob sites) w (cX.start w gs lp)) (ha:iX (cZ.of P fm glob sites) w (cX.start w gs lp) args cargs) :
  Calls P (fm f) cargs w fun e w'=>∃cv c',e=.returned cv∧RF (cZ.of P fm glob sites) w.heap.size w' c' v cv∧Same w w'∧w.heap.size≤w'.heap.size∧∀b,b<w.heap.size→w'.heap[b]?=w.heap[b]?:=by
 have h:=(B3 hc n).1 f args [] v σ' hrun Fence.wide 0 w _ cargs wT Ty hg ha;have he:=h.2 hf cargs w;rcases h.1 with⟨_,hin⟩|⟨cv,w',hv,_⟩
 ·rw[uw wT]at hin;refine hin.mono fun e w' hx=>?_;obtain⟨cv,rfl,c',s',st,hr⟩:=hx;exact⟨cv,c',rfl,hr,st.same,st.size,fun b hb=>st.frame b hb fun id hl=>absurd (by rfl) hl⟩
 rw[show (cZ.of P fm glob sites).fm f=fm f from rfl]at he hv;rw[he]at hv;cases hv
end Go.AM
namespace Go.AM
abbrev ar(n:Int):ap:=.int .i64 n
abbrev ani(n:Int):Int:=IntKind.i64.wrap n
abbrev anf(n:Int):Int:=IntKind.u64.wrap n
end Go.AM
namespace Go.AM.P
abbrev e:=cP.env
abbrev l:=cP.loc
abbrev v:=cP.val
abbrev i(o:Ee):cj:=⟨o,none⟩
abbrev g(x:cP)(b:Bool)(o:Ee):cj:=⟨o,some (x,b)⟩
end Go.AM.P
namespace Go.AM.P
abbrev E0:=e 0
abbrev E1:=e 1
abbrev E2:=e 2
abbrev E3:=e 3
abbrev E4:=e 4
abbrev E5:=e 5
abbrev E6:=e 6
abbrev E7:=e 7
abbrev E8:=e 8
abbrev E9:=e 9
abbrev lJ:=e 10
abbrev rq:=e 11
abbrev sO:=e 12
abbrev A3:=e 13
abbrev va:=e 14
abbrev CE:=e 15
abbrev Ek:=e 16
abbrev Gi:=e 17
abbrev TW:=e 18
abbrev BP:=e 19
abbrev Rs:=e 20
abbrev OG:=e 21
abbrev E22:=e 22
abbrev T1:=e 23
abbrev E24:=e 24
abbrev E25:=e 25
abbrev E26:=e 26
abbrev E27:=e 27
abbrev E28:=e 28
abbrev E29:=e 29
abbrev E30:=e 30
abbrev L0:=l 0
abbrev L1:=l 1
abbrev L2:=l 2
abbrev L3:=l 3
abbrev L4:=l 4
abbrev L5:=l 5
abbrev L6:=l 6
abbrev L7:=l 7
abbrev L8:=l 8
abbrev L9:=l 9
abbrev o7:=l 10
abbrev mR:=l 11
abbrev xh:=l 12
abbrev mY:=l 13
abbrev yy:=l 14
abbrev uU:=l 15
abbrev ws:=l 16
abbrev wY:=l 17
abbrev Nt:=l 18
abbrev Kv:=l 19
abbrev Rq:=l 20
abbrev AZ:=l 21
abbrev QV:=l 22
abbrev ZO:=l 23
abbrev L24:=l 24
abbrev L25:=l 25
abbrev L26:=l 26
abbrev ZS:=l 27
abbrev L28:=l 28
abbrev L29:=l 29
abbrev L30:=l 30
abbrev L31:=l 31
abbrev L32:=l 32
abbrev L33:=l 33
abbrev L34:=l 34
abbrev L35:=l 35
abbrev L36:=l 36
abbrev L37:=l 37
abbrev L38:=l 38
abbrev L39:=l 39
abbrev L40:=l 40
abbrev L41:=l 41
abbrev V0:=v (.int .i64 0)
abbrev V1:=v (.int .i64 1)
abbrev Vt:=v (.bool true)
abbrev Vf:=v (.bool false)
abbrev Vn:=v .aj
abbrev ld (x:cP):Ee:=.load false 1 x
abbrev lt (x:cP):Ee:=.load true 1 x
abbrev n0:ap:=.int .i64 0
abbrev nf:ap:=.bool false
end Go.AM.P
