/- Part of the proof. -/
import Derived.Test.YtchifcbclnonbaaGreatDoorAm05
import Derived.Lib.LaidCase
import Derived.KernelRfl
import Derived.Lib.Case
import Derived.Lib.MapU
import Derived.Lib.Bytealg
import Derived.Shelf.SlSortCmp.Kit1
import Derived.Shelf.Sort.Plain
import Derived.Shelf.Strings.CaseAny
import Derived.Laws.Externs
import Derived.Shelf.Strings.OnBuilder
import Derived.Shelf.Slices.In.SortNone
import Derived.Lib.Strings
import Derived.Lib.Walk
import Derived.Lib.ConvBytes
import Derived.Lib.Hide
import Derived.Laws.Strings3
import Derived.Laws.Closers25
import Derived.Laws.Closers25b
import Derived.WalkKit
import Derived.BigCall
import Derived.BigGuard
import Derived.Test.YtchifcbclnonbaaGreatDoorProg
import Derived.Shelf.Abstract
import Derived.Shelf.Strings.RuneCount
import Derived.Shelf.RegionOpenPlain
import Derived.Lib.AtoiErrMem
set_option linter.unusedVariables false
set_option linter.unusedSimpArgs false
set_option linter.unusedSectionVars false
namespace Go.AM
variable {M:cO} {P:Program} {w:World} {c:cJ}
def G9(P:Program)(em:List Tmp):K0→ResultVar→Bool
 |.env i,.tmp t=>em.idxOf? t==some i
 |.cell a n i,.cell t T=>em.idxOf? t==some i&&rr P T a n
 |_,_=>false
def Jb(tmps:Array Value):ResultVar→Sem Value
 |.tmp t=>pure (tmps.getD t undef)
 |.cell a t=>do loadVar t (←asAddr (tmps.getD a undef))
theorem NI{T:TypeId}{cp cv:Value}(h:(Instr.loadAt T cp).run P w=.ok cv w):(do loadVar T (←asAddr cp):Sem Value).run P w=.ok cv w:=by
 unfold Instr.loadAt at h;cases cp with
 |pointer a=>
  cases a with
  |some a=>exact h
  |none=>simp[Instr.sureAddr,stuck]at h
 |_=>simp[Instr.sureAddr,stuck]at h
theorem WB{s:St}{em:List Tmp}{tmps:Array Value}(hs:ek M w c s.st)(ht:lc M w c s.env [] (t7 em) tmps){r:K0}{q:ResultVar}(hok:G9 P em r q=true){v:ap}(h:Kj s r=some v) :
  ∃cv,(Jb tmps q).run P w=.ok cv w∧R M w c v cv:=by
 unfold G9 at hok;split at hok
 ·rename_i i t;simp only[Kj,az]at h;subst h;refine⟨_,rfl,?_⟩;exact ht t (.env i) (by unfold t7;rw[show em.idxOf? t=some i by simpa using hok];rfl)
 ·rename_i a n i t T;simp only[am,aG]at hok;have hr:=ht t (.env i) (by unfold t7;rw[hok.1];rfl);obtain⟨cv,h1,h2⟩:=VE (P:=P) hs hr hok.2 h;exact⟨cv,NI h1,h2⟩
 cases hok
theorem UF{s:St}{em:List Tmp}{tmps:Array Value}(hs:ek M w c s.st)(ht:lc M w c s.env [] (t7 em) tmps):∀{l:List K0} {qs:List ResultVar} {vs:List ap},l.length=qs.length→((l.zip qs).all fun p=>G9 P em p.1 p.2)=true→wZ s l=some vs →
  ∃cvs:List Value,(qs.mapM (Jb tmps)).run P w=.ok cvs w∧cvs.length=vs.length∧∀i (h:i<vs.length) (h':i<cvs.length),R M w c vs[i] cvs[i]
 |[],[],vs,_,_,h=>by
  simp only[wZ,az]at h;subst h;exact⟨[],by simp,rfl,fun i h=>absurd h (by simp)⟩
 |[],_::_,_,h,_,_=>by simp at h
 |_::_,[],_,h,_,_=>by simp at h
 |r::l,q::qs,vs,hl,hok,h=>by
  simp only[gu,eU,am]at hok;simp only[wZ]at h;obtain⟨v,h1,h⟩:=bv h;obtain⟨vs',h2,rfl⟩:=aX h;obtain⟨cv,c1,c2⟩:=WB (P:=P) hs ht hok.1 h1;obtain⟨cvs,d1,d2,d3⟩:=UF hs ht (by simpa using hl) hok.2 h2;refine⟨cv::cvs,?_,by simp[d2],fun i hi hi'=>?_⟩
  ·rw[List.mapM_cons];simp[c1,d1]
  cases i with
  |zero=>exact c2
  |succ i=>exact d3 i (by simpa using hi) (by simpa using hi')
theorem Sf{s:St}{em:List Tmp}{tmps:Array Value}(hs:ek M w c s.st)(ht:lc M w c s.env [] (t7 em) tmps){fn:Func}{l:List K0}(hl:l.length=fn.results.toList.length)(hok:((l.zip fn.results.toList).all fun p=>G9 P em p.1 p.2)=true){v:ap}(h:results s l=some v) :
  ∃cv,(Go.results fn tmps).run P w=.ok cv w∧R M w c v cv:=by
 unfold results at h;obtain⟨vs,h1,h2⟩:=aX h;obtain⟨cvs,d1,d2,d3⟩:=UF (P:=P) hs ht hl hok h1;have hm:(fn.results.mapM (Jb tmps)).run P w=.ok cvs.toArray w:=by
  rw[Array.mapM_eq_mapM_toList];simp[d1]
 have hres:(Go.results fn tmps).run P w=.ok (if h:cvs.toArray.size=1 then cvs.toArray[0] else .tuple cvs.toArray) w:=by
  have e:Go.results fn tmps=(do let vs ←fn.results.mapM (Jb tmps);pure (if h:vs.size=1 then vs[0] else .tuple vs):Sem Value):=by
   unfold Go.results;congr 1
  rw[e];simp only[Sem.run_bind,hm,Result.andThen_ok];rfl
 refine⟨_,hres,?_⟩;cases vs with
 |nil=>
  have:cvs=[]:=bM (by simpa using d2);subst this;subst h2;exact .tup (fun _=>undef) rfl (fun i h=>absurd h (by simp)) (fun i h=>absurd h (by simp))
 |cons x vs=>
  cases vs with
  |nil=>
   subst h2;obtain⟨y,rfl⟩:=List.length_eq_one_iff.1 (show cvs.length=1 by simpa using d2);exact d3 0 (by simp) (by simp)
  |cons x2 vs=>
   subst h2;have hne:¬(cvs.toArray.size=1):=by simp at d2 ⊢;omega
   rw[dif_neg hne];refine .tup (fun i=>cvs.getD i undef) (by simpa using d2) (fun i hi=>?_) (fun i hi=>?_)
   ·have hi':i<cvs.length:=by omega
    simp[hi']
   have hi':i<cvs.length:=by omega
   have:=d3 i hi hi';simpa [hi'] using this
end Go.AM
namespace Go.AM
variable {M:cO} {P:Program} {w w':World} {c c1:cJ} {σ τ:aw}
def cJ.with(c d:cJ):cJ:={ c with sld:=fun b=>c.sld b∨d.sld b,bor:=fun b=>c.bor b∨d.sld b }
theorem B8(hs:ek M w c σ)(hst:gG (c.lent w) w c1 w')(hs1:ek M w' c1 τ) :
  ∃c2,ek M w' c2 σ∧gG c w c2 w'∧(∀v cv,R M w' c1 v cv→R M w' c2 (oV τ v) cv) ∧
   (∀x (f:Nat→Value),(∀j (hj:j<(cellsOf x).length),R M w' c1 (cellsOf x)[j] (f j))→∀j (hj:j<(cellsOf (oV τ x)).length),R M w' (c2.still false) (cellsOf (oV τ x))[j] (f j)) ∧
   (∀b,c2.bor b→c.bor b∨c1.sld b∨∃id,c1.H id≠.dead∧c1.place id=some b)∧c2.H=c.H∧c2.place=c.place:=by
 have hS:=hs1.sealUp (cd τ.length);have hT:=hst.sealUp hs1 (base:=0) rfl (cd _);generalize hd':c1.sealUp 0 (iu 0 τ)=d at hS hT;have frame:∀b,b<w.heap.size→w'.heap[b]?=w.heap[b]?:=fun b hb=>hT.frame b hb fun id h=>absurd (by rfl) h;have old:∀b,d.sld b→b<w.heap.size→c.sld b:=fun b h hb=>by
  rcases hT.old b h hb with h|⟨i,h,_⟩
  ·exact h
  exact absurd (by rfl) h
 have hext:Ext c w (c.with d) w':=⟨fun b h=>.inl h,fun b h=>.inl h,fun b h=>frame b (hs.low b (h.elim (fun h=>h) (hs.sb b))),aB _,fun _ _=>.inl rfl,fun _ _ _ _=>⟨rfl,rfl,rfl⟩⟩;refine⟨c.with d,⟨hs.H,hs.N,fun b h=>h.imp (hs.sb b) fun h=>h,fun b h=>?_,fun id b h1 h2=>?_,hs.inj,fun id o ho=>?_⟩,{ hext with same:=hT.same,size:=hT.size,frame:=fun b hb _=>frame b hb,liv:=fun id b h1 h2 _=>⟨id,h1,h2⟩,old:=fun b h hb=>h.elim .inl fun h=>.inl (old b h hb),oldb:=fun b h hb=>h.elim .inl fun h=>.inl (hs.sb b (old b h hb)) },fun v cv hv=>?_,fun x f hx j hj=>?_,fun b h=>?_,rfl,rfl⟩
 ·rcases h with h|h
  ·exact aN (hs.low b h) hT.size
  exact hS.low b (hS.sb b h)
 ·obtain⟨p1,p2⟩:=hs.plow id b h1 h2;exact⟨aN p1 hT.size,fun h=>h.elim p2 fun h=>p2 (hs.sb b (old b h p1))⟩
 ·exact (hs.obj id o ho).ext hext (fun _=>⟨rfl,rfl,rfl⟩) fun hnd b hb=>frame b (hs.plow id b (by rw[hs.H];exact fun h=>hnd ((pz ho).1 h)) hb).1
 ·have ht:=pR hs1 (cd τ.length);have:=O1 hs1 ht dp false v cv hv;rw[hd']at this;refine this.ext ⟨fun b h=>.inr h,fun b h=>.inr h,fun _ _=>rfl,cd _,fun id h=>absurd h (cF _),fun id h=>absurd h (cF _)⟩
 ·have ht:=pR hs1 (cd τ.length);have:=D6 (fun m _=>O1 hs1 ht m) hx j hj;rw[hd']at this;exact this.ext ⟨fun b h=>.inr h,fun b h=>.inr h,fun _ _=>rfl,aB _,fun id h=>absurd h (cF _),fun id h=>absurd h (cF _)⟩
 rcases h with h|h
 ·exact .inl h
 rw[←hd']at h;rcases h with h|⟨id,_,h1,h2⟩
 ·exact .inr (.inl h)
 exact .inr (.inr ⟨id,h1,h2⟩)
end Go.AM
namespace Go.AM
variable {M:cO} {P:Program} {w w':World} {c c1:cJ} {σ τ:aw}
theorem ek.kill(hs:ek M w c σ)(id:Nat):ek M w { c with H:=hd (σ.set id .dead) } (σ.set id .dead)∧Ext c w { c with H:=hd (σ.set id .dead) } w:=by
 have hh:∀i,hd (σ.set id .dead) i=if i=id then .dead else hd σ i:=fun i=>by
  by_cases e:i=id
  ·subst e;rw[if_pos rfl];unfold hd;rw[dc];simp only[bU];split<;>rename_i h<;>split at h<;>simp_all
  rw[if_neg e,iN e]
 have live:∀i,hd (σ.set id .dead) i≠.dead→c.H i≠.dead:=fun i h=>by
  rw[hh]at h;split at h
  ·exact absurd rfl h
  rw[hs.H];exact h
 have hext:Ext c w { c with H:=hd (σ.set id .dead) } w:=⟨fun _ h=>h,fun _ h=>h,fun _ _=>rfl,aB _,fun i hi=>by
  show (c.H i).le (hd (σ.set id .dead) i);rw[hh];split
  ·exact .inr (.inl rfl)
  exact .inl (by rw[hs.H]),fun i hi h hne=>⟨rfl,rfl,rfl⟩⟩
 refine⟨⟨rfl,by rw[gy];exact hs.N,hs.sb,hs.low,fun i b h1 h2=>hs.plow i b (live i h1) h2,fun i j b hi hj=>hs.inj i j b (live i hi) (live j hj),fun i o ho=>?_⟩,hext⟩;by_cases e:i=id
 ·subst e;rw[dc]at ho;simp only[bU]at ho;split at ho
  ·cases ho;trivial
  cases ho
 rw[cX (fun h=>e h.symm)]at ho;exact (hs.obj i o ho).ext hext (fun _=>⟨rfl,rfl,rfl⟩) fun _ _ _=>rfl
theorem gG.kill{c0:cJ}{w0:World}(h:gG c0 w0 c w)(hs:ek M w c σ)(id:Nat):gG c0 w0 { c with H:=hd (σ.set id .dead) } w:=
 { Ext.trans h.toExt (hs.kill id).2 with
  same:=h.same
  size:=h.size
  frame:=h.frame
  old:=h.old
  oldb:=h.oldb
  liv:=fun i b h1 h2 hb=>by
   refine h.liv i b ?_ h2 hb;intro hd0;have h1':hd (σ.set id .dead) i≠.dead:=h1;by_cases e:i=id
   ·subst e;apply h1';unfold hd;rw[dc];simp only[bU];split<;>rename_i h<;>split at h<;>simp_all
   rw[iN e,←hs.H]at h1';exact h1' hd0 }
theorem D8(hs:ek M w c σ)(hst:gG (c.lent w) w c1 w')(hs1:ek M w' c1 τ){k:Nat}(hk:k≠0){x:ap}{cx:Value}(hx:R M w' c1 x cx) :
  ∃c2,ek M w' c2 σ∧gG c w c2 w'∧(py k τ x=.any∨∃xs,py k τ x=.frs k xs∧aej M w.heap.size w' c2 k xs cx)∧∀v cv,R M w' c1 v cv→R M w' c2 (oV (yE τ x) v) cv:=by
 by_cases hsl:∃id ep off len,x=.sl id ep off len
 ·obtain⟨id,ep,off,len,rfl⟩:=hsl;obtain⟨hk1,hk2⟩:=hs1.kill id;have hstk:=hst.kill hs1 id;obtain⟨c2,b1,b2,b3,b4,b5,b6,b7⟩:=B8 hs hstk hk1;refine⟨c2,b1,b2,?_,fun v cv hv=>b3 v cv (hv.ext hk2)⟩;unfold py;dsimp only;split
  ·rename_i k' e es ho;split
   ·rename_i hc;obtain⟨rfl,rfl,rfl,hlen⟩:=hc;unfold Q5;split
    ·rename_i hm;refine .inr ⟨_,rfl,hk,fun y hy=>?_,?_⟩
     ·obtain⟨m1,m2⟩:=yg hm;obtain⟨i,hi,rfl⟩:=bP.1 hy;rw[m2 i hi (by omega)];exact (hs1.obj id _ ho).2.1 _ (cN (aO _))
     have hlen':((es.take len).map (oV (τ.set id .dead))).length=len:=by simp;omega
     have hH:c1.H id=.arr k' e:=by rw[hs1.H,dV ho]
     cases hx with
     |@sl _ _ _ _ _ cap k2 blk h1 h2 h3 h4 h5=>
      rw[hH]at h2;cases h2;obtain⟨o1,o2,o3,o4⟩:=hs1.obj id _ ho;obtain⟨cs,T,f,q1,q2,q3,q4,q5⟩:=o4 blk h3;have hnew:w.heap.size≤blk:=Nat.le_of_not_lt fun hlt=>by
       obtain⟨i,i1,_⟩:=hst.liv id blk (by rw[hH];simp) h3 hlt;exact i1 rfl
      refine .inr ⟨blk,cap,cs,T,f,by rw[hlen'];simp,hnew,q1,fun hb=>?_,fun i hi hp=>?_,by rw[hlen'];exact h4,by simpa [q3] using h5,fun i j hi hj=>q4 i j (by omega) hj,fun i hi j hj=>?_⟩
      ·rcases b5 blk hb with hb|hb|⟨i,i1,i2⟩
       ·exact absurd (hs.low _ hb) (by omega)
       ·exact (hs1.plow id blk (by rw[hH];simp) h3).2 (hs1.sb _ hb)
       have i1':hd (τ.set id .dead) i≠.dead:=i1;have hne:i≠id:=fun e=>by
        subst e;apply i1';rw[dV (o:=.dead) (by rw[dc];simp[(ak.1 ho).1])]
       rw[iN hne,←hs1.H]at i1';exact hne (hs1.inj i id blk i1' (by rw[hH];simp) i2 h3)
      ·rw[b6]at hi;rw[b7]at hp;exact absurd (hs.plow i blk hi hp).1 (by omega)
      simp only[cP,dB]at hj ⊢;exact b4 _ (f i) (fun j hj=>(q5 i (by omega) j hj).ext hk2) j hj
     |@sl0 _ _ _ _ _ a=>exact .inl ⟨by simp,a,rfl⟩
     |slOld h0 h1 h2=>exact absurd (h2 _ _ hH) (dn _)
    exact .inl rfl
   exact .inl rfl
  exact .inl rfl
 obtain⟨c2,b1,b2,b3,b4,b5,b6,b7⟩:=B8 hs hst hs1;refine⟨c2,b1,b2,?_,fun v cv hv=>?_⟩
 ·unfold py;split
  ·cases hx with|@ai _ a=>exact .inr ⟨[],rfl,hk,by simp,.inl ⟨rfl,a,rfl⟩⟩
  ·exact absurd ⟨_,_,_,_,rfl⟩ hsl
  exact .inl rfl
 have:yE τ x=τ:=by
  unfold yE;split
  ·exact absurd ⟨_,_,_,_,rfl⟩ hsl
  rfl
 rw[this];exact b3 v cv hv
end Go.AM
namespace Go.AM
variable {M:cO} {P:Program} {w w':World} {c c1:cJ} {σ τ:aw}
def AC.lends:AC→Bool
 |.pure|.fresh _=>true
 |_=>false
def AC.ok:AC→Bool
 |.fresh k=>k != 0
 |_=>true
theorem Lf(hs:ek M w c σ)(hst:gG (c.lent w) w c1 w'){s:St}(hs1:ek M w' c1 s.st){m:AC}(hm:m.lends=true)(hk:m.ok=true){v:ap}{cv:Value}(hv:R M w' c1 v cv) :
  fX M c w (gq m σ s v).2 (gq m σ s v).1 cv w':=by
 cases m with
 |pure=>
  obtain⟨c2,b1,b2,b3,_⟩:=B8 hs hst hs1;exact⟨c2,b1,b2,.r (b3 v cv hv)⟩
 |fresh k=>
  have hk':k≠0:=by simpa [AC.ok] using hk
  by_cases ht:∃x vs,v=.tup (x::vs)
  ·obtain⟨x,vs,rfl⟩:=ht;show fX M c w σ (.tup (py k s.st x::vs.map (oV (yE s.st x)))) cv w';cases hv with
   |@tup _ _ cvs f h1 h2 h3=>
    have hx0:R M w' c1 x (f 0):=h3 0 (by simp);obtain⟨c2,b1,b2,b3,b4⟩:=D8 hs hst hs1 hk' hx0;refine⟨c2,b1,b2,?_⟩;have hrest:∀i (hi:i<(vs.map (oV (yE s.st x))).length),R M w' c2 (vs.map (oV (yE s.st x)))[i] (f (i+1)):=fun i hi=>by
     rw[cP];exact b4 _ _ (h3 (i+1) (by simpa using hi))
    have h0:=h2 0 (by simp);rcases b3 with b3|⟨xs,b3,b5⟩
    ·rw[b3];refine .r (.tup f (by simpa using h1) (fun i hi=>h2 i (by simpa using hi)) fun i hi=>?_);cases i with
     |zero=>exact .any
     |succ i=>exact hrest i (by simpa using hi)
    rw[b3];exact .tup (fun i=>f (i+1)) b5 (by simpa using h1) h0 (fun i hi=>h2 (i+1) (by simpa using hi)) hrest
  have e:gq (.fresh k) σ s v=(py k s.st v,σ):=by
   unfold gq;dsimp only;split
   ·exact absurd ⟨_,_,rfl⟩ ht
   rfl
  rw[e];obtain⟨c2,b1,b2,b3,_⟩:=D8 hs hst hs1 hk' hv;refine⟨c2,b1,b2,?_⟩;rcases b3 with b3|⟨xs,b3,b5⟩
  ·rw[b3];exact .r .any
  rw[b3];exact .frs b5
 |keep=>cases hm
 |trunc=>cases hm
theorem Na(hs:ek M w c σ)(hst:gG c w c1 w'){s:St}(hs1:ek M w' c1 s.st){m:AC}(hm:m.lends=false){v:ap}{cv:Value}(hv:R M w' c1 v cv) :
  fX M c w (gq m σ s v).2 (gq m σ s v).1 cv w':=by
 cases m with
 |pure=>cases hm
 |fresh k=>cases hm
 |keep=>exact⟨c1,hs1,hst,.r hv⟩
 |trunc=>
  unfold gq;dsimp only;split
  ·exact⟨c1,hs1,hst,.r hv⟩
  have hb:σ.length≤s.st.length:=by rw[←hs.N,←hs1.N];exact hst.N
  exact⟨_,hs1.sealUp hb,hst.sealUp hs1 hs.N hb,.r (O1 hs1 (pR hs1 hb) dp true _ _ hv)⟩
def YD(M:cO)(P:Program)(bT:Nat→Bool)(f:Nat)(g:aM):Prop:=
 ∃ fn code em,P.funcs[M.fm f]?=some fn∧(fn.name == "runtime.NumGoroutine")=false∧fn.body=some code∧fd M P bT em fn.ntmps true code g.body∧em.take g.np=List.range g.np∧g.np≤em.length ∧
  g.res.length=fn.results.toList.length∧((g.res.zip fn.results.toList).all fun p=>G9 P em p.1 p.2)=true∧g.mode.ok=true
theorem jQ{fn:Func}{f:FuncId}{code:Go.Code}{args:Array Value}(h1:P.funcs[f]?=some fn)(h2:(fn.name == "runtime.NumGoroutine")=false)(h3:fn.body=some code):(callFunc f args).run P w=.ok (.enter f args) w:=by
 unfold callFunc;have h2':¬fn.name = "runtime.NumGoroutine":=by simpa using h2
 simp[h1,h2',h3]
theorem jZ.take{args:List ap}{cargs:Array Value}(h:jZ M w c args cargs)(hs:ek M w c σ):jZ M w (c.lent w) (args.map (iC σ)) cargs:=
 ⟨by rw[h.1];simp,fun i hi=>by
  obtain⟨x,h1,h2⟩:=h.2 i (by simpa using hi);exact⟨x,h1,by rw[cP];exact acz hs h2⟩⟩
theorem RJ{bT:Nat→Bool}{C:gl}{k:Nat}(hm:P.follows .mixedOrders=true)(hp:tW bT C)(hC:jG M P C)(hR:ji M P C){f:Nat}{g:aM}(hok:YD M P bT f g){args:List ap}{v:ap}{σ':aw}
  (hr:(exec C k g.body (enter g args σ)).bind (oM g σ)=some (v,σ')) {F:Fence} {n:Nat} {cargs:Array Value} (hF:qk F) (hs:ek M w c σ) (hg:iR M w c) (ha:jZ M w c args cargs) :
  pA F n P (M.fm f) cargs w (fX M c w σ' v):=by
 obtain⟨fn,code,em,h1,h2,h3,h4,h5,h6,h7,h8,h9⟩:=hok;obtain⟨⟨e,s'⟩,r1,r2⟩:=bv hr;refine .inl ⟨jQ h1 h2 h3,?_⟩
 have key:∀F:Fence,qk F→F.round=none→CallsIn F n P (M.fm f) cargs w fun e w'=>∃cv,e=.returned cv∧fX M c w σ' v cv w':=fun F hF hro=>by
  refine callsIn_of_wp_marks h1 h3 (hF.fn _) ?_ hro;unfold oM at r2;have hres:∃v0,results s' g.res=some v0∧gq g.mode σ s' v0=(v,σ')∧(e=.nrm∨e=.ret):=by
   cases e with
   |ext id=>cases r2
   |nrm=>obtain⟨v0,q1,q2⟩:=aX r2;exact⟨v0,q1,q2,.inl rfl⟩
   |ret=>obtain⟨v0,q1,q2⟩:=aX r2;exact⟨v0,q1,q2,.inr rfl⟩
  obtain⟨v0,q1,q2,q3⟩:=hres;have post:∀c0,((c0=c.lent w∧g.mode.lends=true)∨(c0=c∧g.mode.lends=false))→∀a w' c1,SR M em fn.ntmps w.heap.size c1 w' s' a→gG c0 w c1 w'→bodyPostM F n P fn (fun e w'=>∃cv,e=.returned cv∧fX M c w σ' v cv w') (OV e) a w':=fun c0 hc0 a w' c1 hs1 hst=>by
   have hb:LeavesInM F n P fn a.tmps (fun e w'=>∃cv,e=.returned cv∧fX M c w σ' v cv w') a.defers .returning w':=by
    refine zI _ _ hs1.sim hst hs1.marks fun w' hs1' he1 hst=>?_;obtain⟨cv,x1,x2⟩:=Sf (P:=P) hs1' (fun t x hx=>(hs1.tmp t x hx).ext he1) h7 h8 q1;refine⟨cv,x1,cv,rfl,?_⟩;have e1:σ'=(gq g.mode σ s' v0).2:=by rw[q2]
    have e2:v=(gq g.mode σ s' v0).1:=by rw[q2]
    rw[e1,e2];rcases hc0 with⟨rfl,hl⟩|⟨rfl,hl⟩
    ·exact Lf hs hst hs1' hl h9 x2
    exact Na hs hst hs1' hl x2
   rcases q3 with rfl|rfl
   ·exact hb
   exact hb
  have hsize:fn.ntmps≤(cargs++Array.replicate (fn.ntmps-cargs.size) undef).size:=by simp;omega
  by_cases hl:g.mode.lends=true
  ·have hent:enter g args σ=⟨(args.map (iC σ)).take g.np++List.replicate (g.nenv-g.np) .any,[]⟩:=by
    unfold enter;cases hmo:g.mode<;>rw[hmo]at hl<;>first|(cases hl;done)|simp[dH]
   rw[hent]at r1;have ha':=ha.take hs;refine uu hm hp hC hR hF (fun _=>hro) h4 _ e s' r1 w.heap.size (c.lent w) w _ (Oq hs hg) ⟨hs.lent,Hx h5 h6 ha'.1 ha'.2,hsize,aB _,show oN _ _ _ [] from trivial⟩ _ fun a w' c1 hs1 hst=>post _ (.inl ⟨rfl,hl⟩) a w' c1 hs1 hst
  have hl':g.mode.lends=false:=by simpa using hl
  have hent:enter g args σ=⟨args.take g.np++List.replicate (g.nenv-g.np) .any,σ⟩:=by
   unfold enter;cases hmo:g.mode<;>rw[hmo]at hl'<;>first|(cases hl';done)|rfl
  rw[hent]at r1;refine uu hm hp hC hR hF (fun _=>hro) h4 _ e s' r1 w.heap.size c w _ hg ⟨hs,Hx h5 h6 ha.1 ha.2,hsize,aB _,show oN _ _ _ [] from trivial⟩ _ fun a w' c1 hs1 hst=>post _ (.inr ⟨rfl,hl'⟩) a w' c1 hs1 hst
 have hwide:qk { F with round:=none }:=⟨hF.fn,hF.depth,hF.alive⟩;exact key { F with round:=none } hwide rfl
end Go.AM
namespace Go.AM
variable {M:cO} {P:Program} {w w':World} {c c1:cJ} {σ τ:aw}
def zQ(M:cO)(P:Program)(bT:Nat→Bool)(g:wM)(rec:kB)(em:List Tmp):Prop:=
 ∃nt,g.nenv=em.length∧nt≤rec.tmps.size∧fd M P bT em nt false rec.assign g.pre∧g.params.map (em[·]?)=rec.params.toList.map some∧em.Nodup∧fd M P bT em nt false rec.body g.body
def Y8(M:cO)(P:Program)(bT:Nat→Bool)(code:Code):Prop:=
 ∀site rec em,M.site site rec em→∃g,code.fns site=.round g∧zQ M P bT g rec em
def yw(M:cO)(P:Program)(f:Nat)(p:adi):Prop:=
 ∀(C:gl),jG M P C→ji M P C→∀args σ v σ',p C args σ=some (v,σ')→∀(F:Fence) (n:Nat) (w:World) (c:cJ) (cargs:Array Value),qk F→ek M w c σ→iR M w c→jZ M w c args cargs →
  pA F n P (M.fm f) cargs w (fX M c w σ' v)∧((∃a∈args,wC a=false)→∀(cargs':Array Value) (w':World),(callFunc (M.fm f) cargs').run P w'=.ok (.enter (M.fm f) cargs') w')
structure wa (M:cO) (P:Program) (bT:Nat→Bool) (code:Code):Prop where
 mixed:P.follows .mixedOrders=true
 fns:∀f g,code.fns f=.fn g→YD M P bT f g
 nilfns:∀f g,code.fns f=.nilfn g→YD M P bT f g
 prims:∀f k,code.fns f=.prim k→yw M P f (code.prims k)
 sites:Y8 M P bT code
 keeps:∀f,bT f=true→(∃g,(code.fns f=.fn g∨code.fns f=.nilfn g)∧g.mode.lends=true)∨∃k,code.fns f=.prim k∧∀C args σ v σ',code.prims k C args σ=some (v,σ')→σ'=σ
theorem O6{a:Option Addr}{n cap:Nat}(h:n=0):∃b k,Value.slice a n cap=.slice b 0 k:=by subst h;exact⟨_,_,rfl⟩
theorem VU(hs:ek M w c σ){x:ap}{cx:Value}(hx:R M w c x cx)(h:ip σ x=true):∃a cap,cx=.slice a 0 cap:=by
 unfold ip at h;split at h
 ·cases h
 rename_i hns;split at h
 ·rename_i hrd;cases hx<;>first|(simp[rd]at hrd;done)|skip
  case str=>exact absurd rfl (hns _)
  case aa xs _ _ _ _ _ _ _ _ _ _ _=>simp only[rd,az]at hrd;subst hrd;exact⟨_,_,rfl⟩
  case imm0=>exact⟨_,_,rfl⟩
  case lst=>simp only[rd,az]at hrd;subst hrd;exact⟨_,_,rfl⟩
  case lst0=>exact⟨_,_,rfl⟩
  case ai=>exact⟨_,_,rfl⟩
  case emp=>exact⟨_,_,rfl⟩
  case sl=>
   simp only[rd]at hrd;unfold sliceAt at hrd;split at hrd
   ·split at hrd
    ·rename_i hc;simp only[az]at hrd;have:=congrArg List.length hrd;simp at this;exact O6 (by omega)
    cases hrd
   cases hrd
  case sl0=>exact⟨_,_,rfl⟩
  case slOld=>
   rename_i h2 _ _ _;simp only[rd]at hrd;unfold sliceAt at hrd;split at hrd
   ·rename_i k e es ho;split at hrd
    ·rename_i hc;have:=h2 k e (by rw[hs.H,dV ho]);omega
    cases hrd
   cases hrd
 cases h
theorem Tm{l:Nat}{xs args:List ap}{cargs:Array Value}(h:jZ M w c (.frs l xs::args) cargs):False:=by
 obtain⟨x,_,h⟩:=h.2 0 (by simp);cases h
theorem Fo{em:List Tmp}(hnd:em.Nodup):∀{ps:List Nat} {ts:List Tmp} {args:List ap} {cargs:List Value} {env:List ap} {tmps:Array Value},
  ps.map (em[·]?)=ts.map some→args.length=ps.length→cargs.length=args.length→(∀i (h:i<args.length) (h':i<cargs.length),R M w c args[i] cargs[i])→env.length=em.length→(∀t∈em,t<tmps.size)→lc M w c env [] (t7 em) tmps →
  lc M w c (td env ps args) [] (t7 em) ((ts.zip cargs).foldl (fun tmps (t,a)=>tmps.setIfInBounds t a) tmps)
 |[],[],args,cargs,env,tmps,_,h1,h2,_,_,_,ht=>by
  cases args with
  |nil=>exact ht
  |cons _ _=>simp at h1
 |[],_::_,_,_,_,_,h,_,_,_,_,_,_=>by simp at h
 |_::_,[],_,_,_,_,h,_,_,_,_,_,_=>by simp at h
 |p::ps,t::ts,[],_,_,_,_,h1,_,_,_,_,_=>by simp at h1
 |p::ps,t::ts,x::args,[],_,_,_,_,h2,_,_,_,_=>by simp at h2
 |p::ps,t::ts,x::args,y::cargs,env,tmps,h,h1,h2,hr,he,hb,ht=>by
  simp only[cH,mP]at h;obtain⟨hp,h⟩:=h;have hpl:p<em.length:=(ak.1 hp).1;have hpe:em[p]=t:=(ak.1 hp).2;simp only[td,gu,dh];refine Fo hnd h (by simpa using h1) (by simpa using h2) (fun i hi hi'=>hr (i+1) (by simpa using hi) (by simpa using hi')) (by simpa using he) (fun t ht=>by simpa using hb t ht) ?_;intro q o hq;unfold t7 at hq;obtain⟨k,hk,rfl⟩:=aX hq;show R M w c (lU (env.set p x) k) _;rw[List.idxOf?,cD]at hk;obtain⟨k1,k2,_⟩:=hk;have k2':em[k]=q:=by simpa using k2
  have htl:t<tmps.size:=hb t (by rw[←hpe];exact aO _);by_cases hkp:k=p
  ·subst hkp;have:lU (env.set k x) k=x:=by
    unfold lU;rw[dc];simp[he,k1]
   rw[this];have hqt:q=t:=by rw[←k2',hpe]
   subst hqt;have:=hr 0 (by simp) (by simp);simpa [Array.getD,htl] using this
  rw[ze (fun e=>hkp e.symm)];have hqt:q≠t:=fun e=>hkp (xy hnd _ _ (by rw[k2',hpe,e]))
  have:=ht q (.env k) (by unfold t7;rw[show em.idxOf? q=some k by
   rw[List.idxOf?,cD];exact⟨k1,k2,fun j hj=>by
    simp only[aG];exact fun e=>absurd (xy hnd _ _ (e.trans k2'.symm)) (by omega)⟩];rfl)
  have e:(tmps.setIfInBounds t y).getD q undef=tmps.getD q undef:=by
   rw[bA,bA,fO (fun e=>hqt e.symm)]
  rw[e];exact this
theorem Hr{ts:Array Tmp}{xs:Array Value}{tmps:Array Value}:(ts.zip xs).foldl (fun tmps (t,a)=>tmps.setIfInBounds t a) tmps=(ts.toList.zip xs.toList).foldl (fun tmps (t,a)=>tmps.setIfInBounds t a) tmps:=by
 rw[←Array.foldl_toList,Array.toList_zip]
theorem Gg:∀(l:List (Tmp×Value)) (tmps:Array Value),(l.foldl (fun tmps (t,a)=>tmps.setIfInBounds t a) tmps).size=tmps.size
 |[],_=>rfl
 |_::l,tmps=>by simp only[dh];rw[Gg l];simp
def afP:Ex→Option Ex
 |.nrm=>none
 |e=>some e
theorem G3{l:Nat}{e:Ex}{s:St}{v:ap}(h:lZ l (e,s)=some (v,σ)) :
  ∃j,s.st[l]?=some (.pend true none)∧j=afP e∧v=.bool (rC e).isNone∧σ=s.st.set l (.pend false j):=by
 unfold lZ at h;dsimp only at h;generalize s.st[l]?=q at h
 match q,h with
 |some (.pend true none),h=>
  cases e with
  |nrm=>cases h;exact⟨none,rfl,rfl,rfl,rfl⟩
  |ret=>cases h;exact⟨some .ret,rfl,rfl,rfl,rfl⟩
  |ext i=>cases h;exact⟨some (.ext i),rfl,rfl,rfl,rfl⟩
theorem KY{bT:Nat→Bool}{C:gl}{k:Nat}(hm:P.follows .mixedOrders=true)(hp:tW bT C)(hC:jG M P C)(hR:ji M P C){site l:Nat}{g:wM}{env args:List ap}{v:ap}{σ':aw}
  (hl:σ[l]?=some (.pend false none)) (hlen:((env++args).drop g.nenv).length=g.params.length)
  (hr:(exec C k g.pre ⟨td ((env++args).take g.nenv) g.params ((env++args).drop g.nenv),σ⟩).bind (mH C k l g.body)=some (v,σ'))
  (hok:∀rec em,M.site site rec em→zQ M P bT g rec em)
  {F:Fence} {n:Nat} {cargs:Array Value} {x:Value} (hF:qk F) (hs:ek M w c σ) (hg:iR M w c) (ha:jZ M w c args cargs) (hx:R M w c (.yld l site env) x) :
  ∃b tmps w1,x=.func (.yield b) #[] #[]∧(Instr.yield b cargs).run P w=.ok (.round b (c.loops l).fn tmps (c.loops l).assign (c.loops l).body) w1 ∧
   RoundIn F n P b (c.loops l).fn tmps (c.loops l).assign (c.loops l).body w1 fun e w'=>∃cv,e=.returned cv∧fX M c w σ' v cv w':=by
 have hH:c.H l=.pend:=by rw[hs.H,dV hl]
 have hlive:c.H l≠.dead:=by rw[hH];simp
 cases hx with
 |yldOld h0 h1 h2=>rw[hH]at h2;cases h2
 |@yld _ _ _ _ em blk f h1 h2 h3 h4 h5 h6 h7=>
  obtain⟨nt,g1,g2,g3,g4,g5,g6⟩:=hok _ _ h4;have henv:env.length=g.nenv:=by rw[g1,h5]
  have hdrop:(env++args).drop g.nenv=args:=by rw[←henv];simp
  have htake:(env++args).take g.nenv=env:=by rw[←henv];simp
  rw[hdrop]at hlen;rw[hdrop,htake]at hr;obtain⟨b,b1,b2⟩:=hs.obj _ _ hl;rw[h3]at b1;cases b1;replace b2:w.heap[blk]?=some (.loop (pI (c.loops l) .ready none)):=b2;have hpar:(c.loops l).params.size=g.params.length:=by
   have:=congrArg List.length g4;simpa using this.symm
  have hy:=run_yield (P:=P) (args:=cargs) b2 (by rw[ha.1,hlen];exact hpar.symm);refine⟨blk,_,w,rfl,hy,?_⟩;apply roundIn_of_wpIn (hF.fn _);obtain⟨⟨e0,s0⟩,r0,r00⟩:=bv hr;have hsz:(((c.loops l).params.zip cargs).foldl (fun tmps (t,a)=>tmps.setIfInBounds t a) (c.loops l).tmps).size=(c.loops l).tmps.size:=by rw[Hr,Gg]
  have htb:∀t∈em,t<(c.loops l).tmps.size:=fun t ht=>by
   obtain⟨i,hi,rfl⟩:=bP.1 ht;exact (bd.1 (h6 i hi (by omega))).1
  have ht0:lc M w c env [] (t7 em) (c.loops l).tmps:=fun t o ho=>by
   unfold t7 at ho;obtain⟨i,hi,rfl⟩:=aX ho;show R M w c (lU env i) _;rw[List.idxOf?,cD]at hi;obtain⟨i1,i2,_⟩:=hi;have i2':em[i]=t:=by simpa using i2
   have i3:i<env.length:=by omega
   have e1:lU env i=env[i]:=by
    unfold lU;rw[aq i3];rfl
   rw[e1,bA,←i2',h6 i i1 i3];exact h7 i i3
  have ht1:lc M w c (td env g.params args) [] (t7 em) (((c.loops l).params.zip cargs).foldl (fun tmps (t,a)=>tmps.setIfInBounds t a) (c.loops l).tmps):=by
   rw[Hr];refine Fo g5 g4 hlen (by simp[ha.1]) (fun i hi hi'=>?_) (by omega) htb ht0;obtain⟨y,y1,y2⟩:=ha.2 i hi;have:cargs.toList[i]=y:=by
    have:=(bd.1 y1).2;simpa using this
   rw[this];exact y2
  refine uu hm hp hC hR (hF.inRound blk) (fun h=>by cases h) g3 _ e0 s0 r0 0 c _ _ hg ⟨hs,ht1,aZ g2 (Nat.le_of_eq hsz.symm),cd _,show oN _ _ _ [] from trivial⟩ _ fun a1 w1 c1 hs1 hst1=>?_;have hgo:e0=.nrm∧s0.st[l]?=some (.pend false none)∧(exec C k g.body ⟨s0.env,s0.st.set l (.pend true none)⟩).bind (lZ l)=some (v,σ'):=by
   unfold mH at r00;split at r00
   ·rename_i h1 h2;exact⟨h1,h2,r00⟩
   cases r00
  obtain⟨rfl,hl1,hr1⟩:=hgo;have hH1:c1.H l=.pend:=by rw[hs1.sim.H,dV hl1]
  obtain⟨q1,q2,q3⟩:=hst1.place l h1 (by rw[hH,hH1]) hlive;obtain⟨b,b1,b3⟩:=hs1.sim.obj _ _ hl1;have h31:c1.place l=some blk:=by rw[q1,h3]
  rw[h31]at b1;cases b1;replace b3:w1.heap[blk]?=some (.loop (pI (c1.loops l) .ready none)):=b3;have hbr:=run_beginRound (P:=P) b3 rfl;refine⟨_,hbr,?_⟩;have hset:rF w1 (w1.putObj blk (.loop { pI (c1.loops l) .ready none with state:=.busy })) blk (.loop { pI (c1.loops l) .ready none with state:=.busy }):=⟨⟨rfl,rfl,rfl,aB _⟩,rfl⟩;obtain⟨s1,st1⟩:=hs1.sim.pend (bz':=true) (j':=none) hl1 h31 hset rfl;obtain⟨⟨e,s'⟩,r1,r2⟩:=bv hr1;refine uu hm hp hC hR (hF.inRound blk) (fun h=>by cases h) g6 _ e s' r1 0 c1 _ _ (hg.ext (hst1.trans st1).toExt) ⟨s1,fun t o ho=>(hs1.tmp t o ho).ext st1.toExt,hs1.size,cd _,hs1.marks.stp st1⟩ _ fun a w2 c2 hs2 hst2=>?_
  have hpe:=G3 r2;obtain⟨j,p1,p2,p3,p4⟩:=hpe;have hst:=(hst1.trans st1).trans hst2;have hH2:c2.H l=.pend:=by rw[hs2.sim.H,dV p1]
  obtain⟨q1,q2,q3⟩:=hst.place l h1 (by rw[hH,hH2]) hlive;obtain⟨b,b1,b3⟩:=hs2.sim.obj _ _ p1;rw[q1,h3]at b1;cases b1;have hend:=run_endRound (P:=P) (rC e) b3;have hset2:rF w2 (w2.putObj blk (.loop { pI (c2.loops l) .busy none with state:=if (rC e).isNone then .ready else .done,pending:=rC e })) blk (.loop { pI (c2.loops l) .busy none with state:=if (rC e).isNone then .ready else .done,pending:=rC e }):=⟨⟨rfl,rfl,rfl,aB _⟩,rfl⟩
  obtain⟨s3,st3⟩:=hs2.sim.pend (bz':=false) (j':=j) p1 (by rw[q1,h3]) hset2 (by
   rw[p2];cases e<;>rfl)
  have hpost:fX M c w σ' v (.bool (rC e).isNone) _:=⟨c2,by rw[p4];exact s3,hst.trans st3,by rw[p3];exact .r .bool⟩;cases e with
  |nrm=>exact⟨_,_,hend,_,rfl,hpost⟩
  |ret=>exact⟨_,_,hend,_,rfl,hpost⟩
  |ext i=>exact⟨_,_,hend,_,rfl,hpost⟩
theorem Cs{bT:Nat→Bool}{code:Code}(hc:wa M P bT code):∀n,jG M P (dG code n)∧ji M P (dG code n)∧tW bT (dG code n)
 |0=>by
  refine⟨?_,?_,?_⟩
  ·intro f args σ v σ' h;cases h
  ·intro site l env args σ v σ' h;cases h
  intro f args σ v σ' _ h;cases h
 |k+1=>by
  obtain⟨ihC,ihR,ihK⟩:=Cs hc k;refine⟨fun f args σ v σ' h F n w c cargs hF hs hg ha=>?_,fun site l env args σ v σ' h F n w c cargs x hF hs hg ha hpd hx=>?_,fun f args σ v σ' hp h=>?_⟩
  ·simp only[dG]at h;split at h
   ·cases h
   ·rename_i q hq;exact hc.prims f q hq _ ihC ihR args σ v σ' h F n w c cargs hF hs hg ha
   ·rename_i g hq;refine⟨RJ hc.mixed ihK ihC ihR (hc.fns f g hq) h hF hs hg ha,fun _ cargs' w'=>?_⟩;obtain⟨fn,code,em,h1,h2,h3,_⟩:=hc.fns f g hq;exact jQ h1 h2 h3
   ·rename_i g hq;refine⟨?_,fun _ cargs' w'=>?_⟩
    ·have hcall:∀args v σ',nq (dG code k) k g args σ=some (v,σ')→jZ M w c args cargs→pA F n P (M.fm f) cargs w (fX M c w σ' v):=fun args v σ' h ha=>
      RJ hc.mixed ihK ihC ihR (hc.nilfns f g hq) h hF hs hg ha
     split at h
     ·rename_i x rest;split at h
      ·rename_i he;obtain⟨r,h1,h⟩:=bv h;obtain⟨q,h2,h⟩:=bv h;split at h
       ·rename_i hsame;cases h;simp only[am]at hsame;obtain⟨q1,q2⟩:=q;have e1:=qU hsame.1;have e2:=zD hsame.2;dsimp only at e1 e2;subst e1 e2;obtain⟨cx,hcx,hx⟩:=ha.2 0 (by simp);obtain⟨a,cap,rfl⟩:=VU hs hx he;have ha':∀b,a.isNone=b→jZ M w c (.emp b::rest) cargs:=fun b hb=>by
         refine⟨ha.1,fun i hi=>?_⟩;cases i with
         |zero=>exact⟨_,hcx,.emp hb⟩
         |succ i=>exact ha.2 (i+1) hi
        cases hb:a.isNone with
        |true=>exact hcall _ _ _ h1 (ha' _ hb)
        |false=>exact hcall _ _ _ h2 (ha' _ hb)
       cases h
      exact hcall _ _ _ h ha
     cases h
    obtain⟨fn,code,em,h1,h2,h3,_⟩:=hc.nilfns f g hq;exact jQ h1 h2 h3
   split at h
   ·exact (Tm ha).elim
   cases h
  ·have hpl:σ[l]?=some (.pend false none):=by
    unfold ph at hpd;split at hpd
    ·assumption
    cases hpd
   have hsite:∃g,code.fns site=.round g∧∀rec em,M.site site rec em→zQ M P bT g rec em:=by
    cases hx with
    |@yld _ _ _ _ em blk f h1 h2 h3 h4 h5 h6 h7=>
     obtain⟨g,g1,g2⟩:=hc.sites _ _ _ h4;refine⟨g,g1,fun rec em hm=>?_⟩;obtain⟨g',g1',g2'⟩:=hc.sites _ _ _ hm;rw[g1]at g1';cases g1';exact g2'
    |yldOld h0 h1 h2=>rw[hs.H,dV hpl]at h2;cases h2
   obtain⟨g,g1,g2⟩:=hsite;simp only[dG,g1,bV]at h;split at h
   ·rename_i hl;split at h
    ·rename_i hlen;exact KY hc.mixed ihK ihC ihR hl hlen h g2 hF hs hg ha hx
    cases h
   cases h
  simp only[dG]at h;rcases hc.keeps f hp with⟨g,hq,hl⟩|⟨q,hq,hk⟩
  ·have keep:∀args v σ',nq (dG code k) k g args σ=some (v,σ')→σ'=σ:=fun args v σ' h=>by
    unfold nq at h;obtain⟨⟨e,s⟩,_,h2⟩:=bv h;unfold oM at h2;have fin:∀v0,gq g.mode σ s v0=(v,σ')→σ'=σ:=fun v0 hfin=>by
     cases hmo:g.mode<;>rw[hmo]at hl hfin<;>first|(cases hl;done)|skip
     ·cases hfin;rfl
     simp only[gq]at hfin;cases hfin;rfl
    cases e with
    |ext i=>cases h2
    |nrm=>obtain⟨v0,_,h3⟩:=aX h2;exact fin v0 h3
    |ret=>obtain⟨v0,_,h3⟩:=aX h2;exact fin v0 h3
   rcases hq with hq|hq
   ·rw[hq]at h;exact keep _ _ _ h
   rw[hq]at h;dsimp only at h;split at h
   ·split at h
    ·obtain⟨⟨r1,r2⟩,h1,h⟩:=bv h;obtain⟨q,h2,h⟩:=bv h;split at h
     ·cases h;exact keep _ _ _ h1
     cases h
    exact keep _ _ _ h
   cases h
  rw[hq]at h;exact hk _ _ _ _ _ h
end Go.AM
namespace Go.AM
section
variable (M:cO) (P:Program) (bT:Nat→Bool)
def LD:List (Tmp×cB)→Tmp→Option cB
 |[],_=>none
 |(u,x)::r,t=>if u==t then some x else LD r t
def VI(em:List Tmp)(done:List (Tmp×cB))(o:Oper):Option cB:=
 if o.guard.isNone then (match QF o.op with
  |some (.tmp t)=>(match LD done t with
   |some x=>some x
   |none=>(em.idxOf? t).map .env)
  |some (.const v)=>(QK v).map .val
  |_=>none) else none
def CO(em:List Tmp):List Oper→List (Tmp×cB)→Nat→C4
 |[],_,_=>[]
 |o::r,done,n=>match VI em done o with
  |some x=>(x,none)::CO em r (match o.dst with|some d=>(d,x)::done|none=>done) n
  |none=>(.loc n,some n)::CO em r (match o.dst with|some d=>(d,.loc n)::done|none=>done) (n+1)
def On:Nat→C4→Option Nat
 |n,[]=>some n
 |n,(_,none)::r=>On n r
 |n,(_,some q)::r=>if q==n then On (n+1) r else none
def AE(b:List Nat)(o:Oper):Nat:=o.after.toList.foldr (fun e s=>if Region.binds .any e then (s |||2^e.on) |||b.getD e.on 0 else s) 0
def jm:List Oper→List Nat→List Nat
 |[],acc=>acc
 |o::r,acc=>jm r (acc++[AE acc o])
def C9(i:Nat):Nat:=2^i-1
def mG(b:List Nat)(i:Nat):Nat:=b.getD i 0
def yt:List Nat→Bool
 |[]=>true
 |x::r=>!r.contains x&&yt r
def vL(ins:List bC)(chk:List (Nat×Nat))(its:C4):List (Nat×Nat):=
 (List.range its.length).filterMap fun k=>match eN its k with
  |some m=>if ju bT ins chk m then some (k,m) else none
  |none=>none
def aao:Option bC→Bool
 |some ⟨.box _ (.val _),none⟩=>true
 |_=>false
def abp(ops:List Oper)(ins:List bC)(em:List Tmp)(its:C4)(bef:Nat→Nat)(chk nws:List (Nat×Nat))(d:Nat):Bool:=
 match ops[d]? with
 |none=>false
 |some o=>(match o.op with|.alloc _=>true|_=>false)&&o.guard.isNone&&bef d==0&&(match o.dst,eN its d with
  |some t,some n=>ju bT ins chk n&&aao ins[n]?&&((List.range ops.length).all fun j=>!(bef j).testBit d ||nws.all fun km=>decide (n≤km.2) ||(bef j).testBit km.1) &&
    ((List.range ops.length).all fun j=>j==d ||(G2 ops em its bef j t).isNone ||(bef j).testBit d)
  |_,_=>false)
def AW(draw:Bool)(ops:List Oper)(ins:List bC)(em:List Tmp)(its:C4)(bef:Nat→Nat)(chk nws:List (Nat×Nat)):Option Nat:=
 if draw then (List.range ops.length).reverse.find? (abp bT ops ins em its bef chk nws) else none
def Ai(ins:List bC)(chk:List (Nat×Nat))(nws:List (Nat×Nat))(bef:Nat→Nat)(late:Option Nat)(i n:Nat)(I:bC):Bool:=
 if ju bT ins chk n then late==some i ||nws.all fun km=>decide (i≤km.1) ||(bef i).testBit km.1
 else Tx bT I.op==0 ||
  ((nws.any (fun km=>(bef i).testBit km.1) ||nws.all (fun km=>decide (n≤km.2)) ||chk.contains (n,0)) &&
   nws.all fun km=>(bef km.1).testBit i ||nws.any (fun k'=>decide (km.2<k'.2)&&(bef i).testBit k'.1) ||
    (decide (km.2<n)&&nws.all (fun k'=>decide (k'.2≤km.2) ||decide (n≤k'.2))) ||chk.contains (n,km.2+1))
def VH(draw:Bool)(ops:List Oper)(ins:List bC)(em:List Tmp)(its:C4)(bef:Nat→Nat)(chk nws:List (Nat×Nat))(late:Option Nat)(i:Nat)(o:Oper):Bool:=
 match eN its i with
 |none=>NM ops em its bef i o
 |some n=>match ins[n]? with
  |none=>false
  |some I=>Gk M P (G2 ops em its bef i) o.op I.op&&wV its bef ops i o.guard I.guard&&Ck (qC its i) (.loc n)&&(!draw ||Ai bT ins chk nws bef late i n I)
def sX{α:Type}(f:Nat→α→Bool):Nat→List α→Bool
 |_,[]=>true
 |i,x::r=>f i x&&sX f (i+1) r
def zw(draw:Bool)(ops:List Oper)(ins:List bC)(em:List Tmp)(qm:List (Nat×cB))(chk:List (Nat×Nat))(nt:Nat):Bool:=
 let its:=CO em ops [] 0
 let b:=jm ops []
 let bef:=if draw then mG b else C9
 (its.length==ops.length)&&(ops.all fun o=>match o.dst with|some d=>decide (d<nt)|none=>true)&&yt (ops.filterMap (·.dst)) &&
 (On 0 its==some ins.length)&&(!draw ||(sX (fun i x=>decide (x<2^i)) 0 b&&b.length==ops.length&&sX (fun i o=>AE b o==b.getD i 0&&o.after.toList.all fun e=>!Region.binds .any e ||decide (e.on<i)) 0 ops)) &&
 sX (VH M P bT draw ops ins em its bef chk (vL bT ins chk its) (AW bT draw ops ins em its bef chk (vL bT ins chk its))) 0 ops&&ub ops em its qm&&(draw ||chk.isEmpty) &&
 chk.all (fun nj=>match ins[nj.1]? with|some I=>I.guard.isNone|none=>true)
end
theorem pS{α:Type}{f:Nat→α→Bool}:∀{l:List α} {i:Nat},sX f i l=true→∀j x,l[j]?=some x→f (i+j) x=true
 |[],_,_,j,x,h=>by simp at h
 |y::r,i,h,j,x,hx=>by
  simp only[sX,am]at h;cases j with
  |zero=>simp only[il,az]at hx;subst hx;exact h.1
  |succ j=>
   have:=pS h.2 j x (by simpa using hx)
   rwa [show i+1+j=i+(j+1) by omega]at this
theorem rq:∀{l:List Nat},yt l=true→l.Nodup
 |[],_=>List.nodup_nil
 |x::r,h=>by
  simp only[yt,am,eM,←Bool.not_eq_true,gH]at h;exact List.nodup_cons.2 ⟨h.1,rq h.2⟩
theorem kO{x:cB×Option Nat}{r:C4}:eN (x::r) 0=x.2:=by simp[eN]
theorem gO{x:cB×Option Nat}{r:C4}{k:Nat}:eN (x::r) (k+1)=eN r k:=by simp[eN]
theorem BF:∀{its:C4} {n m:Nat},On n its=some m→n≤m∧(∀k q,eN its k=some q→n≤q∧q<m)∧(∀k i q p,eN its k=some q→eN its i=some p→k<i→q<p)∧∀q,n≤q→q<m→∃k,eN its k=some q∧k<its.length
 |[],n,m,h=>by
  simp only[On,az]at h;subst h;exact⟨aB _,fun k q h=>by simp[eN]at h,fun k i q p h=>by simp[eN]at h,fun q h1 h2=>by omega⟩
 |(x,none)::r,n,m,h=>by
  simp only[On]at h;obtain⟨h1,h2,h3,h4⟩:=BF h;refine⟨h1,fun k q hk=>?_,fun k i q p hk hi hlt=>?_,fun q hq hm=>?_⟩
  ·cases k with
   |zero=>rw[kO]at hk;cases hk
   |succ k=>rw[gO]at hk;exact h2 k q hk
  ·cases k with
   |zero=>rw[kO]at hk;cases hk
   |succ k=>cases i with
    |zero=>omega
    |succ i=>rw[gO]at hk hi;exact h3 k i q p hk hi (by omega)
  obtain⟨k,k1,k2⟩:=h4 q hq hm;exact⟨k+1,by rw[gO];exact k1,by simpa using k2⟩
 |(x,some y)::r,n,m,h=>by
  simp only[On]at h;split at h
  ·rename_i hy;have hy':y=n:=by simpa using hy
   subst hy';obtain⟨h1,h2,h3,h4⟩:=BF h;refine⟨by omega,fun k q hk=>?_,fun k i q p hk hi hlt=>?_,fun q hq hm=>?_⟩
   ·cases k with
    |zero=>rw[kO]at hk;cases hk;omega
    |succ k=>rw[gO]at hk;have:=h2 k q hk;omega
   ·cases i with
    |zero=>omega
    |succ i=>
     rw[gO]at hi;cases k with
     |zero=>rw[kO]at hk;cases hk;have:=h2 i p hi;omega
     |succ k=>rw[gO]at hk;exact h3 k i q p hk hi (by omega)
   by_cases e:q=y
   ·exact⟨0,by rw[kO,e],by simp⟩
   obtain⟨k,k1,k2⟩:=h4 q (by omega) hm;exact⟨k+1,by rw[gO];exact k1,by simpa using k2⟩
  cases h
theorem Ac{bT:Nat→Bool}{ins:List bC}{chk:List (Nat×Nat)}{its:C4}{k m:Nat}(h:eN its k=some m)(hn:ju bT ins chk m=true):(k,m)∈vL bT ins chk its:=by
 unfold vL;rw[List.mem_filterMap];refine⟨k,eY.2 ?_,?_⟩
 ·unfold eN at h;cases hq:its[k]? with
  |none=>rw[hq]at h;cases h
  |some _=>exact (ak.1 hq).1
 rw[h];simp[hn]
theorem WC{bT:Nat→Bool}{ins:List bC}{chk:List (Nat×Nat)}{its:C4}{km:Nat×Nat}(h:km∈vL bT ins chk its):eN its km.1=some km.2∧ju bT ins chk km.2=true:=by
 unfold vL at h;rw[List.mem_filterMap]at h;obtain⟨k,_,h⟩:=h;split at h
 ·rename_i m hm;split at h
  ·rename_i hn;cases h;exact⟨hm,hn⟩
  cases h
 cases h
theorem K8{b:List Nat}{o:Oper}{k:Nat}(h:(AE b o).testBit k=true):∃e∈o.after,Region.binds .any e=true∧(k=e.on∨(mG b e.on).testBit k=true):=by
 unfold AE at h;have key:∀l:List Edge,(l.foldr (fun e s=>if Region.binds .any e then (s |||2^e.on) |||b.getD e.on 0 else s) 0).testBit k=true→∃e∈l,Region.binds .any e=true∧(k=e.on∨(mG b e.on).testBit k=true):=by
  intro l;induction l with
  |nil=>intro h;simp at h
  |cons e l ih=>
   intro h;simp only[List.foldr_cons]at h;split at h
   ·rename_i hb;simp only[Nat.testBit_or,dI,Nat.testBit_two_pow,aR]at h;rcases h with (h|h)|h
    ·obtain⟨e',h1,h2⟩:=ih h;exact⟨e',bq _ h1,h2⟩
    ·exact⟨e,cQ,hb,.inl h.symm⟩
    exact⟨e,cQ,hb,.inr h⟩
   obtain⟨e',h1,h2⟩:=ih h;exact⟨e',bq _ h1,h2⟩
 obtain⟨e,h1,h2⟩:=key _ h;exact⟨e,by simpa using h1,h2⟩
theorem N6{x i k:Nat}(h:x<2^i)(hk:x.testBit k=true):k<i:=by
 by_cases hlt:k<i
 ·exact hlt
 have:x<2^k:=aN h (Nat.pow_le_pow_right (by omega) (by omega));rw[Nat.testBit_lt_two_pow this]at hk;cases hk
theorem Cq{M:cO}{P:Program}{bT:Nat→Bool}{draw:Bool}{ops:Array Oper}{ins:List bC}{em:List Tmp}{qm:List (Nat×cB)}{chk:List (Nat×Nat)}{nt:Nat}(h:zw M P bT draw ops.toList ins em qm chk nt=true) :
  vv M P bT ops ins em (CO em ops.toList [] 0) (if draw then mG (jm ops.toList []) else C9) chk (AW bT draw ops.toList ins em (CO em ops.toList [] 0) (if draw then mG (jm ops.toList []) else C9) chk (vL bT ins chk (CO em ops.toList [] 0))) nt∧ub ops.toList em (CO em ops.toList [] 0) qm=true∧(draw=true→PU ops (mG (jm ops.toList [])))∧(draw=false→chk=[]):=by
 unfold zw at h;dsimp only at h;simp only[am,aG]at h;obtain⟨⟨⟨⟨⟨⟨⟨⟨h1,h2⟩,h3⟩,h4⟩,h5⟩,h6⟩,h7⟩,h8⟩,h9⟩:=h;generalize hits:CO em ops.toList [] 0=its at *;obtain⟨n1,n2,n3,n4⟩:=BF h4;have hge:∀(i:Nat) (o:Oper),ops[i]?=some o→ops.toList[i]?=some o:=fun i o ho=>by simpa using ho
 have h5':draw=true→sX (fun i x=>decide (x<2^i)) 0 (jm ops.toList [])=true∧(jm ops.toList []).length=ops.size∧sX (fun i o=>AE (jm ops.toList []) o==(jm ops.toList []).getD i 0&&o.after.toList.all fun e=>!Region.binds .any e ||decide (e.on<i)) 0 ops.toList=true:=fun hd=>by
  subst hd;simp only[pp,jK,am,aG]at h5;exact⟨h5.1.1,by simpa using h5.1.2,h5.2⟩
 have low:∀i k,((if draw then mG (jm ops.toList []) else C9) i).testBit k=true→k<i:=fun i k hk=>by
  cases draw with
  |false=>
   have hk':(2^i-1).testBit k=true:=hk;rw[d5]at hk';simpa using hk'
  |true=>
   have hk':((jm ops.toList []).getD i 0).testBit k=true:=hk;obtain⟨a1,a2,_⟩:=h5' rfl;by_cases hi:i<(jm ops.toList []).length
   ·have:=pS a1 i ((jm ops.toList [])[i]) (by simp);simp only[cu,aR]at this;rw[aE,aq hi]at hk';exact N6 this hk'
   rw[aE,eC (by omega)]at hk';simp at hk'
 refine⟨⟨by rw[h1];simp,fun i o d ho hd=>?_,fun i k oi ok d hi hk hdi hdk=>?_,low,fun k i n m hk hi hlt=>n3 k i n m hk hi hlt,fun n hn=>?_,fun k n hk=>(n2 k n hk).2,fun i o ho=>?_,fun d hd=>?_,fun n j I hm hI=>?_⟩,h7,fun hd=>?_,fun hd=>?_⟩
 ·have:=aI.1 h2 o (by rw[jh];exact⟨i,hge i o ho⟩);rw[hd]at this;simpa using this
 ·have hnd:=rq h3;have hp:=List.pairwise_filterMap.1 hnd;have hp':=kN.1 hp;have key:∀(i k:Nat) (oi ok:Oper),ops[i]?=some oi→ops[k]?=some ok→oi.dst=some d→ok.dst=some d→¬i<k:=fun i k oi ok hi hk hdi hdk hlt=>by
   obtain⟨i1,i2⟩:=ak.1 (hge i oi hi);obtain⟨k1,k2⟩:=ak.1 (hge k ok hk);have:=hp' i k i1 k1 hlt d (by rw[i2];exact hdi) d (by rw[k2];exact hdk);exact this rfl
  have a:=key i k oi ok hi hk hdi hdk;have b:=key k i ok oi hk hi hdk hdi;omega
 ·obtain⟨k,k1,k2⟩:=n4 n (cd _) hn;exact⟨k,k1,by rw[h1]at k2;simpa using k2⟩
 ·have hit:=pS h6 i o (hge i o ho);simp only[cu]at hit;unfold VH at hit;split at hit
  ·rename_i hn;exact .inl ⟨hn,hit⟩
  rename_i n hn;split at hit
  ·cases hit
  rename_i I hI;simp only[am,dI,eM]at hit;obtain⟨⟨⟨i1,i2⟩,i3⟩,i4⟩:=hit;refine .inr ⟨n,I,hn,hI,tP i3,i1,i2,?_,?_⟩
  ·intro hnw hlate k m hk hm hw;cases draw with
   |false=>
    show (2^i-1).testBit k=true;rw[d5];simpa using hk
   |true=>
    have i5:Ai bT ins chk (vL bT ins chk its) (mG (jm ops.toList [])) (AW bT true ops.toList ins em its (mG (jm ops.toList [])) chk (vL bT ins chk its)) i n I=true:=by simpa using i4
    unfold Ai at i5;rw[if_pos hnw]at i5;simp only[dI,aG]at i5;have:=aI.1 (i5.resolve_left hlate) (k,m) (Ac hm hw);simp only[dI,aR]at this;rcases this with h|h
    ·omega
    exact h
  intro hnw;cases draw with
  |false=>
   right;refine⟨?_,fun k m hk hw=>?_⟩
   ·by_cases hex:∃k m,eN its k=some m∧ju bT ins chk m=true∧m<n
    ·obtain⟨k,m,e1,e2,e3⟩:=hex;refine .inl ⟨k,m,e1,e2,?_⟩;have hlt:k<i:=by
      rcases fq k i with h|h|h
      ·exact h
      ·subst h;rw[e1]at hn;cases hn;omega
      have:=n3 i k n m hn e1 h;omega
     show (2^i-1).testBit k=true;rw[d5];simpa using hlt
    exact .inr (.inl fun k m e1 e2 e3=>hex ⟨k,m,e1,e2,e3⟩)
   rcases fq k i with h|h|h
   ·
    have hmn:=n3 k i m n hk hn h;by_cases hex:∃k' m',eN its k'=some m'∧ju bT ins chk m'=true∧m<m'∧m' < n
    ·obtain⟨k',m',e1,e2,e3,e4⟩:=hex;refine .inr (.inl ⟨k',m',e1,e2,e3,?_⟩);have hlt:k' < i:=by
      rcases fq k' i with h|h|h
      ·exact h
      ·subst h;rw[e1]at hn;cases hn;omega
      have:=n3 i k' n m' hn e1 h;omega
     show (2^i-1).testBit k'=true;rw[d5];simpa using hlt
    exact .inr (.inr (.inl ⟨hmn,fun k' m' e1 e2 e3 e4=>hex ⟨k',m',e1,e2,e3,e4⟩⟩))
   ·subst h;rw[hk]at hn;cases hn;rw[hw]at hnw;cases hnw
   left;show (2^k-1).testBit i=true;rw[d5];simpa using h
  |true=>
   have i5:Ai bT ins chk (vL bT ins chk its) (mG (jm ops.toList [])) (AW bT true ops.toList ins em its (mG (jm ops.toList [])) chk (vL bT ins chk its)) i n I=true:=by simpa using i4
   unfold Ai at i5;rw[if_neg (by rw[hnw];simp)]at i5;simp only[dI,am,aG]at i5;rcases i5 with h|⟨ha,hb⟩
   ·exact .inl h
   right;refine⟨?_,fun k m hk hw=>?_⟩
   ·rcases ha with (ha|ha)|ha
    ·obtain⟨km,b1,b2⟩:=dJ.1 ha;obtain⟨c1,c2⟩:=WC b1;exact .inl ⟨km.1,km.2,c1,c2,b2⟩
    ·refine .inr (.inl fun k m e1 e2 e3=>?_);have:=aI.1 ha (k,m) (Ac e1 e2);simp only[aR]at this;omega
    exact .inr (.inr (gH.1 ha))
   have:=aI.1 hb (k,m) (Ac hk hw);simp only[dI,am,aR]at this;rcases this with ((h|h)|h)|h
   ·exact .inl h
   ·obtain⟨km,b1,b2⟩:=dJ.1 h;simp only[am,aR]at b2;obtain⟨c1,c2⟩:=WC b1;exact .inr (.inl ⟨km.1,km.2,c1,c2,b2.1,b2.2⟩)
   ·refine .inr (.inr (.inl ⟨h.1,fun k' m' e1 e2 e3 e4=>?_⟩));have:=aI.1 h.2 (k',m') (Ac e1 e2);simp only[dI,aR]at this;omega
   exact .inr (.inr (.inr (gH.1 h)))
 ·
  cases draw with
  |false=>simp[AW]at hd
  |true=>
   simp only[AW,bU]at hd;have hb:=List.find?_some hd;unfold abp at hb;split at hb
   ·cases hb
   rename_i o ho;have ho':ops[d]?=some o:=by simpa using ho
   simp only[am,gL,aG]at hb;obtain⟨⟨⟨b1,b2⟩,b3⟩,b4⟩:=hb;refine⟨b3,?_⟩;split at b4
   ·rename_i t n ht hn;simp only[am]at b4;obtain⟨⟨⟨c1,c2⟩,c3⟩,c4⟩:=b4;split at b1
    ·rename_i T hT;have hbox:∃kk z,ins[n]?=some ⟨.box kk (.val z),none⟩:=by
      unfold aao at c2;split at c2
      ·rename_i kk z hk;exact⟨kk,z,hk⟩
      cases c2
     obtain⟨kk,z,hk⟩:=hbox;have hlen:(jm ops.toList []).length=ops.size:=(h5' rfl).2.1;refine⟨o,T,t,n,kk,z,ho',hT,b2,ht,hn,hk,c1,fun j hj k m hkm hm hlt=>?_,fun j hjs hjd hne=>?_⟩
     ·have hjl:j<ops.size:=by
       rcases Nat.lt_or_ge j ops.size with h|h
       ·exact h
       have hj':((jm ops.toList []).getD j 0).testBit d=true:=hj;rw[aE,eC (by omega)]at hj';simp at hj'
      have:=aI.1 c3 j (eY.2 (by simpa using hjl));have hj':(mG (jm ops.toList []) j).testBit d=true:=hj;simp only[hj',pp,jK]at this;have:=aI.1 this (k,m) (Ac hkm hm);simp only[dI,aR]at this;rcases this with h|h
      ·omega
      exact h
     have:=aI.1 c4 j (eY.2 (by simpa using hjs));simp only[dI,aG,gL]at this;rcases this with (h|h)|h
     ·exact absurd h hjd
     ·exact absurd h hne
     exact h
    cases b1
   cases b4
 ·have:=aI.1 h9 (n,j) hm;simp only[hI]at this;simpa using this
 ·obtain⟨_,a2,a3⟩:=h5' hd;refine⟨fun i o ho e he hb=>?_,fun i o ho k hk=>?_⟩
  ·have:=pS a3 i o (hge i o ho);simp only[cu,am]at this;have:=aI.1 this.2 e (by simpa using he);simpa [hb] using this
  have:=pS a3 i o (hge i o ho);simp only[cu,am,aG]at this;have hk':((jm ops.toList []).getD i 0).testBit k=true:=hk;rw[←this.1]at hk';exact K8 hk'
 subst hd;simpa using h8
end Go.AM
namespace Go.AM
open Go.Lib
theorem Su:0<caseA.size:=aN (show 0<1 by omega) (jd (by kernel_rfl))
structure Jd (g13 g3 g4:Nat) (w:World) (s:Nat→Prop):Prop where
 case:∃R oR cap,w.cell? ⟨g13,0,none⟩=some (.slice (some ⟨R,oR,none⟩) caseA.size cap)∧CaseTab R oR caseA w∧s g13∧s R
 utf:Utf8Tabs g3 g4 w
 s3:s g3
 s4:s g4
theorem Jd.ext{g13 g3 g4:Nat}{w w':World}{s s':Nat→Prop}(h:Jd g13 g3 g4 w s)(hs:∀b,s b→s' b)(hh:∀b,s b→w'.heap[b]?=w.heap[b]?):Jd g13 g3 g4 w' s':=by
 obtain⟨⟨R,oR,cap,h1,h2,h3,h4⟩,⟨u1,u2⟩,s3,s4⟩:=h;have k:∀b,s b→∀o,w'.cell? ⟨b,o,none⟩=w.cell? ⟨b,o,none⟩:=fun b hb o=>nK (hh b hb) o;refine⟨⟨R,oR,cap,by rw[k _ h3];exact h1,fun i hi=>?_,hs _ h3,hs _ h4⟩,⟨fun c hc=>by rw[k _ s3];exact u1 c hc,fun i hi=>?_⟩,hs _ s3,hs _ s4⟩
 ·have:=h2 i hi;simp only[k _ h4];exact this
 rw[k _ s4,k _ s4];exact u2 i hi
def IX(P:Program)(w:World)(s:Nat→Prop):Prop:=
 ∀ g13 g3 g4,P.globalNamed "unicode.CaseRanges" = some g13→P.globalNamed "unicode/utf8.first" = some g3→P.globalNamed "unicode/utf8.acceptRanges" = some g4→Jd g13 g3 g4 w s
theorem M9{P:Program}{w w':World}{s s':Nat→Prop}(h:IX P w s)(hs:∀b,s b→s' b)(hh:∀b,s b→w'.heap[b]?=w.heap[b]?):IX P w' s':=
 fun a b c h1 h2 h3=>(h a b c h1 h2 h3).ext hs hh
end Go.AM
namespace Go.AM
def TH:Go.Code→List Go.Code
 |.seq a b=>[a,b]
 |.cond _ a b=>[a,b]
 |.block _ a=>[a]
 |.loop a=>[a]
 |.scope a=>[a]
 |.rangeFunc _ _ a b=>[a,b]
 |_=>[]
def o7:List Nat→Go.Code→Option Go.Code
 |[],c=>some c
 |i::r,c=>((TH c)[i]?).bind (o7 r)
theorem Cl{i:Nat}:∀{p:List Nat} {c:Go.Code},o7 (p++[i]) c=(o7 p c).bind fun d=>(TH d)[i]?
 |[],c=>by
  simp only[bN,o7,dk];cases (TH c)[i]?<;>rfl
 |j::p,c=>by
  simp only[bV,o7];cases (TH c)[j]? with
  |none=>rfl
  |some d=>exact Cl
def ry:av→av
 |.lift _ _ _ x=>ry x
 |x=>x
structure rv where
 f:Nat
 path:List Nat
 em:List Tmp
def cO.of(P:Program)(fm:Nat→FuncId)(glob:Nat→Option ap)(sites:Nat→Option rv):cO where
 fm:=fm
 glob:=glob
 tabs:=IX P
 tabs_ext:=fun _ _ _ _ h=>M9 h
 site:=fun s rec em=>∃d fn code g,sites s=some d∧P.funcs[fm d.f]?=some fn∧fn.body=some code∧o7 d.path code=some (.rangeFunc g rec.params rec.assign rec.body)∧em=d.em∧fn.ntmps≤rec.tmps.size
def Kq(em:List Tmp)(nt it ok:Nat):Go.Code→Bool
 |.region _ ops false=>(match ops.toList with
  |[o1,o2]=>(match o1.op,o1.dst,o2.op,o2.dst with
   |.next (.tmp t) false,some t1,.extract (.tmp t1') 0,some t2=>o1.guard.isNone&&o2.guard.isNone&&(t1:Nat)==t1'&&(match em[it]? with
    |some t'=>(t':Nat)==t
    |none=>false)&&(match em[ok]? with
    |some t'=>(t':Nat)==t2
    |none=>false)&&yt em&&em.all (fun t'=>!((t':Nat)==t1))&&decide ((t1:Nat)<nt)&&decide ((t2:Nat)<nt)
   |_,_,_,_=>false)
  |_=>false)
 |_=>false
theorem PF{em:List Tmp}{nt it ok:Nat}{c:Go.Code}(h:Kq em nt it ok c=true):∃rid o1 o2 t t1 t2,c=.region rid #[o1,o2] false∧o1.op=.next (.tmp t) false∧o1.dst=some t1∧o1.guard=none∧o2.op=.extract (.tmp t1) 0∧o2.dst=some t2∧o2.guard=none ∧
  em[it]?=some t∧em[ok]?=some t2∧em.Nodup∧t1∉em∧t1<nt∧t2<nt:=by
 unfold Kq at h;split at h
 ·rename_i rid ops;split at h
  ·rename_i o1 o2 hl;have hl:ops=#[o1,o2]:=by
    apply mw.1;simpa using hl
   subst hl;split at h
   ·rename_i t t1 t1' t2 e1 d1 e2 d2;simp only[am,aR,aG]at h;obtain⟨⟨⟨⟨⟨⟨⟨⟨g1,g2⟩,e3⟩,h1⟩,h2⟩,h3⟩,h4⟩,h5⟩,h6⟩:=h;subst e3;refine⟨rid,o1,o2,t,t1,t2,rfl,e1,d1,by simpa using g1,e2,d2,by simpa using g2,?_,?_,rq h3,fun hm=>?_,h5,h6⟩
    ·split at h1
     ·rename_i t' ht;rw[ht,eq_of_beq h1]
     cases h1
    ·split at h2
     ·rename_i t' ht;rw[ht,eq_of_beq h2]
     cases h2
    have:=aI.1 h4 _ hm;simp at this
   cases h
  cases h
 cases h
section
variable (M:cO) (P:Program) (bT:Nat→Bool) (em:List Tmp) (nt:Nat) (top:Bool) (siteB:Nat→List Nat→Bool)
def dZ:Go.Code→List Nat→av→Bool
 |.region _ ops draw,_,x=>(match x with
  |.reg ins os=>zw M P bT draw ops.toList ins em os [] nt
  |.regd ins os chk=>draw&&zw M P bT draw ops.toList ins em os chk nt
  |_=>false)
 |.seq a b,path,x=>if Cu b then dZ a (path++[0]) (ry x) else if Cu a then dZ b (path++[1]) (ry x) else (match x with
  |.seq y z=>dZ a (path++[0]) (ry y)&&dZ b (path++[1]) (ry z)
  |_=>false)
 |.cond t a b,path,x=>(match x with
  |.cond t' y z=>jv M (t7 em) t t'&&dZ a (path++[0]) (ry y)&&dZ b (path++[1]) (ry z)
  |_=>false)
 |.block id a,path,x=>(match x with
  |.blk id' y=>id==id'&&dZ a (path++[0]) (ry y)
  |_=>false)
 |.loop a,path,x=>(match x with
  |.loop _ y=>dZ a (path++[0]) (ry y)
  |.mloop _ it ok y=>(match a with
   |.seq r rest=>Kq em nt it ok r&&dZ rest (path++[0]++[1]) (ry y)
   |_=>false)
  |_=>false)
 |.scope a,path,x=>(match x with
  |.scope y=>dZ a (path++[0]) (ry y)
  |_=>false)
 |.rangeFunc g _ _ _,path,x=>(match x with
  |.rng n f site=>top&&jv M (t7 em) g f&&yt em&&em.all (fun t=>decide (t<nt))&&n==em.length&&siteB site path
  |_=>false)
 |.exit id,_,x=>(match x with
  |.exit id'=>id==id'
  |_=>false)
 |.ret,_,x=>(match x with
  |.ret=>true
  |_=>false)
 |c,_,x=>(match x with
  |.skip=>Cu c
  |_=>false)
end
theorem iX{M:cO}{P:Program}{bT:Nat→Bool}{em:List Tmp}{nt:Nat}{top:Bool}{c:Go.Code}:∀{x:av},fd M P bT em nt top c (ry x)→fd M P bT em nt top c x
 |.lift _ _ _ x,h=>.lift (iX (x:=x) h)
 |.skip,h=>h
 |.reg ..,h=>h
 |.regd ..,h=>h
 |.seq ..,h=>h
 |.cond ..,h=>h
 |.blk ..,h=>h
 |.loop ..,h=>h
 |.mloop ..,h=>h
 |.exit _,h=>h
 |.ret,h=>h
 |.rng ..,h=>h
 |.scope _,h=>h
theorem uk{M:cO}{P:Program}{bT:Nat→Bool}{em:List Tmp}{nt:Nat}{top:Bool}{siteB:Nat→List Nat→Bool}{root:Go.Code}
  (hsite:∀site path g ps assign body,siteB site path=true→o7 path root=some (.rangeFunc g ps assign body)→∀fn tmps defers,nt≤tmps.size→M.site site ⟨fn,tmps,ps,assign,body,defers⟩ em) :
  ∀(c:Go.Code) (path:List Nat) (x:av),o7 path root=some c→dZ M P bT em nt top siteB c path x=true→fd M P bT em nt top c x:=by
 have kid:∀{path:List Nat} {c d:Go.Code} {i:Nat},o7 path root=some c→(TH c)[i]?=some d→o7 (path++[i]) root=some d:=fun h1 h2=>by
  rw[Cl,h1];exact h2
 have main:∀c:Go.Code,(∀(path:List Nat) (x:av),o7 path root=some c→dZ M P bT em nt top siteB c path x=true→fd M P bT em nt top c x) ∧
   ∀r rest,c=.seq r rest→∀(path:List Nat) (x:av),o7 path root=some rest→dZ M P bT em nt top siteB rest path x=true→fd M P bT em nt top rest x:=by
  intro c;induction c with
  |region id ops draw=>
  refine⟨?_,fun r rest e=>by cases e⟩;intro path x hp h;simp only[dZ]at h;split at h
  ·obtain⟨h1,h2,h3,h4⟩:=Cq h;cases draw with
   |false=>exact .text h1 h2
   |true=>exact .any h1 (h3 rfl) h2
  ·simp only[am]at h;obtain⟨hd,h⟩:=h;subst hd;obtain⟨h1,h2,h3,h4⟩:=Cq h;exact .anyd h1 (h3 rfl) h2
  ·cases h
  |seq a b iha ihb=>
  refine⟨?_,fun r rest e=>by cases e;exact ihb.1⟩;intro path x hp h;simp only[dZ]at h;split at h
  ·rename_i hn;exact .left hn (iX (iha.1 _ _ (kid hp rfl) h))
  ·split at h
   ·rename_i hn;exact .right hn (iX (ihb.1 _ _ (kid hp rfl) h))
   split at h
   ·simp only[am]at h;exact .seq (iX (iha.1 _ _ (kid hp rfl) h.1)) (iX (ihb.1 _ _ (kid hp rfl) h.2))
   cases h
  |cond t a b iha ihb=>
  refine⟨?_,fun r rest e=>by cases e⟩;intro path x hp h;simp only[dZ]at h;split at h
  ·simp only[am]at h;exact .cond h.1.1 (iX (iha.1 _ _ (kid hp rfl) h.1.2)) (iX (ihb.1 _ _ (kid hp rfl) h.2))
  ·cases h
  |block id a ih=>
  refine⟨?_,fun r rest e=>by cases e⟩;intro path x hp h;simp only[dZ]at h;split at h
  ·simp only[am,aG]at h;rw[h.1];exact .blk (iX (ih.1 _ _ (kid hp rfl) h.2))
  ·cases h
  |loop a ih=>
  refine⟨?_,fun r rest e=>by cases e⟩;intro path x hp h;rw[dZ.eq_def]at h;dsimp only at h;split at h
  ·exact .loop (iX (ih.1 _ _ (kid hp rfl) h))
  ·split at h
   ·rename_i r rest;simp only[am]at h;obtain⟨rid,o1,o2,t,t1,t2,e0,e1,d1,g1,e2,d2,g2,q1,q2,q3,q4,q5,q6⟩:=PF h.1;subst e0;exact .mloop e1 d1 g1 e2 d2 g2 q1 q2 q3 q4 q5 q6 (iX (ih.2 _ _ rfl _ _ (kid (kid hp rfl) rfl) h.2))
   cases h
  ·cases h
  |scope a ih=>
  refine⟨?_,fun r rest e=>by cases e⟩;intro path x hp h;simp only[dZ]at h;split at h
  ·exact .scope (iX (ih.1 _ _ (kid hp rfl) h))
  ·cases h
  |rangeFunc g ps assign body=>
  refine⟨?_,fun r rest e=>by cases e⟩;intro path x hp h;simp only[dZ]at h;split at h
  ·simp only[am,aG]at h;obtain⟨⟨⟨⟨⟨h1,h2⟩,h3⟩,h4⟩,h5⟩,h6⟩:=h;exact .rng h1 h2 (rq h3) (fun t ht=>by simpa using aI.1 h4 t ht) h5 (hsite _ _ _ _ _ _ h6 hp)
  ·cases h
  |exit id=>
  refine⟨?_,fun r rest e=>by cases e⟩;intro path x hp h;simp only[dZ]at h;split at h
  ·rw[aG]at h;rw[h];exact .exit
  ·cases h
  |ret=>
  refine⟨?_,fun r rest e=>by cases e⟩;intro path x hp h;simp only[dZ]at h;split at h
  ·exact .ret
  ·cases h
  |skip=>
  refine⟨?_,fun r rest e=>by cases e⟩;intro path x hp h;simp only[dZ]at h;split at h
  ·exact .nop h
  ·cases h
  |_=>
  refine⟨?_,fun r rest e=>by cases e⟩;intro path x hp h;simp only[dZ]at h;split at h
  ·exact .nop h
  cases h
 exact fun c=>(main c).1
def ul:List Nat→List Nat→Bool
 |[],[]=>true
 |a::x,b::y=>a==b&&ul x y
 |_,_=>false
theorem tY:∀{a b:List Nat},ul a b=true→a=b
 |[],[],_=>rfl
 |[],_::_,h=>by simp[ul]at h
 |_::_,[],h=>by simp[ul]at h
 |a::x,b::y,h=>by
  simp only[ul,am,aG]at h;rw[h.1,tY h.2]
def Us(sites:Nat→Option rv)(f:Nat)(em:List Tmp)(s:Nat)(path:List Nat):Bool:=match sites s with
 |some d=>d.f==f&&ul d.path path&&ul d.em em
 |none=>false
section
variable (P:Program) (fm:Nat→FuncId) (glob:Nat→Option ap) (sites:Nat→Option rv) (bT:Nat→Bool)
def Da(f:Nat)(em:List Tmp)(g:aM):Bool:=match P.funcs[fm f]? with
 | some fn=>!(fn.name == "runtime.NumGoroutine")&&(match fn.body with
  |some code=>dZ (cO.of P fm glob sites) P bT em fn.ntmps true (Us sites f em) code [] (ry g.body)
  |none=>false)&&ul (em.take g.np) (List.range g.np)&&decide (g.np≤em.length)&&g.res.length==fn.results.toList.length&&((g.res.zip fn.results.toList).all fun p=>G9 P em p.1 p.2)&&g.mode.ok
 |none=>false
def BR(s:Nat)(g:wM):Bool:=match sites s with
 |some d=>(match P.funcs[fm d.f]? with
  |some fn=>(match fn.body with
   |some code=>(match o7 d.path code with
    |some (.rangeFunc _ ps assign body)=>g.nenv==d.em.length&&dZ (cO.of P fm glob sites) P bT d.em fn.ntmps false (fun _ _=>false) assign [] (ry g.pre)&&ul (g.params.map fun i=>d.em.getD i 0) ps.toList&&(g.params.all fun i=>decide (i<d.em.length))&&yt d.em &&
      dZ (cO.of P fm glob sites) P bT d.em fn.ntmps false (fun _ _=>false) body [] (ry g.body)
    |_=>false)
   |none=>false)
  |none=>false)
 |none=>false
end
theorem FW{P:Program}{fm:Nat→FuncId}{glob:Nat→Option ap}{sites:Nat→Option rv}{bT:Nat→Bool}{f:Nat}{em:List Tmp}{g:aM}(h:Da P fm glob sites bT f em g=true) :
  YD (cO.of P fm glob sites) P bT f g:=by
 unfold Da at h;split at h
 ·rename_i fn hfn;simp only[am,eM,aG,aR]at h;obtain⟨⟨⟨⟨⟨⟨h1,h2⟩,h3⟩,h4⟩,h5⟩,h6⟩,h7⟩:=h;split at h2
  ·rename_i code hc;refine⟨fn,code,em,hfn,h1,hc,?_,tY h3,h4,h5,h6,h7⟩;refine iX (uk (root:=code) (fun site path g ps assign body hs hp fn' tmps defers hsz=>?_) code [] _ rfl h2);unfold Us at hs;split at hs
   ·rename_i d hd;simp only[am,aG]at hs;obtain⟨⟨s1,s2⟩,s3⟩:=hs;refine⟨d,fn,code,g,hd,by rw[s1];exact hfn,hc,by rw[tY s2];exact hp,(tY s3).symm,hsz⟩
   cases hs
  cases h2
 cases h
theorem KD{P:Program}{fm:Nat→FuncId}{glob:Nat→Option ap}{sites:Nat→Option rv}{bT:Nat→Bool}{s:Nat}{g:wM}(h:BR P fm glob sites bT s g=true){rec:kB}{em:List Tmp}(hs:(cO.of P fm glob sites).site s rec em) :
  zQ (cO.of P fm glob sites) P bT g rec em:=by
 obtain⟨d,fn,code,q,h1,h2,h3,h4,rfl,h6⟩:=hs;unfold BR at h;rw[h1]at h;simp only[h2,h3,h4,am,aG]at h;obtain⟨⟨⟨⟨⟨k1,k2⟩,k3⟩,k4⟩,k5⟩,k6⟩:=h;refine⟨fn.ntmps,k1,h6,iX (uk (root:=rec.assign) (fun site path g ps assign body hs=>by cases hs) _ [] _ rfl k2),?_,rq k5,?_⟩
 ·rw[←tY k3,bD];refine aU fun i hi=>?_;have hlt:i<d.em.length:=by simpa using aI.1 k4 i hi
  simp[hlt]
 exact iX (uk (root:=rec.body) (fun site path g ps assign body hs=>by cases hs) _ [] _ rfl k6)
end Go.AM
namespace Go.AM
def jy(le:ap→ap→Bool)(x:ap):List ap→List ap
 |[]=>[x]
 |y::r=>if le x y then x::y::r else y::jy le x r
def lC(le:ap→ap→Bool):List ap→List ap
 |[]=>[]
 |x::r=>jy le x (lC le r)
theorem uT{le:ap→ap→Bool}{x z:ap}:∀{l:List ap},z∈jy le x l↔z=x∨z∈l
 |[]=>by simp[jy]
 |y::r=>by
  simp only[jy];split
  ·simp
  simp only[d4,uT (l:=r)];constructor
  ·rintro (h|h|h)<;>simp[h]
  rintro (h|h|h)<;>simp[h]
theorem rZ{le:ap→ap→Bool}{z:ap}:∀{l:List ap},z∈lC le l↔z∈l
 |[]=>by simp[lC]
 |x::r=>by simp[lC,uT,rZ (l:=r)]
def LX:List ap→Option (List Int)
 |[]=>some []
 |.int .i64 n::r=>(LX r).map (n::·)
 |_=>none
def pW:ap→ap→Bool
 |.int _ a,.int _ b=>decide (a≤b)
 |_,_=>true
def wF(args:List ap)(σ:aw):Option (ap×aw):=
 match args with
 |[.ai]=>some (.any,σ)
 |[.sl id ep off n]=>match σ[id]? with
  |some (.arr k e es)=>
   if e=ep∧off+n≤es.length∧n≤aV∧(LX ((es.drop off).take n)).isSome then
    some (.any,σ.set id (.arr k e (es.take off++lC pW ((es.drop off).take n)++es.drop (off+n))))
   else none
  |_=>none
 |_=>none
def UD(args:List ap)(σ:aw):Option (ap×aw):=
 match args with
 |[.int .u64 x,.int .u64 y,.int .u64 c]=>
  if 0≤x∧x<18446744073709551616∧0≤y∧y<18446744073709551616∧0≤c∧c≤1 then
   some (.tup [.int .u64 ((x+y+c)%18446744073709551616),.int .u64 ((x+y+c)/18446744073709551616)],σ)
  else none
 |_=>none
def wY(args:List ap)(σ:aw):Option (ap×aw):=
 match args with
 |[.str s]=>if s.length<35184372088832 then some (.str (if s.all (fun b=>decide (b.toNat < 128))=true then Lib.toUpperA s else Lib.toUpperD s),σ) else none
 |_=>none
def A1(args:List ap)(σ:aw):Option (ap×aw):=
 match args with
 |[.str a,.str b]=>some (.int .i64 (if Op.bytesLess a b then -1 else if a==b then 0 else 1),σ)
 |_=>none
def indexByte(args:List ap)(σ:aw):Option (ap×aw):=
 match args with
 |[.str s,.int .u8 c]=>some (.int .i64 (Lib.indexByte s c.toNat.toUInt8),σ)
 |_=>none
def C6(args:List ap)(σ:aw):Option (ap×aw):=
 match args with
 |[.str (b::s)]=>if b.toNat < 128∧(b.toNat < 48∨57<b.toNat) then some (.tup [.int .u64 0,.bool false],σ) else if b::s=[49] then some (.tup [.int .u64 1,.bool true],σ) else none
 |_=>none
def prims:Nat→adi
 |0=>fun _=>UD
 |2=>fun _=>wF
 |3=>fun _=>A1
 |4=>fun _=>wY
 |6=>fun _=>indexByte
 |8=>fun _=>C6
 |_=>fun _ _ _=>none
theorem NY(k:Nat)(C D:gl)(args:List ap)(σ:aw)(r:ap×aw)(h:Sz C D)(hr:prims k C args σ=some r):prims k D args σ=some r:=by
 unfold prims at hr ⊢;split at hr
 ·exact hr
 ·exact hr
 ·exact hr
 ·exact hr
 ·exact hr
 ·exact hr
 cases hr
end Go.AM
namespace Go.AM
open Go.Proofs Go.Sort Go.Shelf
variable {M:cO} {P:Program} {w w':World} {c c1:cJ} {σ τ:aw}
theorem Zh{F:Fence}(h:qk F):∃r,F={ Fence.wide with round:=r }:=by
 obtain⟨fn,depth,alive,round⟩:=F;obtain⟨h1,h2,h3⟩:=h;dsimp only at h1 h2 h3;subst h2 h3;have:fn=fun _=>True:=funext fun f=>propext ⟨fun _=>trivial,fun _=>h1 f⟩;subst this;exact⟨round,rfl⟩
theorem uP{F:Fence}(h:qk F){n:Nat}{f:FuncId}{args:Array Value}{R:Ending→World→Prop}:CallsIn F n P f args w R↔Calls P f args w R:=by
 obtain⟨r,rfl⟩:=Zh h;exact callsIn_wide (n:=n)
theorem HM:qk Fence.wide:=⟨fun _=>trivial,rfl,rfl⟩
theorem xM{le:ap→ap→Bool}{x:ap}:∀{l:List ap},(jy le x l).Perm (x::l)
 |[]=>.refl _
 |y::r=>by
  simp only[jy];split
  ·exact .refl _
  exact (List.Perm.cons y xM).trans (List.Perm.swap x y r)
theorem CM{le:ap→ap→Bool}:∀{l:List ap},(lC le l).Perm l
 |[]=>.refl _
 |x::r=>xM.trans (List.Perm.cons x CM)
theorem vA{le:ap→ap→Bool}{x:ap}:∀{l:List ap},(∀y∈l,le x y=true∨le y x=true)→(∀y∈l,∀z∈l,le x y=true→le y z=true→le x z=true)→l.Pairwise (fun a b=>le a b=true)→(jy le x l).Pairwise (fun a b=>le a b=true)
 |[],_,_,_=>by simp[jy]
 |y::r,ht,htr,hp=>by
  simp only[jy];obtain⟨h1,h2⟩:=kS.1 hp;split
  ·rename_i hxy;refine kS.2 ⟨fun z hz=>?_,hp⟩;rcases d4.1 hz with rfl|hz
   ·exact hxy
   exact htr y cQ z (bq _ hz) hxy (h1 z hz)
  rename_i hxy;refine kS.2 ⟨fun z hz=>?_,vA (fun z hz=>ht z (bq _ hz)) (fun a ha b hb=>htr a (bq _ ha) b (bq _ hb)) h2⟩;rcases uT.1 hz with rfl|hz
  ·exact (ht y cQ).resolve_left hxy
  exact h1 z hz
theorem yc{le:ap→ap→Bool}:∀{l:List ap},(∀x∈l,∀y∈l,le x y=true∨le y x=true)→(∀x∈l,∀y∈l,∀z∈l,le x y=true→le y z=true→le x z=true)→(lC le l).Pairwise (fun a b=>le a b=true)
 |[],_,_=>List.Pairwise.nil
 |x::r,ht,htr=>by
  refine vA (fun y hy=>ht x cQ y (bq _ (rZ.1 hy))) (fun y hy z hz=>htr x cQ y (bq _ (rZ.1 hy)) z (bq _ (rZ.1 hz))) ?_;exact yc (fun a ha b hb=>ht a (bq _ ha) b (bq _ hb)) fun a ha b hb c hc=>htr a (bq _ ha) b (bq _ hb) c (bq _ hc)
theorem Wm(hs:ek M w c σ){id e blk off n:Nat}{es mid':List ap}(ho:σ[id]?=some (.arr 1 e es))(hb:c.place id=some blk){cs cs':Array Value}{T:TypeId}{Fv:Nat→Nat→Value}(hcs:w.heap[blk]?=some (.cells cs T (0,0)))
  (hz0:es.length*1≤cs.size) (hroom:c.room id=cs.size) (hF:∀i j,i<es.length→j<1→cs[i*1+j]?=some (Fv i j)∧(Fv i j).oneCell'=true) (hR:∀i (hi:i<es.length) j (hj:j<(cellsOf es[i]).length),R M w c (cellsOf es[i])[j] (Fv i j))
  (hall:∀x∈es,aC x=1) (hfit:off+n≤es.length) (hn:mid'.length=n) (hall':∀x∈mid',aC x=1∧isAgg x=false) (g:Nat→Value) (hg:∀i,i<n→(g i).oneCell'=true) (hgR:∀i (h:i<mid'.length),R M w c mid'[i] (g i))
  (hw:w'.heap[blk]?=some (.cells cs' T (0,0))) (hcz:cs'.size=cs.size) (hc':∀k,cs'[k]?=if off≤k∧k<off+n then some (g (k-off)) else cs[k]?) (hrest:∀b,b<w.heap.size→b≠blk→w'.heap[b]?=w.heap[b]?) (hsz:w.heap.size≤w'.heap.size) (hsame:Same w w') :
  ek M w' c (σ.set id (.arr 1 e (es.take off++mid'++es.drop (off+n))))∧gG c w c w':=by
 have hlive:c.H id≠.dead:=by rw[hs.H,dV ho];simp
 have hbl:blk<w.heap.size:=(bd.1 hcs).1;have hset:rF w { w with heap:=w.heap.setIfInBounds blk (.cells cs' T (0,0)) } blk (.cells cs' T (0,0)):=⟨⟨rfl,rfl,rfl,aB _⟩,rfl⟩;have hlen:(es.take off++mid'++es.drop (off+n)).length=es.length:=by simp[hn];omega
 have at_:∀i (hi:i<(es.take off++mid'++es.drop (off+n)).length),(off≤i∧i<off+n∧∃h:i-off<mid'.length,(es.take off++mid'++es.drop (off+n))[i]=mid'[i-off]) ∨
   (¬(off≤i∧i<off+n)∧∃h:i<es.length,(es.take off++mid'++es.drop (off+n))[i]=es[i]):=fun i hi=>by
  by_cases h1:i<off
  ·right;refine⟨by omega,by omega,?_⟩;rw[bH (by simp[hn];omega),bH (by simp;omega)];simp
  by_cases h2:i<off+n
  ·left;refine⟨by omega,h2,by omega,?_⟩;rw[bH (by simp[hn];omega),ct (by simp;omega)];congr 1;simp;omega
  right;refine⟨by omega,by omega,?_⟩;rw[ct (by simp[hn];omega)];simp only[dY];congr 1;simp[hn];omega
 obtain⟨s1,st1⟩:=hs.setRow (es':=es.take off++mid'++es.drop (off+n)) ho hb hcs hset hcz hroom (by simp) (fun x hx=>by
   rcases cq.1 hx with hx|hx
   ·rcases cq.1 hx with hx|hx
    ·exact hall x (cN hx)
    exact (hall' x hx).1
   exact hall x (dC hx)) (by rw[hlen];exact hz0) (fun i j=>if off≤i∧i<off+n then g (i-off) else Fv i j)
  (fun i j hi hj=>by
   have hj0:j=0:=by omega
   subst hj0;rw[hc'];rw[hlen]at hi;simp only[im,eF];split
   ·exact⟨rfl,hg _ (by omega)⟩
   have:=hF i 0 hi (by omega);simpa using this)
  (fun i hi j hj=>by
   rcases at_ i hi with⟨h1,h2,h3,h4⟩|⟨h1,h2,h3⟩
   ·simp only[h4]at hj ⊢;rw[if_pos ⟨h1,h2⟩];have hna:=(hall' _ (aO h3)).2;have hcell:cellsOf mid'[i-off]=[mid'[i-off]]:=by
     cases hm:mid'[i-off]<;>first|rfl|(rw[hm]at hna;cases hna)
    simp only[hcell]at hj ⊢;have hj0:j=0:=by simpa using hj
    subst hj0;exact hgR _ h3
   simp only[h3]at hj ⊢;rw[if_neg h1];exact hR i h2 j hj)
 obtain⟨s2,x2⟩:=s1.over (w':=w') (fun b hbz hbb=>by
   rw[hset.get b hbl];split
   ·rename_i e1;rw[e1];exact hw
   rename_i hne;rw[hset.size]at hbz;exact hrest b hbz hne) (by rw[hset.size];exact hsz)
 refine⟨s2,{ Ext.trans st1.toExt x2 with same:=hsame,size:=hsz,frame:=fun b hbz hbn=>hrest b hbz (fun e=>hbn id hlive (e▸hb)),liv:=fun i b h1 h2 _=>⟨i,h1,h2⟩,old:=fun _ h _=>.inl h,oldb:=fun _ h _=>.inl h }⟩
theorem Gj{α:Type}[Inhabited α]{enc:α→Value}{blk off m:Nat}{d:Array α}{os:Array Go.Obj}{cs:Array Value}{T:TypeId}(hcs:w.heap[blk]?=some (.cells cs T (0,0))) :
  (grow (putRow enc (Sort.ahead w m) blk off d) os).heap[blk]?=some (.cells (putCells enc off d cs) T (0,0))∧(∀b,b<w.heap.size→b≠blk→(grow (putRow enc (Sort.ahead w m) blk off d) os).heap[b]?=w.heap[b]?) ∧
   w.heap.size≤(grow (putRow enc (Sort.ahead w m) blk off d) os).heap.size∧Same w (grow (putRow enc (Sort.ahead w m) blk off d) os):=by
 have hbl:blk<w.heap.size:=(bd.1 hcs).1;have hh:(grow (putRow enc (Sort.ahead w m) blk off d) os).heap=w.heap.modify blk (onCells (putCells enc off d))++os:=rfl;refine⟨?_,fun b hb hne=>?_,?_,⟨rfl,rfl,rfl,aB _⟩⟩
 ·rw[hh,dN (by simpa using hbl),fH,if_pos rfl,hcs];rfl
 ·rw[hh,dN (by simpa using hb),fH,if_neg (fun e=>hne e.symm)]
 rw[hh];simp
theorem IM{α:Type}[Inhabited α]{enc:α→Value}{off k:Nat}{d:Array α}{cs:Array Value}(hfit:off+d.size≤cs.size):(putCells enc off d cs)[k]?=if off≤k∧k<off+d.size then some (enc d[k-off]!) else cs[k]?:=by
 unfold putCells;rw[Array.getElem?_mapIdx];by_cases h:off≤k∧k<off+d.size
 ·rw[if_pos h,bW (by omega)];simp[h]
 rw[if_neg h];cases cs[k]? with
 |none=>rfl
 |some x=>simp[h]
theorem V5{id:Nat}{o:Obj}(h:σ[id]?=some o):σ.set id o=σ:=by
 apply fp;intro i;rw[dc];split
 ·rename_i e;subst e;rw[if_pos (ak.1 h).1,h]
 rfl
end Go.AM
namespace Go.AM
def XX(P:Program)(fm:Nat→FuncId)(glob:Nat→Option ap)(sites:Nat→Option rv)(bT:Nat→Bool)(em:Nat→List Tmp)(n:Nat):jq→Bool
 |.fn g=>Da P fm glob sites bT n (em n) g
 |.nilfn g=>Da P fm glob sites bT n (em n) g
 |.round g=>BR P fm glob sites bT n g
 |_=>true
def UU(f:Nat→jq→Bool):Nat→List jq→Prop
 |_,[]=>True
 |i,x::r=>f i x=true∧UU f (i+1) r
theorem zP{f:Nat→jq→Bool}:∀{l:List jq} {i:Nat},UU f i l→∀j x,l[j]?=some x→f (i+j) x=true
 |[],_,_,j,x,h=>by simp at h
 |y::r,i,h,j,x,hx=>by
  cases j with
  |zero=>simp only[il,az]at hx;subst hx;exact h.1
  |succ j=>
   have:=zP h.2 j x (by simpa using hx)
   rwa [show i+1+j=i+(j+1) by omega]at this
theorem getD_some{l:List jq}{n:Nat}{e:jq}(h:l.getD n .none=e)(he:e≠.none):l[n]?=some e:=by
 rw[aE]at h;cases hq:l[n]? with
 |none=>rw[hq]at h;exact absurd h.symm he
 |some x=>rw[hq]at h;simp at h;rw[h]
def uo(tbl:List jq)(n:Nat):Bool:=match tbl.getD n .none with
 |.fn g=>g.mode.lends
 |.nilfn g=>g.mode.lends
 |.prim k=>k==0 ||k==3
 |_=>false
def yS(tbl:List jq):Code:=⟨fun n=>tbl.getD n .none,prims⟩
theorem LJ{args:List ap}{σ σ':aw}{v:ap}(h:UD args σ=some (v,σ')):σ'=σ:=by
 unfold UD at h;split at h
 ·split at h
  ·cases h;rfl
  cases h
 cases h
theorem C0{args:List ap}{σ σ':aw}{v:ap}(h:A1 args σ=some (v,σ')):σ'=σ:=by
 unfold A1 at h;split at h
 ·cases h;rfl
 cases h
theorem Yd{P:Program}{fm:Nat→FuncId}{glob:Nat→Option ap}{sites:Nat→Option rv}{em:Nat→List Tmp}{tbl:List jq}(hm:P.follows .mixedOrders=true)
  (hall:UU (XX P fm glob sites (uo tbl) em) 0 tbl) (hs:∀s d,sites s=some d→∃g,tbl.getD s .none=.round g)
  (hp:∀f k,tbl.getD f .none=.prim k→yw (cO.of P fm glob sites) P f (prims k)):wa (cO.of P fm glob sites) P (uo tbl) (yS tbl) where
 mixed:=hm
 fns:=fun f g h=>by
  have:=zP hall f _ (getD_some h (by simp));rw[cu]at this;exact FW this
 nilfns:=fun f g h=>by
  have:=zP hall f _ (getD_some h (by simp));rw[cu]at this;exact FW this
 prims:=hp
 sites:=fun s rec em' h=>by
  have h0:=h;obtain⟨d,_,_,_,hd,_⟩:=h0;obtain⟨g,hg⟩:=hs s d hd;refine⟨g,hg,?_⟩;have:=zP hall s _ (getD_some hg (by simp));rw[cu]at this;exact KD this h
 keeps:=fun f h=>by
  unfold uo at h;split at h
  ·rename_i g hg;exact .inl ⟨g,.inl hg,h⟩
  ·rename_i g hg;exact .inl ⟨g,.inr hg,h⟩
  ·rename_i k hk;refine .inr ⟨k,hk,fun C args σ v σ' hr=>?_⟩;simp only[dI,aG]at h;rcases h with rfl|rfl
   ·exact LJ hr
   exact C0 hr
  cases h
def cJ.start(w:World)(gs:Nat→Prop)(lp:kB):cJ:={ sld:=fun b=>gs b∧b<w.heap.size,bor:=fun b=>b<w.heap.size,H:=hd [],N:=0,place:=fun _=>none,room:=fun _=>0,loops:=fun _=>lp }
theorem SM{M:cO}{w:World}{gs:Nat→Prop}{lp:kB}:ek M w (cJ.start w gs lp) []:=
 ⟨rfl,rfl,fun _ h=>h.2,fun _ h=>h,fun id b h=>absurd (by rfl) h,fun i j b h=>absurd (by rfl) h,fun id o h=>by cases h⟩
theorem Sb{P:Program}{fm:Nat→FuncId}{glob:Nat→Option ap}{sites:Nat→Option rv}{tbl:List jq}(hc:wa (cO.of P fm glob sites) P (uo tbl) (yS tbl)){n f:Nat}{args:List ap}{v:ap}{σ':aw}
  (hrun:dG (yS tbl) n f args []=some (v,σ')) (hf:∃a∈args,wC a=false) {w:World} {gs:Nat→Prop} {lp:kB} {cargs:Array Value} (hg:iR (cO.of P fm glob sites) w (cJ.start w gs lp)) (ha:jZ (cO.of P fm glob sites) w (cJ.start w gs lp) args cargs) :
  Calls P (fm f) cargs w fun e w'=>∃cv c',e=.returned cv∧RF (cO.of P fm glob sites) w.heap.size w' c' v cv∧Same w w'∧w.heap.size≤w'.heap.size∧∀b,b<w.heap.size→w'.heap[b]?=w.heap[b]?:=by
 have h:=(Cs hc n).1 f args [] v σ' hrun Fence.wide 0 w _ cargs HM SM hg ha;have he:=h.2 hf cargs w;rcases h.1 with⟨_,hin⟩|⟨cv,w',hv,_⟩
 ·rw[uP HM]at hin;refine hin.mono fun e w' hx=>?_;obtain⟨cv,rfl,c',s',st,hr⟩:=hx;exact⟨cv,c',rfl,hr,st.same,st.size,fun b hb=>st.frame b hb fun id hl=>absurd (by rfl) hl⟩
 rw[show (cO.of P fm glob sites).fm f=fm f from rfl]at he hv;rw[he]at hv;cases hv
end Go.AM
namespace Go.AM
open Go.Proofs Go.Shelf
variable {M:cO} {P:Program} {w w':World} {c c1:cJ} {σ τ:aw}
theorem BB(hs:ek M w c σ)(hb:RowKit.Below w.heap.size w w'):ek M w' c σ∧gG c w c w':=by
 have hf:∀b,b<w.heap.size→w'.heap[b]?=w.heap[b]?:=hb.block;obtain⟨a1,a2⟩:=hs.over (w':=w') (fun b hlt _=>hf b hlt) hb.size;exact⟨a1,{ a2 with same:=⟨hb.tape,hb.os,hb.output,aB _⟩,size:=hb.size,frame:=fun b hlt _=>hf b hlt,liv:=fun id b h1 h2 _=>⟨id,h1,h2⟩,old:=fun b h _=>.inl h,oldb:=fun b h _=>.inl h }⟩
theorem Nt{ρ:Ren}(L:Lays.n158 P ρ)(X:Builder.Extra P ρ){f:Nat}(hf:M.fm f=ρ.f 158)(he:∀args w,(callFunc (ρ.f 158) args).run P w=.ok (.enter (ρ.f 158) args) w)
  (ht:∀w s,M.tabs w s→Lib.CaseVar (ρ.g 13) Lib.caseA w∧Lib.Utf8Tabs (ρ.g 3) (ρ.g 4) w):yw M P f fun _=>wY:=by
 intro C hC hR args σ v σ' h F n0 w c cargs hF hs hg ha;refine⟨.inl ⟨by rw[hf];exact he _ _,?_⟩,fun _ cargs' w'=>by rw[hf];exact he cargs' w'⟩;rw[uP hF,hf];replace h:wY args σ=some (v,σ'):=h;unfold wY at h;split at h
 ·rename_i s;split at h
  ·rename_i hlen;cases h;obtain⟨x0,e0,r0⟩:=ha.2 0 (by simp);have hcargs:cargs=#[x0]:=by
    apply eg;intro i;have hz:cargs.size=1:=ha.1
    match i with
    |0=>rw[e0];rfl
    |i+1=>rw[cU (by omega),cU (by simp)]
   subst hcargs;cases r0 with|@str _ _ t htl=>
   obtain⟨hV,hU⟩:=ht w _ hg.2;have hsz:t.size<35184372088832:=by
    have:t.size=s.length:=by rw[←htl,cw];rfl
    omega
   refine (Any.strings_ToUpper_any L X t w hsz hV hU).mono fun e w' ⟨he,hb⟩=>?_;obtain⟨a1,a2⟩:=BB hs hb;refine⟨_,he,c,a1,a2,.r (.str ?_)⟩;rw[htl];split
   ·rename_i hall;rw[Lib.toUpperD_ascii s fun b hb=>by simpa using aI.1 hall b hb]
   rfl
  cases h
 cases h
end Go.AM
namespace Go.AM
variable {M:cO} {P:Program} {w w':World} {c c1:cJ} {σ τ:aw}
end Go.AM
namespace Go.AM
open Go.Proofs Go.Shelf
variable {M:cO} {P:Program} {w w':World} {c:cJ} {σ:aw}
theorem Ji{f:Nat}{fn:Func}(hf:P.funcs[M.fm f]?=some fn)(h1:(fn.name == "runtime.NumGoroutine")=false)(h2:fn.body.isNone=true)(h3:Extern.findNext fn=none)(h4:Extern.find fn=some Extern.BytealgIndexByte.indexByte):yw M P f fun _=>indexByte:=by
 intro C hC hR args σ v σ' h F n w c cargs hF hs hg ha;replace h:indexByte args σ=some (v,σ'):=h;unfold indexByte at h;split at h
 ·rename_i a b;cases h;obtain⟨x0,e0,r0⟩:=ha.2 0 (by simp);obtain⟨x1,e1,r1⟩:=ha.2 1 (by simp);have hc:cargs=#[x0,x1]:=by
   apply eg;intro i;have hz:cargs.size=2:=ha.1
   match i with
   |0=>rw[e0];rfl
   |1=>rw[e1];rfl
   |i+2=>rw[cU (by omega),cU (by simp)]
  subst hc;cases r0 with|@str _ s t ht=>cases r1 with|int=>
  refine⟨.inr ⟨.int .i64 (Lib.indexByte a b.toNat.toUInt8),w,?_,c,hs,.refl c w,.r .int⟩,fun hx=>?_⟩
  ·rw[run_callFunc_extern hf h1 h2 h3 h4,Lib.run_indexByteString,ht];rfl
  exfalso;obtain⟨y,hy,hp⟩:=hx;simp at hy;rcases hy with rfl|rfl<;>simp[wC]at hp
 cases h
end Go.AM
namespace Go.AM
open Go.Proofs Go.Sort Go.Shelf
variable {M:cO} {P:Program} {w w':World} {c c1:cJ} {σ τ:aw}
theorem Gp:∀{l:List ap} {zs:List Int},LX l=some zs↔l=zs.map (.int .i64)
 |[],zs=>by
  simp only[LX,az];cases zs<;>simp
 |x::r,zs=>by
  cases x with
  |int k n=>
   by_cases hk:k=.i64
   ·subst hk;simp only[LX,aK];constructor
    ·rintro⟨ys,h,rfl⟩;rw[Gp.1 h];rfl
    intro h;cases zs with
    |nil=>cases h
    |cons z zs=>
     simp only[cH,mP,ap.int.injEq,true_and]at h;obtain⟨rfl,h⟩:=h;exact⟨zs,Gp.2 h,rfl⟩
   have:LX (.int k n::r)=none:=by
    cases k<;>first|rfl|exact absurd rfl hk
   rw[this];constructor
   ·intro h;cases h
   intro h;cases zs with
   |nil=>cases h
   |cons z zs=>simp only[cH,mP,ap.int.injEq]at h;exact absurd h.1.1 hk
  |_=>
   constructor
   ·intro h;cases h
   intro h;cases zs<;>simp at h
theorem LZ{zs:List Int}:lC pW (zs.map (.int .i64))=(zs.mergeSort fun x y=>decide (x≤y)).map (.int .i64):=by
 have hm:∀x∈zs.map (ap.int .i64),∃n,x=.int .i64 n:=fun x hx=>by
  obtain⟨n,_,rfl⟩:=bK.1 hx;exact⟨n,rfl⟩
 refine List.Perm.eq_of_pairwise (le:=fun x y=>pW x y=true) ?_ (yc (fun x hx y hy=>?_) fun x hx y hy z hz h1 h2=>?_) ?_ (CM.trans ((List.mergeSort_perm zs _).map _).symm)
 ·intro a b ha hb h1 h2;obtain⟨n,rfl⟩:=hm a (rZ.1 ha);obtain⟨m,_,rfl⟩:=bK.1 hb;simp only[pW,aR]at h1 h2;rw[Int.le_antisymm h1 h2]
 ·obtain⟨n,rfl⟩:=hm x hx;obtain⟨m,rfl⟩:=hm y hy;simp only[pW,aR];omega
 ·obtain⟨n,rfl⟩:=hm x hx;obtain⟨m,rfl⟩:=hm y hy;obtain⟨k,rfl⟩:=hm z hz;simp only[pW,aR]at h1 h2 ⊢;omega
 rw[List.pairwise_map];have:=List.pairwise_mergeSort (le:=fun x y:Int=>decide (x≤y)) (fun a b c h1 h2=>by simp at h1 h2 ⊢;omega) (fun a b=>by simp;omega) zs;refine this.imp fun {a b} h=>?_;simpa [pW] using h
theorem Lo{ρ:Ren}(L:Lays.n189 P ρ){f:Nat}(hf:M.fm f=ρ.f 189)(he:∀args w,(callFunc (ρ.f 189) args).run P w=.ok (.enter (ρ.f 189) args) w):yw M P f fun _=>wF:=by
 intro C hC hR args σ v σ' h F n0 w c cargs hF hs hg ha;refine⟨.inl ⟨by rw[hf];exact he _ _,?_⟩,fun _ cargs' w'=>by rw[hf];exact he cargs' w'⟩;rw[uP hF,hf];have one:∀{a:ap},jZ M w c [a] cargs→∃x0,cargs=#[x0]∧R M w c a x0:=fun {a} ha=>by
  obtain⟨x0,e0,r0⟩:=ha.2 0 (by simp);refine⟨x0,?_,r0⟩;apply eg;intro i;have hz:cargs.size=1:=ha.1
  match i with
  |0=>rw[e0];rfl
  |i+1=>rw[cU (by omega),cU (by simp)]
 have nothing:∀{a:Option Addr} {cap:Nat},Calls P (ρ.f 189) #[.slice a 0 cap] w fun e w'=>∃cv,e=.returned cv∧fX M c w σ .any cv w':=fun {a cap}=>
  (Any.slices_Sort_int_none L a cap w).mono fun e w' hx=>by
   obtain⟨rfl,rfl⟩:=hx;exact⟨_,rfl,c,hs,.refl c w',.r .any⟩
 replace h:wF args σ=some (v,σ'):=h;unfold wF at h;split at h
 ·cases h;obtain⟨x0,rfl,r0⟩:=one ha;cases r0 with
  |@ai _ a=>exact nothing
 ·rename_i id ep off n;split at h
  ·rename_i k e es ho;split at h
   ·rename_i hc;obtain⟨hep,hfit,hmost,hints⟩:=hc;cases h;obtain⟨x0,rfl,r0⟩:=one ha;have hH:c.H id=.arr k e:=by rw[hs.H,dV ho]
    have hlive:c.H id≠.dead:=by rw[hH];simp
    have hlen:((es.drop off).take n).length=n:=by simp;omega
    obtain⟨zs,hzs⟩:=dF.1 hints;have hmz:=Gp.1 hzs;have hzl:zs.length=n:=by rw[←hlen,hmz];simp
    by_cases hn0:n=0
    ·subst hn0;have hσ:σ.set id (.arr k e (es.take off++lC pW ((es.drop off).take 0)++es.drop (off+0)))=σ:=by
      have:es.take off++lC pW ((es.drop off).take 0)++es.drop (off+0)=es:=by simp[lC]
      rw[this];exact V5 ho
     rw[hσ];cases r0 with
     |sl=>exact nothing
     |sl0=>exact nothing
     |slOld h0 h1 h2=>exact absurd (h2 k e hH) (by omega)
    obtain⟨o1,o2,o3,o4⟩:=hs.obj id _ ho
    have hin:∀(i:Nat) (h:i<n),es[off+i]'(by omega)=.int .i64 (zs[i]'(by omega)):=fun i hi=>by
     have h1:((es.drop off).take n)[i]'(by omega)=es[off+i]'(by omega):=by simp
     have h2:((es.drop off).take n)[i]?=(zs.map (ap.int .i64))[i]?:=by rw[hmz]
     rw[aq (by omega),h1]at h2;simpa [show i<zs.length by omega] using h2
    have hk1:k=1:=by
     have:=o2 _ (aO (show off+0<es.length by omega));rw[hin 0 (by omega)]at this;exact this.symm
    subst hk1;cases r0 with
    |sl0=>exact absurd rfl hn0
    |slOld h0 h1 h2=>exact absurd (h2 1 e hH) (by omega)
    |@sl _ _ _ _ _ cap k2 blk h1 h2 h3 h4 h5=>
     have hk2:k2=1:=by rw[hH]at h2;cases h2;rfl
     subst hk2;obtain⟨cs,T,Fv,q1,q2,q3,q4,q5⟩:=o4 blk h3;have hblk:=(hs.plow id blk hlive h3).1
     have hval:∀(i:Nat) (h:i<n),Fv (off+i) 0=.int .i64 (zs[i]'(by omega)):=fun i hi=>by
      have hj:0<(cellsOf (es[off+i]'(by omega))).length:=by rw[hin i hi];simp[cellsOf]
      have:=q5 (off+i) (by omega) 0 hj;simp only[hin i hi]at this;have h':R M w c (.int .i64 (zs[i]'(by omega))) (Fv (off+i) 0):=this;generalize Fv (off+i) 0=q at h';cases h';rfl
     have hHold:Holds (Value.int .i64) w blk off zs.toArray:=fun j hj=>by
      have hj':j<n:=by simpa [hzl] using hj
      have:=(q4 (off+j) 0 (by omega) (by omega)).1;rw[hval j hj']at this;rw[getElem!_pos _ j hj];simp only[World.cell?,World.frozen?,q1];refine⟨by simpa using this,by simp⟩
     have hmain:=Any.slices_Sort_int L blk off cap zs w hHold hblk (by rw[hzl];unfold aV at hmost;omega);have e1:(⟨blk,off*1,none⟩:Addr)=⟨blk,off,none⟩:=by rw[im]
     rw[hzl]at hmain;rw[e1];refine hmain.mono fun e' w' hx=>?_;obtain⟨rfl,m,os,rfl⟩:=hx;generalize hss:(zs.mergeSort fun x y=>decide (x≤y))=ss at *;have hsl:ss.length=n:=by rw[←hss,List.length_mergeSort,hzl]
     have hsorted:lC pW ((es.drop off).take n)=ss.map (.int .i64):=by rw[hmz,LZ,hss]
     obtain⟨f1,f2,f3,f4⟩:=Gj (w:=w) (enc:=Value.int .i64) (off:=off) (m:=m) (d:=ss.toArray) (os:=os) q1;have hfit':off+ss.toArray.size≤cs.size:=by simp;omega
     have:=Wm (w':=grow (putRow (Value.int .i64) (Sort.ahead w m) blk off ss.toArray) os) hs (mid':=lC pW ((es.drop off).take n)) (off:=off) (n:=n) (cs':=putCells (Value.int .i64) off ss.toArray cs) ho h3 q1 q2 q3 q4 q5 o2 hfit (by rw[hsorted];simp[hsl])
      (fun x hx=>by
       rw[hsorted]at hx;obtain⟨z,_,rfl⟩:=bK.1 hx;exact⟨rfl,rfl⟩) (fun i=>.int .i64 (ss.toArray[i]!)) (fun i hi=>rfl)
      (fun i hi=>by
       have hi':i<ss.length:=by rw[hsorted]at hi;simpa using hi
       have e3:(lC pW ((es.drop off).take n))[i]=.int .i64 ss[i]:=by
        have:(lC pW ((es.drop off).take n))[i]?=some (.int .i64 ss[i]):=by
         rw[hsorted];simp[hi']
        exact (ak.1 this).2
       rw[e3,getElem!_pos ss.toArray i (by simpa using hi')];exact .int)
      f1 (by simp[putCells]) (fun k=>by
       rw[IM hfit'];simp only[List.size_toArray,hsl]) f2 f3 f4
     exact⟨_,rfl,c,this.1,this.2,.r .any⟩
   cases h
  cases h
 cases h
end Go.AM
section
set_option linter.unusedVariables false
namespace Go.Proofs
open Go.RowKit
structure zX (P:Program):Prop where
 mixed:P.follows .mixedOrders=true
 t2:P.underlying 2=some (TypeDesc.int IntKind.i64)
 a2:∀(w:World),Sem.run P (isAgg 2) w=Result.ok false w
 z2:∀(w:World),Sem.run P (Go.sizeOf 2) w=Result.ok 1 w
 v2:∀(w:World),Sem.run P (zeroValue 2) w=Result.ok (Value.int IntKind.i64 0) w
 t3:P.underlying 3=some (TypeDesc.int IntKind.i64)
 a3:∀(w:World),Sem.run P (isAgg 3) w=Result.ok false w
 z3:∀(w:World),Sem.run P (Go.sizeOf 3) w=Result.ok 1 w
 v3:∀(w:World),Sem.run P (zeroValue 3) w=Result.ok (Value.int IntKind.i64 0) w
 t4:P.underlying 4=some TypeDesc.bool
 a4:∀(w:World),Sem.run P (isAgg 4) w=Result.ok false w
 z4:∀(w:World),Sem.run P (Go.sizeOf 4) w=Result.ok 1 w
 v4:∀(w:World),Sem.run P (zeroValue 4) w=Result.ok (Value.bool false) w
 t5:P.underlying 5=some (TypeDesc.int IntKind.u8)
 a5:∀(w:World),Sem.run P (isAgg 5) w=Result.ok false w
 z5:∀(w:World),Sem.run P (Go.sizeOf 5) w=Result.ok 1 w
 v5:∀(w:World),Sem.run P (zeroValue 5) w=Result.ok (Value.int IntKind.u8 0) w
 t6:P.underlying 6=some (TypeDesc.int IntKind.u8)
 a6:∀(w:World),Sem.run P (isAgg 6) w=Result.ok false w
 z6:∀(w:World),Sem.run P (Go.sizeOf 6) w=Result.ok 1 w
 v6:∀(w:World),Sem.run P (zeroValue 6) w=Result.ok (Value.int IntKind.u8 0) w
 t9:P.underlying 9=some TypeDesc.string
 a9:∀(w:World),Sem.run P (isAgg 9) w=Result.ok false w
 z9:∀(w:World),Sem.run P (Go.sizeOf 9) w=Result.ok 1 w
 v9:∀(w:World),Sem.run P (zeroValue 9) w=Result.ok (Value.string { data:=#[] }) w
 t21:P.underlying 21=some (TypeDesc.int IntKind.i32)
 a21:∀(w:World),Sem.run P (isAgg 21) w=Result.ok false w
 z21:∀(w:World),Sem.run P (Go.sizeOf 21) w=Result.ok 1 w
 v21:∀(w:World),Sem.run P (zeroValue 21) w=Result.ok (Value.int IntKind.i32 0) w
 t166:P.underlying 166=some (TypeDesc.int IntKind.u64)
 a166:∀(w:World),Sem.run P (isAgg 166) w=Result.ok false w
 z166:∀(w:World),Sem.run P (Go.sizeOf 166) w=Result.ok 1 w
 v166:∀(w:World),Sem.run P (zeroValue 166) w=Result.ok (Value.int IntKind.u64 0) w
 t215:P.underlying 215=some (TypeDesc.slice 5)
 a215:∀(w:World),Sem.run P (isAgg 215) w=Result.ok false w
 z215:∀(w:World),Sem.run P (Go.sizeOf 215) w=Result.ok 1 w
 v215:∀(w:World),Sem.run P (zeroValue 215) w=Result.ok (Value.slice none 0 0) w
 t267:P.underlying 267=some (TypeDesc.interface #[("Error",271)])
 a267:∀(w:World),Sem.run P (isAgg 267) w=Result.ok false w
 z267:∀(w:World),Sem.run P (Go.sizeOf 267) w=Result.ok 1 w
 v267:∀(w:World),Sem.run P (zeroValue 267) w=Result.ok Value.nilIface w
 t345:P.underlying 345=some (TypeDesc.int IntKind.u64)
 a345:∀(w:World),Sem.run P (isAgg 345) w=Result.ok false w
 z345:∀(w:World),Sem.run P (Go.sizeOf 345) w=Result.ok 1 w
 v345:∀(w:World),Sem.run P (zeroValue 345) w=Result.ok (Value.int IntKind.u64 0) w
 t355:P.underlying 355=some (TypeDesc.tuple #[166,267])
 a355:∀(w:World),Sem.run P (isAgg 355) w=Result.ok false w
 z355:∀(w:World),Sem.run P (Go.sizeOf 355) w=Result.ok 1 w
 v355:∀(w:World),Sem.run P (zeroValue 355) w=Result.ok (Value.tuple #[Value.int IntKind.u64 0,Value.nilIface]) w
theorem Tryz.numTy:zX Tryz.prog:={
 mixed:=by kernel_rfl
 t2:=Tryz.underlying2
 a2:=Tryz.isAgg2
 z2:=Tryz.sizeOf2
 v2:=Tryz.zeroValue2
 t3:=Tryz.underlying3
 a3:=Tryz.isAgg3
 z3:=Tryz.sizeOf3
 v3:=Tryz.zeroValue3
 t4:=Tryz.underlying4
 a4:=Tryz.isAgg4
 z4:=Tryz.sizeOf4
 v4:=Tryz.zeroValue4
 t5:=Tryz.underlying5
 a5:=Tryz.isAgg5
 z5:=Tryz.sizeOf5
 v5:=Tryz.zeroValue5
 t6:=Tryz.underlying6
 a6:=Tryz.isAgg6
 z6:=Tryz.sizeOf6
 v6:=Tryz.zeroValue6
 t9:=Tryz.underlying9
 a9:=Tryz.isAgg9
 z9:=Tryz.sizeOf9
 v9:=Tryz.zeroValue9
 t21:=Tryz.underlying21
 a21:=Tryz.isAgg21
 z21:=Tryz.sizeOf21
 v21:=Tryz.zeroValue21
 t166:=Tryz.underlying166
 a166:=Tryz.isAgg166
 z166:=Tryz.sizeOf166
 v166:=Tryz.zeroValue166
 t215:=Tryz.underlying215
 a215:=Tryz.isAgg215
 z215:=Tryz.sizeOf215
 v215:=Tryz.zeroValue215
 t267:=Tryz.underlying267
 a267:=Tryz.isAgg267
 z267:=Tryz.sizeOf267
 v267:=Tryz.zeroValue267
 t345:=Tryz.underlying345
 a345:=Tryz.isAgg345
 z345:=Tryz.sizeOf345
 v345:=Tryz.zeroValue345
 t355:=Tryz.underlying355
 a355:=Tryz.isAgg355
 z355:=Tryz.sizeOf355
 v355:=Tryz.zeroValue355 }
set_option maxHeartbeats 2000000 in
set_option maxRecDepth 100000 in
theorem ams{P:Program}(TY:zX P)(h294:P.funcs[294]?=some Tryz.f294)(w:World) :
  Calls P 294 #[.string ⟨#[49]⟩,.int .i64 10,.int .i64 63] w fun e w'=>e=.returned (.tuple #[.int .u64 1,.nilIface])∧w'=Lib.bytesWorld w 5 ⟨#[49]⟩:=by
 have mixed:=TY.mixed;have t2:=TY.t2;have a2:=TY.a2;have z2:=TY.z2;have v2:=TY.v2;have t3:=TY.t3;have a3:=TY.a3;have z3:=TY.z3;have v3:=TY.v3;have t4:=TY.t4;have a4:=TY.a4;have z4:=TY.z4;have v4:=TY.v4;have t5:=TY.t5;have a5:=TY.a5;have z5:=TY.z5;have v5:=TY.v5;have t6:=TY.t6;have a6:=TY.a6;have z6:=TY.z6;have v6:=TY.v6;have t9:=TY.t9;have a9:=TY.a9;have z9:=TY.z9;have v9:=TY.v9;have t21:=TY.t21;have a21:=TY.a21;have z21:=TY.z21;have v21:=TY.v21;have t166:=TY.t166;have a166:=TY.a166;have z166:=TY.z166;have v166:=TY.v166;have t215:=TY.t215;have a215:=TY.a215;have z215:=TY.z215;have v215:=TY.v215;have t267:=TY.t267;have a267:=TY.a267;have z267:=TY.z267;have v267:=TY.v267;have t345:=TY.t345;have a345:=TY.a345;have z345:=TY.z345;have v345:=TY.v345;have t355:=TY.t355;have a355:=TY.a355;have z355:=TY.z355;have v355:=TY.v355;have u2:=run_underlying TY.t2;have u3:=run_underlying TY.t3;have u4:=run_underlying TY.t4;have u5:=run_underlying TY.t5;have u6:=run_underlying TY.t6;have u9:=run_underlying TY.t9;have u21:=run_underlying TY.t21;have u166:=run_underlying TY.t166;have u215:=run_underlying TY.t215;have u267:=run_underlying TY.t267;have u345:=run_underlying TY.t345;have u355:=run_underlying TY.t355;have hcv:=Lib.run_convert_string_bytes (P:=P) w 9 215 5 ⟨#[49]⟩ (u:=.string) TY.t9 TY.t215 TY.t5;have hB:(Lib.bytesWorld w 5 ⟨#[49]⟩).cell? ⟨w.heap.size,0,none⟩=some (.int .u8 49):=Lib.bytesWorld_cell w 5 ⟨#[49]⟩ 0 (by decide);obtain⟨W1,hW1⟩:∃W1,W1=Lib.bytesWorld w 5 ⟨#[49]⟩:=⟨_,rfl⟩;rw[←hW1]at hcv hB ⊢;clear hW1;have hmv:IntKind.u64.wrap (IntKind.u64.wrap 9223372036854775808-1)=9223372036854775807:=by
  rw[IntKind.wrap_u64,IntKind.wrap_u64];decide
 go_enter h294,Tryz.ntmps294
 go_wp2
 go_loop [12,13,101] (fun vu vn vi=>(vu=.bool false∧vn=.int .u64 0∧vi=.int .i64 0)∨(vu=.bool false∧vn=.int .u64 1∧vi=.int .i64 1))
  (fun _ _ vi=>1-(intOf vi).toNat)
 case atStart=>exact .inl ⟨rfl,rfl,rfl⟩
 case round=>
  rcases hrel with⟨rfl,rfl,rfl⟩|⟨rfl,rfl,rfl⟩
  ·go_wp2
   exact⟨.inr ⟨rfl,rfl,rfl⟩,by simp[intOf]⟩
  go_wp2
  go_ret2
  exact⟨rfl,rfl⟩
end Go.Proofs
end
section
set_option linter.unusedVariables false
namespace Go.Proofs
open Go.Shelf Go.RowKit
set_option maxHeartbeats 2000000 in
set_option maxRecDepth 100000 in
theorem aeO{P:Program}(TY:zX P)(h267:P.funcs[267]?=some Tryz.f267)(h294:P.funcs[294]?=some Tryz.f294)(w:World) :
  Calls P 267 #[.string ⟨#[49]⟩,.int .i64 10,.int .i64 63] w fun e w'=>e=.returned (.tuple #[.int .u64 1,.nilIface])∧w'=Lib.bytesWorld w 5 ⟨#[49]⟩:=by
 have mixed:=TY.mixed;have t2:=TY.t2;have a2:=TY.a2;have z2:=TY.z2;have v2:=TY.v2;have t3:=TY.t3;have a3:=TY.a3;have z3:=TY.z3;have v3:=TY.v3;have t4:=TY.t4;have a4:=TY.a4;have z4:=TY.z4;have v4:=TY.v4;have t5:=TY.t5;have a5:=TY.a5;have z5:=TY.z5;have v5:=TY.v5;have t6:=TY.t6;have a6:=TY.a6;have z6:=TY.z6;have v6:=TY.v6;have t9:=TY.t9;have a9:=TY.a9;have z9:=TY.z9;have v9:=TY.v9;have t21:=TY.t21;have a21:=TY.a21;have z21:=TY.z21;have v21:=TY.v21;have t166:=TY.t166;have a166:=TY.a166;have z166:=TY.z166;have v166:=TY.v166;have t215:=TY.t215;have a215:=TY.a215;have z215:=TY.z215;have v215:=TY.v215;have t267:=TY.t267;have a267:=TY.a267;have z267:=TY.z267;have v267:=TY.v267;have t345:=TY.t345;have a345:=TY.a345;have z345:=TY.z345;have v345:=TY.v345;have t355:=TY.t355;have a355:=TY.a355;have z355:=TY.z355;have v355:=TY.v355;have u2:=run_underlying TY.t2;have u3:=run_underlying TY.t3;have u4:=run_underlying TY.t4;have u5:=run_underlying TY.t5;have u6:=run_underlying TY.t6;have u9:=run_underlying TY.t9;have u21:=run_underlying TY.t21;have u166:=run_underlying TY.t166;have u215:=run_underlying TY.t215;have u267:=run_underlying TY.t267;have u345:=run_underlying TY.t345;have u355:=run_underlying TY.t355;have e294:∀args w,(callFunc 294 args).run P w=.ok (.enter 294 args) w:=enters_of h294 (by kernel_rfl) rfl
 go_enter h267,Tryz.ntmps267
 have hI:=ams TY h294 w
 go_wp2_with (go_at_fn 294;refine hI.mono ?_;rintro e W1 ⟨rfl,hW⟩)
 go_wp2
 go_ret2
 exact⟨rfl,rfl⟩
end Go.Proofs
end
section
set_option linter.unusedVariables false
namespace Go.Proofs
open Go.Shelf Go.RowKit
set_option maxHeartbeats 2000000 in
set_option maxRecDepth 100000 in
theorem Hb{P:Program}(TY:zX P)(h124:P.funcs[124]?=some Tryz.f124)(n:Int)(w:World) :
  Calls P 124 #[.int .i32 n] w fun e w'=>e=.returned (.bool (decide (48≤n)&&decide (n≤57)))∧w'=w:=by
 have mixed:=TY.mixed;have t2:=TY.t2;have a2:=TY.a2;have z2:=TY.z2;have v2:=TY.v2;have t3:=TY.t3;have a3:=TY.a3;have z3:=TY.z3;have v3:=TY.v3;have t4:=TY.t4;have a4:=TY.a4;have z4:=TY.z4;have v4:=TY.v4;have t5:=TY.t5;have a5:=TY.a5;have z5:=TY.z5;have v5:=TY.v5;have t6:=TY.t6;have a6:=TY.a6;have z6:=TY.z6;have v6:=TY.v6;have t9:=TY.t9;have a9:=TY.a9;have z9:=TY.z9;have v9:=TY.v9;have t21:=TY.t21;have a21:=TY.a21;have z21:=TY.z21;have v21:=TY.v21;have t166:=TY.t166;have a166:=TY.a166;have z166:=TY.z166;have v166:=TY.v166;have t215:=TY.t215;have a215:=TY.a215;have z215:=TY.z215;have v215:=TY.v215;have t267:=TY.t267;have a267:=TY.a267;have z267:=TY.z267;have v267:=TY.v267;have t345:=TY.t345;have a345:=TY.a345;have z345:=TY.z345;have v345:=TY.v345;have t355:=TY.t355;have a355:=TY.a355;have z355:=TY.z355;have v355:=TY.v355;have u2:=run_underlying TY.t2;have u3:=run_underlying TY.t3;have u4:=run_underlying TY.t4;have u5:=run_underlying TY.t5;have u6:=run_underlying TY.t6;have u9:=run_underlying TY.t9;have u21:=run_underlying TY.t21;have u166:=run_underlying TY.t166;have u215:=run_underlying TY.t215;have u267:=run_underlying TY.t267;have u345:=run_underlying TY.t345;have u355:=run_underlying TY.t355
 go_enter h124,Tryz.ntmps124
 by_cases h1:48≤n
 ·by_cases h2:n≤57
  ·go_wp2
   all_goals go_ret
   all_goals simp[h1,h2]
  go_wp2
  all_goals go_ret
  all_goals simp[h1,h2]
 go_wp2
 all_goals go_ret
 all_goals (simp[h1]<;>omega)
theorem UN{P:Program}(TY:zX P)(h124:P.funcs[124]?=some Tryz.f124)(n:Int)(hn:n<48∨57<n)(w:World) :
  Calls P 124 #[.int .i32 n] w fun e w'=>e=.returned (.bool false)∧w'=w:=by
 have h:(decide (48≤n)&&decide (n≤57))=false:=by
  rcases hn with h|h
  ·have:¬48≤n:=by omega
   simp[this]
  have:¬n≤57:=by omega
  simp[this]
 have k:=Hb TY h124 n w;rw[h]at k;exact k
theorem Sq{P:Program}(TY:zX P)(h124:P.funcs[124]?=some Tryz.f124)(n:Int)(h1:48≤n)(h2:n≤57)(w:World) :
  Calls P 124 #[.int .i32 n] w fun e w'=>e=.returned (.bool true)∧w'=w:=by
 have h:(decide (48≤n)&&decide (n≤57))=true:=by simp[h1,h2]
 have k:=Hb TY h124 n w;rw[h]at k;exact k
end Go.Proofs
end
section
set_option linter.unusedVariables false
namespace Go.Proofs
open Go.Shelf Go.RowKit
set_option maxHeartbeats 2000000 in
set_option maxRecDepth 100000 in
theorem Ti{P:Program}(TY:zX P)(h238:P.funcs[238]?=some Tryz.f238)(h124:P.funcs[124]?=some Tryz.f124)(t:ByteArray)(hi:0<t.size)(ha:(t[0]'hi).toNat < 128)(hd:(t[0]'hi).toNat < 48∨57<(t[0]'hi).toNat)(w:World) :
  Calls P 238 #[.string t] w fun e w'=>e=.returned (.tuple #[.int .u64 0,.bool false])∧w'=w.iter t 1:=by
 have mixed:=TY.mixed;have t2:=TY.t2;have a2:=TY.a2;have z2:=TY.z2;have v2:=TY.v2;have t3:=TY.t3;have a3:=TY.a3;have z3:=TY.z3;have v3:=TY.v3;have t4:=TY.t4;have a4:=TY.a4;have z4:=TY.z4;have v4:=TY.v4;have t5:=TY.t5;have a5:=TY.a5;have z5:=TY.z5;have v5:=TY.v5;have t6:=TY.t6;have a6:=TY.a6;have z6:=TY.z6;have v6:=TY.v6;have t9:=TY.t9;have a9:=TY.a9;have z9:=TY.z9;have v9:=TY.v9;have t21:=TY.t21;have a21:=TY.a21;have z21:=TY.z21;have v21:=TY.v21;have t166:=TY.t166;have a166:=TY.a166;have z166:=TY.z166;have v166:=TY.v166;have t215:=TY.t215;have a215:=TY.a215;have z215:=TY.z215;have v215:=TY.v215;have t267:=TY.t267;have a267:=TY.a267;have z267:=TY.z267;have v267:=TY.v267;have t345:=TY.t345;have a345:=TY.a345;have z345:=TY.z345;have v345:=TY.v345;have t355:=TY.t355;have a355:=TY.a355;have z355:=TY.z355;have v355:=TY.v355;have u2:=run_underlying TY.t2;have u3:=run_underlying TY.t3;have u4:=run_underlying TY.t4;have u5:=run_underlying TY.t5;have u6:=run_underlying TY.t6;have u9:=run_underlying TY.t9;have u21:=run_underlying TY.t21;have u166:=run_underlying TY.t166;have u215:=run_underlying TY.t215;have u267:=run_underlying TY.t267;have u345:=run_underlying TY.t345;have u355:=run_underlying TY.t355;have e124:∀args w,(callFunc 124 args).run P w=.ok (.enter 124 args) w:=enters_of h124 (by kernel_rfl) rfl;have hD:∀w,Calls P 124 #[.int .i32 ((t[0]'hi).toNat:Int)] w fun e w'=>e=.returned (.bool false)∧w'=w:=
  UN TY h124 _ (by omega)
 go_enter h238,Tryz.ntmps238
 go_wp2
 go_loopg [2] 1 (fun g s2 wx=>s2=.int .u64 0∧wx=w.iter t 0)
 case atStart=>exact⟨rfl,rfl⟩
 case round=>
  obtain⟨rfl,rfl⟩:=hrel;have hnx:=fun ty=>run_next_ascii (P:=P) w t 0 ty hi ha;generalize (t[0]'hi).toNat=n at *
  go_wp2_with (go_at_fn 124;refine (hD _).mono ?_;rintro e w' ⟨rfl,rfl⟩)
  go_wp2
  go_ret2
  exact⟨rfl,rfl⟩
end Go.Proofs
end
section
set_option linter.unusedVariables false
namespace Go.Proofs
open Go.Shelf Go.RowKit
set_option maxHeartbeats 2000000 in
set_option maxRecDepth 100000 in
theorem NQ{P:Program}(TY:zX P)(h238:P.funcs[238]?=some Tryz.f238)(h124:P.funcs[124]?=some Tryz.f124)(h267:P.funcs[267]?=some Tryz.f267)(h294:P.funcs[294]?=some Tryz.f294)(w:World) :
  Calls P 238 #[.string ⟨#[49]⟩] w fun e w'=>e=.returned (.tuple #[.int .u64 1,.bool true])∧w'=(Lib.bytesWorld (w.iter ⟨#[49]⟩ 1) 5 ⟨#[49]⟩).drew:=by
 have mixed:=TY.mixed;have t2:=TY.t2;have a2:=TY.a2;have z2:=TY.z2;have v2:=TY.v2;have t3:=TY.t3;have a3:=TY.a3;have z3:=TY.z3;have v3:=TY.v3;have t4:=TY.t4;have a4:=TY.a4;have z4:=TY.z4;have v4:=TY.v4;have t5:=TY.t5;have a5:=TY.a5;have z5:=TY.z5;have v5:=TY.v5;have t6:=TY.t6;have a6:=TY.a6;have z6:=TY.z6;have v6:=TY.v6;have t9:=TY.t9;have a9:=TY.a9;have z9:=TY.z9;have v9:=TY.v9;have t21:=TY.t21;have a21:=TY.a21;have z21:=TY.z21;have v21:=TY.v21;have t166:=TY.t166;have a166:=TY.a166;have z166:=TY.z166;have v166:=TY.v166;have t215:=TY.t215;have a215:=TY.a215;have z215:=TY.z215;have v215:=TY.v215;have t267:=TY.t267;have a267:=TY.a267;have z267:=TY.z267;have v267:=TY.v267;have t345:=TY.t345;have a345:=TY.a345;have z345:=TY.z345;have v345:=TY.v345;have t355:=TY.t355;have a355:=TY.a355;have z355:=TY.z355;have v355:=TY.v355;have u2:=run_underlying TY.t2;have u3:=run_underlying TY.t3;have u4:=run_underlying TY.t4;have u5:=run_underlying TY.t5;have u6:=run_underlying TY.t6;have u9:=run_underlying TY.t9;have u21:=run_underlying TY.t21;have u166:=run_underlying TY.t166;have u215:=run_underlying TY.t215;have u267:=run_underlying TY.t267;have u345:=run_underlying TY.t345;have u355:=run_underlying TY.t355;have e124:∀args w,(callFunc 124 args).run P w=.ok (.enter 124 args) w:=enters_of h124 (by kernel_rfl) rfl;have e267:∀args w,(callFunc 267 args).run P w=.ok (.enter 267 args) w:=enters_of h267 (by kernel_rfl) rfl;have hD:∀w,Calls P 124 #[.int .i32 49] w fun e w'=>e=.returned (.bool true)∧w'=w:=
  Sq TY h124 49 (by decide) (by decide)
 have hU:=aeO TY h267 h294;have hn1:∀ty,(Instr.next (.pointer (some ⟨w.heap.size,0,none⟩)) true ty).run P (w.iter ⟨#[49]⟩ 0)=.ok (.tuple #[.bool true,.int .i64 0,.int .i32 49]) (w.iter ⟨#[49]⟩ 1):=fun ty=>
  run_next_ascii (P:=P) w ⟨#[49]⟩ 0 ty (by decide) (by decide)
 have hn2:∀ty,(Instr.next (.pointer (some ⟨w.heap.size,0,none⟩)) true ty).run P (w.iter ⟨#[49]⟩ 1)=.ok (.tuple #[.bool false]) (w.iter ⟨#[49]⟩ 1):=fun ty=>
  run_next_end (P:=P) w ⟨#[49]⟩ 1 ty (by decide)
 go_enter h238,Tryz.ntmps238
 go_wp2
 go_loopg [2] 1 (fun g s2 wx=>(g=1∧wx=w.iter ⟨#[49]⟩ 0)∨(g=0∧wx=w.iter ⟨#[49]⟩ 1))
 case atStart=>exact .inl ⟨rfl,rfl⟩
 case round=>
  rcases hrel with⟨rfl,rfl⟩|⟨rfl,rfl⟩
  ·go_wp2_with (go_at_fn 124;refine (hD _).mono ?_;rintro e w' ⟨rfl,rfl⟩)
   go_wp2
   go_roundg 0
   case measure=>decide
   case rel=>exact .inr ⟨rfl,rfl⟩
  go_wp2_with (go_at_fn 267;refine (hU _).mono ?_;rintro e w' ⟨rfl,rfl⟩)
  go_wp2
  go_region_o
  all_goals go_wp2
  all_goals (go_ret2;exact⟨rfl,rfl⟩)
end Go.Proofs
end
namespace Go.AM
open Go.Proofs Go.Shelf
variable {M:cO} {P:Program} {w w':World} {c c1:cJ} {σ τ:aw}
theorem yR(w:World)(t:ByteArray)(k:Nat):RowKit.Below w.heap.size w (w.iter t k):=(RowKit.Below.refl _ w).alloc (aB _) _
theorem SW(TY:zX P)(h238:P.funcs[238]?=some Tryz.f238)(h124:P.funcs[124]?=some Tryz.f124)(h267:P.funcs[267]?=some Tryz.f267)(h294:P.funcs[294]?=some Tryz.f294)
  {f:Nat} (hf:M.fm f=238) (he:∀args w,(callFunc 238 args).run P w=.ok (.enter 238 args) w):yw M P f fun _=>C6:=by
 intro C hC hR args σ v σ' h F n0 w c cargs hF hs hg ha;refine⟨.inl ⟨by rw[hf];exact he _ _,?_⟩,fun _ cargs' w'=>by rw[hf];exact he cargs' w'⟩;rw[uP hF,hf];replace h:C6 args σ=some (v,σ'):=h;unfold C6 at h;split at h
 ·rename_i b s;obtain⟨x0,e0,r0⟩:=ha.2 0 (by simp);have hcargs:cargs=#[x0]:=by
   apply eg;intro i;have hz:cargs.size=1:=ha.1
   match i with
   |0=>rw[e0];rfl
   |i+1=>rw[cU (by omega),cU (by simp)]
  subst hcargs;cases r0 with|@str _ _ t htl=>
  split at h
  ·rename_i hb;cases h;have hsz:0<t.size:=by
    have:t.data.toList.length=(b::s).length:=by rw[htl]
    rw[cw,cn]at this;show 0<t.data.size;omega
   have h0:t[0]'hsz=b:=by
    have:t.data.toList[0]?=some b:=by rw[htl];rfl
    rw[eB]at this;exact (bd.1 this).2
   refine (Ti TY h238 h124 t hsz (by rw[h0];exact hb.1) (by rw[h0];exact hb.2) w).mono fun e w' ⟨he,hw⟩=>?_;subst hw;obtain⟨a1,a2⟩:=BB hs (yR w t 1);refine⟨_,he,c,a1,a2,.r (.tup (fun i=>if i=0 then .int .u64 0 else .bool false) rfl ?_ ?_)⟩
   ·intro i hi
    match i with
    |0=>rfl
    |1=>rfl
    |i+2=>simp at hi;omega
   intro i hi
   match i with
   |0=>exact .int
   |1=>exact .bool
   |i+2=>simp at hi;omega
  split at h
  ·rename_i hb1 hb;cases h;have ht:t=⟨#[49]⟩:=by
    have h2:t.data.toList=[49]:=htl.trans hb;have:t.data=#[49]:=mw.1 h2;cases t;simp_all
   subst ht;refine (NQ TY h238 h124 h267 h294 w).mono fun e w' ⟨he,hw⟩=>?_;subst hw;have hbl:RowKit.Below w.heap.size w (Lib.bytesWorld (w.iter ⟨#[49]⟩ 1) 5 ⟨#[49]⟩).drew:=(RowKit.Below.trans (yR w _ 1) ((Lib.bytesWorld_below _ _ _).mono (yR w _ 1).size)).drew;obtain⟨a1,a2⟩:=BB hs hbl;refine⟨_,he,c,a1,a2,.r (.tup (fun i=>if i=0 then .int .u64 1 else .bool true) rfl ?_ ?_)⟩
   ·intro i hi
    match i with
    |0=>rfl
    |1=>rfl
    |i+2=>simp at hi;omega
   intro i hi
   match i with
   |0=>exact .int
   |1=>exact .bool
   |i+2=>simp at hi;omega
  cases h
 cases h
end Go.AM
namespace Go.AM
abbrev aL(n:Int):ap:=.int .i64 n
abbrev ans(n:Int):Int:=IntKind.i64.wrap n
abbrev amK(n:Int):Int:=IntKind.u64.wrap n
end Go.AM
namespace Go.AM.P
abbrev e:=cB.env
abbrev l:=cB.loc
abbrev v:=cB.val
abbrev i(o:F4):bC:=⟨o,none⟩
abbrev g(x:cB)(b:Bool)(o:F4):bC:=⟨o,some (x,b)⟩
end Go.AM.P
namespace Go.AM.P
abbrev E0:=e 0
abbrev E1:=e 1
abbrev E2:=e 2
abbrev E3:=e 3
abbrev E4:=e 4
abbrev E5:=e 5
abbrev E6:=e 6
abbrev E7:=e 7
abbrev E8:=e 8
abbrev E9:=e 9
abbrev mc:=e 10
abbrev oG:=e 11
abbrev rh:=e 12
abbrev iv:=e 13
abbrev vD:=e 14
abbrev xN:=e 15
abbrev yb:=e 16
abbrev AJ:=e 17
abbrev Ec:=e 18
abbrev AX:=e 19
abbrev Ur:=e 20
abbrev KR:=e 21
abbrev O4:=e 22
abbrev UX:=e 23
abbrev E24:=e 24
abbrev E25:=e 25
abbrev Z8:=e 26
abbrev E27:=e 27
abbrev E28:=e 28
abbrev XE:=e 29
abbrev E30:=e 30
abbrev E31:=e 31
abbrev E32:=e 32
abbrev E33:=e 33
abbrev E34:=e 34
abbrev E35:=e 35
abbrev E36:=e 36
abbrev E37:=e 37
abbrev E38:=e 38
abbrev L0:=l 0
abbrev L1:=l 1
abbrev L2:=l 2
abbrev L3:=l 3
abbrev L4:=l 4
abbrev L5:=l 5
abbrev L6:=l 6
abbrev L7:=l 7
abbrev L8:=l 8
abbrev L9:=l 9
abbrev fP:=l 10
abbrev iS:=l 11
abbrev ml:=l 12
abbrev lT:=l 13
abbrev mi:=l 14
abbrev wu:=l 15
abbrev sn:=l 16
abbrev pO:=l 17
abbrev AU:=l 18
abbrev CR:=l 19
abbrev AZ:=l 20
abbrev CY:=l 21
abbrev AT:=l 22
abbrev Sy:=l 23
abbrev L24:=l 24
abbrev XJ:=l 25
abbrev L26:=l 26
abbrev XD:=l 27
abbrev Nh:=l 28
abbrev L29:=l 29
abbrev L30:=l 30
abbrev L31:=l 31
abbrev L32:=l 32
abbrev L33:=l 33
abbrev L34:=l 34
abbrev L35:=l 35
abbrev L36:=l 36
abbrev L37:=l 37
abbrev L38:=l 38
abbrev L39:=l 39
abbrev L40:=l 40
abbrev L41:=l 41
abbrev V0:=v (.int .i64 0)
abbrev V1:=v (.int .i64 1)
abbrev Vt:=v (.bool true)
abbrev Vf:=v (.bool false)
abbrev Vn:=v .ai
abbrev ld (x:cB):F4:=.load false 1 x
abbrev lt (x:cB):F4:=.load true 1 x
abbrev n0:ap:=.int .i64 0
abbrev nf:ap:=.bool false
end Go.AM.P
