/- Part of the proof. -/
import Derived.Test.YtdfklhejofpgbaaGreatDoorAm00
import Derived.Laws.Strings
import Derived.Laws.Slices
import Derived.Laws.Append
import Derived.Laws.MakeOwn
import Derived.Laws.StructEq
import Derived.ChangeKeysEq
set_option linter.unusedVariables false
set_option linter.unusedSimpArgs false
namespace Go.AM
variable {M:cZ} {w:World} {P:Program}
theorem gR{o:Go.Obj}{b:Nat}(h:b<w.heap.size):(kT w o).heap[b]?=w.heap[b]?:=by
 show (w.heap.push o)[b]?=_;rw[Array.getElem?_push,if_neg (Nat.ne_of_lt h)]
theorem p8{o:Go.Obj}:(kT w o).heap[w.heap.size]?=some o:=by
 show (w.heap.push o)[w.heap.size]?=_;rw[Array.getElem?_push,if_pos rfl]
theorem fe{o:Go.Obj}:(kT w o).heap.size=w.heap.size+1:=by
 show (w.heap.push o).size=_;simp
theorem nV{o:Go.Obj}:Same w (kT w o):=⟨rfl,rfl,rfl,aM _⟩
theorem iD.grow{c:cX}{σ:ay}{w':World}(hs:ei M w c σ)(o:Obj)(p:Option Nat)(room:Nat)(lp:ki)(hsame:Same w w')
  (hw:∀b,b<w.heap.size→w'.heap[b]?=w.heap[b]?) (hz:w.heap.size≤w'.heap.size) (hp:∀b,p=some b→w.heap.size≤b) :
  iD c w (c.grow (σ++[o]) p room lp) w':=
 { Ext.grow hs o p room lp hw with
  same:=hsame
  size:=hz
  frame:=fun b hb _=>hw b hb
  old:=fun _ h _=>.inl h
  oldb:=fun _ h _=>.inl h
  liv:=fun id b h1 h2 hb=>by
   simp only[cX.grow]at h1 h2;split at h2
   ·exact absurd (hp b h2) (by omega)
   rename_i hne;refine⟨id,?_,h2⟩;have hlt:id<σ.length:=by
    have:=BW h1;rw[hs.N]at hne;simp at this;omega
   rw[hs.H];rwa [rj hlt]at h1 }
theorem ei.newArr{c:cX}{σ:ay}(hs:ei M w c σ){k ep:Nat}{es:List ap}{cs:Array Value}{T:TypeId}(f:Nat→Nat→Value)(hk:k≠0)(hall:∀x∈es,aC x=k)
  (hsz:es.length*k≤cs.size) (hc:∀i j,i<es.length→j<k→cs[i*k+j]?=some (f i j)∧(f i j).oneCell'=true)
  (hr:∀i (hi:i<es.length) j (hj:j<(cellsOf es[i]).length),R M w c (cellsOf es[i])[j] (f i j)) :
  ∃c',c'.N=σ.length+1∧c'.H σ.length=.arr k ep∧c'.place σ.length=some w.heap.size∧c'.room σ.length=cs.size ∧
   ei M (kT w (.cells cs T (0,0))) c' (σ++[.arr k ep es])∧iD c w c' (kT w (.cells cs T (0,0))):=by
 have hext:=Ext.grow (w':=kT w (.cells cs T (0,0))) hs (.arr k ep es) (some w.heap.size) cs.size (c.loops 0) (fun b hb=>gR hb);refine⟨c.grow (σ++[.arr k ep es]) (some w.heap.size) cs.size (c.loops 0),by simp[cX.grow],?_,by simp[cX.grow,hs.N],by simp[cX.grow,hs.N],?_,?_⟩
 ·show hd (σ++[.arr k ep es]) σ.length=_;rw[eI mj]
 ·refine hs.grow _ _ _ _ (fun b hb=>gR hb) (by rw[fe];omega) (fun b hb=>by cases hb;rw[fe];omega) ?_;refine⟨hk,hall,fun hn=>by simp[cX.grow,hs.N]at hn,fun b hb=>?_⟩;have hb':b=w.heap.size:=by simp[cX.grow,hs.N]at hb;exact hb.symm
  subst hb';exact⟨cs,T,f,p8,hsz,by simp[cX.grow,hs.N],hc,fun i hi j hj=>(hr i hi j hj).ext hext⟩
 exact iD.grow hs _ _ _ _ nV (fun b hb=>gR hb) (by rw[fe];omega) (fun b hb=>by cases hb;exact aM _)
theorem aaW{c:cX}{σ:ay}(hs:ei M w c σ){v:ap}{cv:Value}(hv:R M w c v cv){T:TypeId}{k:Nat}(hk:aC v=k)(hk0:k≠0) :
  oA M P c w (do pure (.value (←Instr.box T cv))) (.ptr σ.length 0 0 0) (σ++[.arr k 0 [v]]):=by
 obtain⟨g,hg,hgs,hgc⟩:=pk hv (by omega)
 obtain⟨c',h1,h2,h3,h4,hsim,hstp⟩:=hs.newArr (ep:=0) (T:=T) (es:=[v]) (cs:=cv.cells) (fun _ j=>g j) hk0 (by simp[hk]) (by simp;omega)
  (fun i j hi hj=>by
   have:i=0:=by simp at hi;omega
   subst this;rw[kH,bS];exact⟨hgc j (by omega),hg.one j (by omega)⟩)
  (fun i hi j hj=>by
   have:i=0:=by simp at hi;omega
   subst this;exact hg.rel j hj)
 refine⟨_,_,c',_,by simp[Instr.box,newVar,newRow];exact⟨rfl,rfl⟩,.inl rfl,hsim,hstp,?_⟩;have:=R.ptr (M:=M) (w:=kT w (.cells cv.cells T (0,0))) (c:=c') (id:=σ.length) (ep:=0) (i:=0) (off:=0) (by omega) h2 h3;simpa using this
def cX.addStill(c:cX)(b:Nat):cX:={ c with sld:=fun x=>c.sld x∨x=b,bor:=fun x=>c.bor x∨x=b }
theorem ei.addStill{c:cX}{σ:ay}(hs:ei M w c σ)(o:Go.Obj) :
  ei M (kT w o) (c.addStill w.heap.size) σ∧iD c w (c.addStill w.heap.size) (kT w o):=by
 have hext:Ext c w (c.addStill w.heap.size) (kT w o):=⟨fun _ h=>.inl h,fun _ h=>.inl h,fun b hb=>gR (hs.low b (hb.elim (fun h=>h) (hs.sb b))),aM _,fun _ _=>.inl rfl,fun _ _ _ _=>⟨rfl,rfl,rfl⟩⟩;refine⟨⟨hs.H,hs.N,fun b hb=>hb.imp (hs.sb b) id,fun b hb=>?_,fun id b h1 h2=>?_,hs.inj,fun id o' ho=>?_⟩,{ hext with same:=nV,size:=by rw[fe];omega,frame:=fun b hb _=>gR hb,liv:=fun id b h1 h2 _=>⟨id,h1,h2⟩,old:=fun b h hb=>h.elim .inl (fun e=>by omega),oldb:=fun b h hb=>h.elim .inl (fun e=>by omega) }⟩
 ·rw[fe];rcases hb with hb|hb
  ·exact Nat.lt_succ_of_lt (hs.low b hb)
  omega
 ·obtain⟨a1,a2⟩:=hs.plow id b h1 h2;refine⟨by rw[fe];omega,fun hb=>hb.elim a2 (fun e=>by omega)⟩
 exact (hs.obj id o' ho).ext hext (fun _=>⟨rfl,rfl,rfl⟩) fun hnd b hb=>gR (hs.plow id b (by rw[hs.H];exact fun h=>hnd ((ou ho).1 h)) hb).1
theorem Fr{c:cX}{k:Nat}(hk:k≠0):∀{vs:List ap} {cvs:List Value},vs.length=cvs.length→(∀i (h:i<vs.length) (h':i<cvs.length),R M w c vs[i] cvs[i])→(∀v∈vs,aC v=k) →
  ∃f:Nat→Nat→Value,(cvs.flatMap fun v=>v.cells.toList).length=vs.length*k ∧
   (∀i j,i<vs.length→j<k→(cvs.flatMap fun v=>v.cells.toList)[i*k+j]?=some (f i j)∧(f i j).oneCell'=true) ∧
   ∀i (hi:i<vs.length) j (hj:j<(cellsOf vs[i]).length),R M w c (cellsOf vs[i])[j] (f i j)
 |[],[],_,_,_=>⟨fun _ _=>undef,by simp,fun i j hi=>absurd hi (by simp),fun i hi=>absurd hi (by simp)⟩
 |v::vs,cv::cvs,hl,hr,hn=>by
  have h0:=hr 0 (by simp) (by simp);simp only[cO]at h0;have hk0:aC v=k:=hn v (cr ..);obtain⟨g,hg,hgs,hgc⟩:=pk h0 (by omega);obtain⟨f,f1,f2,f3⟩:=Fr (c:=c) (k:=k) hk (vs:=vs) (cvs:=cvs) (by simpa using hl) (fun i h h'=>by have:=hr (i+1) (by simpa using h) (by simpa using h');simpa using this) (fun x hx=>hn x (aO _ hx));refine⟨fun i j=>if i=0 then g j else f (i-1) j,?_,fun i j hi hj=>?_,fun i hi j hj=>?_⟩
  ·simp only[fY,bV,f1,bj,cS,hgs,hk0];rw[du];omega
  ·simp only[fY];cases i with
   |zero=>
    rw[if_pos rfl,bB (by simp[hgs];omega)];simp only[kH,bS,fH];exact⟨hgc j (by omega),hg.one j (by omega)⟩
   |succ i=>
    rw[if_neg (by omega),bQ (by simp[hgs,hk0];rw[du];omega)];have e:(i+1)*k+j-cv.cells.toList.length=i*k+j:=by simp[hgs,hk0];rw[du];omega
    rw[e];have:=f2 i j (by simpa using hi) hj;simpa using this
  cases i with
  |zero=>simpa using hg.rel j (by simpa using hj)
  |succ i=>
   dsimp only;rw[if_neg (by omega)];have:=f3 i (by simpa using hi) j (by simpa using hj);simpa using this
end Go.AM
namespace Go.AM
variable {M:cZ} {w:World} {P:Program}
def ms(fm:Nat→FuncId):Nat→Value→ap→Bool
 |_,.int k n,.int k' m=>k==k'&&n==m
 |_,.bool b,.bool b'=>b==b'
 |_,.string s,.str l=>s.data.toList==l
 |_,.slice none 0 0,.aj=>true
 |_,.slice none 0 0,.aa _ []=>true
 |_,.pointer none,.nilp=>true
 |_,.nilFunc,.nilf=>true
 |_,.map none,.nilm=>true
 |_,.func (.func f) a b,.fn n [] []=>a.size==0&&b.size==0&&fm n==f
 |n+1,.agg vs,.agg cs=>vs.size==cs.length&&(vs.toList.zip cs).all fun p=>p.1.oneCell'&&ms fm n p.1 p.2
 |_,_,_=>false
theorem rC{c:cX}:∀{n:Nat} {v:Value} {a:ap},ms M.fm n v a=true→R M w c a v:=by
 intro n;induction n with
 |zero=>
  intro v a h;unfold ms at h;split at h<;>simp_all
  ·exact .int
  ·exact .bool
  ·exact .str h
  ·exact .aj
  ·exact .imm0
  ·exact .nilp
  ·exact .nilf
  ·exact .nilm
  rename_i f a b m;obtain⟨⟨h1,h2⟩,rfl⟩:=h;exact .fn (fun _=>undef) (fun _=>undef) (by simp) (by simp) (by simp) (by simp) (by simp) (by simp)
 |succ n ih=>
  intro v a h;cases hb:Go.AM.isAgg a with
  |false=>
   unfold ms at h;split at h<;>simp_all
   ·exact .int
   ·exact .bool
   ·exact .str h
   ·exact .aj
   ·exact .imm0
   ·exact .nilp
   ·exact .nilf
   ·exact .nilm
   ·rename_i f a b m;obtain⟨⟨h1,h2⟩,rfl⟩:=h;exact .fn (fun _=>undef) (fun _=>undef) (by simp) (by simp) (by simp) (by simp) (by simp) (by simp)
   simp[Go.AM.isAgg]at hb
  |true=>
   obtain⟨cs,rfl⟩:=oh hb;cases v<;>first|(simp[ms]at h;done)|skip
   rename_i vs;have h':(vs.size==cs.length&&(vs.toList.zip cs).all fun p=>p.1.oneCell'&&ms M.fm n p.1 p.2)=true:=h;simp only[aq,aP,aG]at h';obtain⟨h1,h2⟩:=h';have key:∀i (hi:i<cs.length),∃x,vs[i]?=some x∧x.oneCell'=true∧ms M.fm n x cs[i]=true:=fun i hi=>by
    have hi':i<vs.size:=by omega
    refine⟨vs[i],by simp[hi'],?_⟩;have hm:(vs[i],cs[i])∈vs.toList.zip cs:=by
     rw[dm];exact⟨i,by simp;omega,by simp⟩
    exact h2 _ hm
   refine .agg (fun i=>vs.getD i undef) h1 (fun i hi=>?_) (fun i hi=>?_) (fun i hi=>?_)
   ·obtain⟨x,hx,h3,h4⟩:=key i hi;have:vs.getD i undef=x:=by simp[bJ,hx]
    rw[this];exact⟨hx,h3⟩
   ·obtain⟨x,hx,h3,h4⟩:=key i hi;exact (ih h4).small h3
   obtain⟨x,hx,h3,h4⟩:=key i hi;have:vs.getD i undef=x:=by simp[bJ,hx]
   rw[this];exact ih h4
def oW(M:cZ)(w:World)(c:cX)(cs:List ap)(A:Array Value):Prop:=
 A.size=cs.length∧∀j (h:j<cs.length),∃x,A[j]?=some x∧x.oneCell'=true∧R M w c cs[j] x
theorem oW.agg{c:cX}{cs:List ap}{A:Array Value}(h:oW M w c cs A):R M w c (.agg cs) (.agg A):=by
 refine .agg (fun j=>A.getD j undef) h.1 (fun j hj=>?_) (fun j hj=>?_) (fun j hj=>?_)
 ·obtain⟨x,h1,h2,_⟩:=h.2 j hj;have:A.getD j undef=x:=by simp[bJ,h1]
  rw[this];exact⟨h1,h2⟩
 ·obtain⟨x,h1,h2,h3⟩:=h.2 j hj;exact h3.small h2
 obtain⟨x,h1,h2,h3⟩:=h.2 j hj;have:A.getD j undef=x:=by simp[bJ,h1]
 rw[this];exact h3
theorem R.rcells{c:cX}{cs:List ap}{A:Array Value}(h:R M w c (.agg cs) (.agg A)):oW M w c cs A:=by
 cases h with
 |agg f h1 h2 h3 h4=>exact⟨h1,fun j hj=>⟨f j,(h2 j hj).1,(h2 j hj).2,h4 j hj⟩⟩
theorem Cm(off:Nat):∀(l:List Value) (n:Nat) (A:Array Value),
  ((l.zipIdx n).foldl (fun cs p=>cs.setIfInBounds (off+p.2) p.1) A).size=A.size ∧
  ∀j,((l.zipIdx n).foldl (fun cs p=>cs.setIfInBounds (off+p.2) p.1) A)[j]?=if off+n≤j∧j<off+n+l.length∧j<A.size then l[j-(off+n)]? else A[j]?
 |[],n,A=>⟨rfl,fun j=>by rw[if_neg (by rintro⟨h1,h2,_⟩;simp at h2;omega)];rfl⟩
 |v::l,n,A=>by
  obtain⟨h1,h2⟩:=Cm off l (n+1) (A.setIfInBounds (off+n) v);simp only[List.zipIdx_cons,eG];refine⟨by rw[h1];simp,fun j=>?_⟩;rw[h2 j];simp only[kX,bj];by_cases hj:off+(n+1)≤j∧j<off+(n+1)+l.length∧j<A.size
  ·rw[if_pos hj,if_pos (by omega),show j-(off+n)=(j-(off+(n+1)))+1 by omega];simp
  rw[if_neg hj,dv];by_cases hj2:off+n=j
  ·subst hj2;by_cases hs:off+n<A.size
   ·rw[if_pos rfl,if_pos hs,if_pos ⟨by omega,by omega,hs⟩];simp
   rw[if_pos rfl,if_neg hs,if_neg (by omega)];simp;omega
  rw[if_neg hj2,if_neg (by omega)]
theorem Uw(off:Nat)(l A:Array Value) :
  (l.zipIdx.foldl (fun cs (c,j)=>cs.setIfInBounds (off+j) c) A).size=A.size ∧
  ∀j,(l.zipIdx.foldl (fun cs (c,j)=>cs.setIfInBounds (off+j) c) A)[j]?=if off≤j∧j<off+l.size∧j<A.size then l[j-off]? else A[j]?:=by
 have h:=Cm off l.toList 0 A;have e:l.zipIdx.foldl (fun cs (c,j)=>cs.setIfInBounds (off+j) c) A=(l.toList.zipIdx 0).foldl (fun cs p=>cs.setIfInBounds (off+p.2) p.1) A:=by
  rw[←Array.foldl_toList];simp
 rw[e];simpa using h
theorem T5{c:cX}(place:Nat→Option (Nat×Nat)):∀(ps:List (Nat×Value)) (es0:List (Nat×Nat×ap)) (zero cs:List ap) (A:Array Value),oW M w c zero A→ps.length=es0.length →
  (∀i (h:i<ps.length) (h':i<es0.length),place ps[i].1=some (es0[i].1,es0[i].2.1)∧R M w c es0[i].2.2 ps[i].2)→fill zero es0=some cs →
  ∃B,Instr.fill place A ps=some B∧oW M w c cs B
 |[],[],zero,cs,A,h,_,_,hf=>by cases hf;exact⟨A,rfl,h⟩
 |[],_::_,_,_,_,_,hl,_,_=>by simp at hl
 |_::_,[],_,_,_,_,hl,_,_=>by simp at hl
 |(i,cv)::ps,(off,s,v)::es0,zero,cs,A,h,hl,hr,hf=>by
  simp only[fill]at hf;split at hf
  ·rename_i hc;obtain⟨h1,h2,h3⟩:=hc;have h0:=hr 0 (by simp) (by simp);simp only[cO]at h0;obtain⟨g,hg,hgs,hgc⟩:=pk h0.2 (by omega);obtain⟨z1,z2⟩:=Uw off cv.cells A;have hv:=mU (v:=v) (by omega);have hlen:(zero.take off++cellsOf v++zero.drop (off+s)).length=zero.length:=by simp;omega
   have hnew:oW M w c (zero.take off++cellsOf v++zero.drop (off+s)) (cv.cells.zipIdx.foldl (fun cs (c,j)=>cs.setIfInBounds (off+j) c) A):=by
    refine⟨by rw[z1,h.1,hlen],fun j hj=>?_⟩;rw[hlen]at hj;rw[z2 j];by_cases hj1:j<off
    ·rw[if_neg (by omega)];obtain⟨x,x1,x2,x3⟩:=h.2 j hj;refine⟨x,x1,x2,?_⟩;rw[bU (by simp;omega),bU (by simp;omega)];simpa using x3
    by_cases hj2:j<off+s
    ·rw[if_pos ⟨by omega,by omega,by rw[h.1];exact hj⟩,hgc _ (by omega)];refine⟨_,rfl,hg.one _ (by omega),?_⟩;have:=hg.rel (j-off) (by omega);rw[bU (by simp;omega),cH (by simp;omega)];simp only[bO];have e:j-min off zero.length=j-off:=by rw[dx (by omega)]
     simpa [e] using this
    rw[if_neg (by omega)];obtain⟨x,x1,x2,x3⟩:=h.2 j hj;refine⟨x,x1,x2,?_⟩;rw[cH (by simp;omega)];simp only[dU,bV,bO];have e:off+s+(j-(min off zero.length+(cellsOf v).length))=j:=by rw[dx (by omega)];omega
    simpa [e] using x3
   obtain⟨B,hB,hB2⟩:=T5 place ps es0 _ cs _ hnew (by simpa using hl) (fun i hi hi'=>by have:=hr (i+1) (by simpa using hi) (by simpa using hi');simpa using this) hf;refine⟨B,?_,hB2⟩;simp only[Instr.fill,h0.1];rw[if_neg]
   ·exact hB
   have e1:cv.cells.size=s:=by omega
   have e2:=h.1;simp[e1];omega
  cases hf
theorem FM(k:Nat):∀(cvs:List Value) (s:Nat) (A:Array Value),(∀v∈cvs,v.cells.size=k)→(s+cvs.length)*k≤A.size →
  ∃B,Instr.fill (fun i=>some (i*k,k)) A ((List.range' s cvs.length).zip cvs)=some B∧B.size=A.size ∧
   ∀p,B[p]?=if s*k≤p∧p<(s+cvs.length)*k then (cvs.flatMap fun v=>v.cells.toList)[p-s*k]? else A[p]?
 |[],s,A,_,_=>⟨A,rfl,rfl,fun p=>by rw[if_neg (by simp)]⟩
 |v::cvs,s,A,h1,h2=>by
  have hv:=h1 v (cr ..);obtain⟨z1,z2⟩:=Uw (s*k) v.cells A;simp only[bj]at h2;have hmul:(s+(cvs.length+1))*k=(s+1+cvs.length)*k:=by congr 1;omega
  have hm2:(s+1)*k=s*k+k:=by rw[du];omega
  have hm3:(s+1)*k≤(s+1+cvs.length)*k:=cd k (by omega);obtain⟨B,b1,b2,b3⟩:=FM k cvs (s+1) (v.cells.zipIdx.foldl (fun cs (c,j)=>cs.setIfInBounds (s*k+j) c) A) (fun x hx=>h1 x (aO _ hx)) (by rw[z1];omega);refine⟨B,?_,by rw[b2,z1],fun p=>?_⟩
  ·rw[show (List.range' s (v::cvs).length)=s::List.range' (s+1) cvs.length by simp[lU]];simp only[gz,Instr.fill];rw[if_neg]
   ·exact b1
   simp[hv];omega
  rw[b3 p,z2 p];simp only[bj,fY,hv];by_cases hp:(s+1)*k≤p∧p<(s+1+cvs.length)*k
  ·rw[if_pos hp,if_pos (by omega),bQ (by simp;omega)];congr 1;simp;omega
  rw[if_neg hp];by_cases hq:s*k≤p∧p<s*k+k
  ·rw[if_pos ⟨by omega,by omega,by omega⟩,if_pos (by omega),bB (by simp;omega)];simp
  rw[if_neg (by omega),if_neg (by omega)]
end Go.AM
namespace Go.AM
variable {M:cZ} {w:World} {P:Program}
theorem oG{op:BinOp}{k:IntKind}{x y n:Int}(h:intBits op k x y=some n):(Op.intBits op k x y).run P w=.ok (.int k n) w:=by
 cases op<;>simp only[intBits]at h<;>first|(cases h;done)|(injection h with h;subst h;rfl)
theorem Nq{c:cX}{op:BinOp}{T:TypeId}{k:IntKind}{a b:Int}{v:ap}(hop:op≠.shl∧op≠.shr)(h:Ip op k a b=some v) :
  ∃cv,(binOp op T (.int k a) (.int k b)).run P w=.ok cv w∧R M w c v cv:=by
 cases op<;>simp[Ip]at h hop<;>simp only[binOp,ne_eq,ke,cz]
 case quo=>obtain⟨h1,rfl⟩:=h;exact⟨_,by simp only[Op.intDiv,h1,cz];rfl,.int⟩
 case rem=>obtain⟨h1,rfl⟩:=h;exact⟨_,by simp only[Op.intDiv,h1,cz];rfl,.int⟩
 case and=>obtain⟨n,h1,rfl⟩:=h;exact⟨_,oG h1,.int⟩
 case or=>obtain⟨n,h1,rfl⟩:=h;exact⟨_,oG h1,.int⟩
 case xor=>obtain⟨n,h1,rfl⟩:=h;exact⟨_,oG h1,.int⟩
 case andNot=>obtain⟨n,h1,rfl⟩:=h;exact⟨_,oG h1,.int⟩
 all_goals subst h;first|exact⟨_,rfl,.int⟩|exact⟨_,rfl,.bool⟩|(refine⟨.bool _,?_,.bool⟩;simp[Op.intCmp])
theorem G6{c:cX}{op:BinOp}{T:TypeId}{k k':IntKind}{a b:Int}{v:ap}(h:shift op k a b=some v) :
  ∃cv,(binOp op T (.int k a) (.int k' b)).run P w=.ok cv w∧R M w c v cv:=by
 unfold shift at h;split at h
 ·cases h
 rename_i hb;cases op<;>simp at h<;>subst h
 ·exact⟨_,by simp only[binOp,Op.shift,hb,cz];rfl,.int⟩
 exact⟨_,by simp only[binOp,Op.shift,hb,cz];rfl,.int⟩
theorem WE{s t:ByteArray}:(s.toList==t.toList)=(s.data.toList==t.data.toList):=by
 rw[Go.ByteArray.toList_eq,Go.ByteArray.toList_eq]
theorem rG(op:BinOp)(T:TypeId)(x y:Operand){a b:Value}(h:(∃k n,a=.int k n)∨(∃s,a=.string s)∨(∃t,a=.bool t)):(eqGuard op T x y a b).run P w=.ok () w:=by
 rcases h with⟨k,n,rfl⟩|⟨s,rfl⟩|⟨t,rfl⟩<;>cases op<;>rfl
theorem Zk{c:cX}{op:UnOp}{x v:ap}{cx:Value}(hx:R M w c x cx)(h:una op x=some v):∃cv,(Op.unary op cx).run P w=.ok cv w∧R M w c v cv:=by
 unfold una at h;split at h
 ·cases hx;cases h;exact⟨_,by simp only[Op.unary,Op.intArith];rfl,.int⟩
 ·cases hx;simp only[aY]at h;obtain⟨n,h1,rfl⟩:=h;exact⟨_,by simp only[Op.unary];exact oG h1,.int⟩
 ·cases hx;cases h;exact⟨_,rfl,.bool⟩
 cases h
theorem bm{T:TypeId}{d:TypeDesc}(h:P.underlying T=some d)(w:World):(underlying T).run P w=.ok d w:=by
 unfold underlying;simp[h]
theorem UN{c:cX}{S T:TypeId}{k k':IntKind}{n:Int}{d:TypeDesc}(hS:P.underlying S=some d)(hT:P.underlying T=some (.int k))(hd:∃j,d=.int j) :
  (convert S T (.int k' n)).run P w=.ok (.int k (k.wrap n)) w:=by
 obtain⟨j,rfl⟩:=hd;unfold convert;simp only[Sem.run_bind,bm hS,bm hT,Result.andThen_ok];rfl
end Go.AM
namespace Go.AM
variable {M:cZ} {w:World} {P:Program}
def cX.older(c:cX)(σ:ay)(id:Nat)(p:Option Nat)(room:Nat):cX:=
 { c with H:=hd σ,place:=fun i=>if i=id then p else c.place i,room:=fun i=>if i=id then room else c.room i }
theorem iE{σ:ay}{o:Obj}{id i:Nat}(h:i≠id):hd (σ.set id o) i=hd σ i:=by
 unfold hd;rw[dG (fun e=>h e.symm)]
theorem ei.older{c:cX}{σ:ay}(hs:ei M w c σ){id k ep:Nat}{es es':List ap}(ho:σ[id]?=some (.arr k ep es)){p:Option Nat}{room:Nat}{w':World}
  (hw:∀b,b<w.heap.size→c.place id≠some b→w'.heap[b]?=w.heap[b]?) (hz:w.heap.size≤w'.heap.size) (hsame:Same w w')
  (hp:∀b,p=some b→c.place id=some b∨(w.heap.size≤b∧b<w'.heap.size))
  (hobj:Ext c w (c.older (σ.set id (.arr k (ep+1) es')) id p room) w'→vy M w' (c.older (σ.set id (.arr k (ep+1) es')) id p room) id (.arr k (ep+1) es')) :
  ei M w' (c.older (σ.set id (.arr k (ep+1) es')) id p room) (σ.set id (.arr k (ep+1) es'))∧iD c w (c.older (σ.set id (.arr k (ep+1) es')) id p room) w':=by
 have hlt:id<σ.length:=(al.1 ho).1;have hself:(σ.set id (.arr k (ep+1) es'))[id]?=some (.arr k (ep+1) es'):=eE hlt;have hH:c.H id=.arr k ep:=by rw[hs.H,eI ho]
 have hlive:c.H id≠.dead:=by rw[hH];simp
 have hext:Ext c w (c.older (σ.set id (.arr k (ep+1) es')) id p room) w':=by
  refine⟨fun _ h=>h,fun _ h=>h,fun b hb=>hw b ?_ fun e=>?_,aM _,fun i hi=>?_,fun i hi hq _=>?_⟩
  ·exact hs.low b (hb.elim (fun h=>h) (hs.sb b))
  ·exact (hs.plow id b hlive e).2 (hb.elim (fun h=>h) (hs.sb b))
  ·by_cases hii:i=id
   ·subst hii;refine .inr (.inr ⟨k,ep,ep+1,hH,?_,Nat.lt_succ_self _⟩);show hd _ i=_;rw[eI hself]
   left;show c.H i=hd _ i;rw[iE hii,hs.H]
  have hii:i≠id:=fun e=>by
   subst e;have:(c.older (σ.set i (.arr k (ep+1) es')) i p room).H i=.arr k (ep+1):=by
    show hd _ i=_;rw[eI hself]
   rw[this,hH]at hq;cases hq
  simp[cX.older,hii]
 have hstp:iD c w (c.older (σ.set id (.arr k (ep+1) es')) id p room) w':=
  { hext with
   same:=hsame
   size:=hz
   frame:=fun b hb hn=>hw b hb (hn id hlive)
   old:=fun _ h _=>.inl h
   oldb:=fun _ h _=>.inl h
   liv:=fun i b h1 h2 hb=>by
    simp only[cX.older]at h1 h2;split at h2
    ·rcases hp b h2 with h|h
     ·exact⟨id,hlive,h⟩
     omega
    rename_i hii;exact⟨i,by rw[hs.H];rwa [iE hii]at h1,h2⟩ }
 refine⟨⟨rfl,by rw[show (c.older _ id p room).N=c.N from rfl,hs.N];simp,hs.sb,fun b hb=>bd (hs.low b hb) hz,fun i b h1 h2=>?_,fun i j b hi hj hbi hbj=>?_,fun i o hio=>?_⟩,hstp⟩
 ·simp only[cX.older]at h1 h2 ⊢;split at h2
  ·rcases hp b h2 with h|h
   ·obtain⟨a1,a2⟩:=hs.plow id b hlive h;exact⟨bd a1 hz,a2⟩
   exact⟨h.2,fun hb=>absurd (hs.low b hb) (by omega)⟩
  rename_i hii;rw[iE hii,←hs.H]at h1;obtain⟨a1,a2⟩:=hs.plow i b h1 h2;exact⟨bd a1 hz,a2⟩
 ·simp only[cX.older]at hi hj hbi hbj;split at hbi
  ·split at hbj
   ·omega
   rename_i h1 h2;rw[iE h2,←hs.H]at hj;rcases hp b hbi with h|h
   ·exact absurd (hs.inj id j b hlive hj h hbj) (fun e=>h2 e.symm)
   have:=(hs.plow j b hj hbj).1;omega
  rename_i h1;rw[iE h1,←hs.H]at hi;split at hbj
  ·rcases hp b hbj with h|h
   ·exact absurd (hs.inj id i b hlive hi h hbi) (fun e=>h1 e.symm)
   have:=(hs.plow i b hi hbi).1;omega
  rename_i h2;rw[iE h2,←hs.H]at hj;exact hs.inj i j b hi hj hbi hbj
 by_cases hii:i=id
 ·subst hii;rw[hself]at hio;cases hio;exact hobj hext
 rw[dG (fun e=>hii e.symm)]at hio;refine (hs.obj i o hio).ext hext (fun _=>by simp[cX.older,hii]) fun hnd b hb=>hw b ?_ fun e=>?_
 ·exact (hs.plow i b (by rw[hs.H];exact fun h=>hnd ((ou hio).1 h)) hb).1
 exact hii (hs.inj i id b (by rw[hs.H];exact fun h=>hnd ((ou hio).1 h)) hlive hb e)
theorem WideB.bytes_inj'{a b:ByteArray}(h:a.data=b.data):a=b:=by cases a;cases b;cases h;rfl
def mF(M:cZ)(w:World)(c:cX)(k:Nat)(ys:List ap)(A:Array Value):Prop:=
 A.size=ys.length*k∧∃f:Nat→Nat→Value,(∀i j,i<ys.length→j<k→A[i*k+j]?=some (f i j)∧(f i j).oneCell'=true) ∧
  ∀i (hi:i<ys.length) j (hj:j<(cellsOf ys[i]).length),R M w c (cellsOf ys[i])[j] (f i j)
theorem mF.ext{c c':cX}{w':World}{k:Nat}{ys:List ap}{A:Array Value}(h:mF M w c k ys A)(he:Ext c w c' w'):mF M w' c' k ys A:=
 let ⟨h1,f,h2,h3⟩:=h
 ⟨h1,f,h2,fun i hi j hj=>(h3 i hi j hj).ext he⟩
theorem mF.nil{c:cX}{k:Nat}:mF M w c k [] #[]:=⟨by simp,fun _ _=>undef,fun i j hi=>absurd hi (by simp),fun i hi=>absurd hi (by simp)⟩
theorem oT{i j k n:Nat}(hi:i<n)(hj:j<k):i*k+j<n*k:=by
 have:(i+1)*k≤n*k:=cd k hi;rw[du]at this;omega
theorem CV{c:cX}{k n:Nat}(hk:k≠0){b o:Nat}{ys:List ap}(hn:ys.length=n)(f:Nat→Nat→Value)
  (hc:∀i j,i<n→j<k→w.cell? ⟨b,o+i*k+j,none⟩=some (f i j)∧(f i j).oneCell'=true)
  (hr:∀i (hi:i<ys.length) j (hj:j<(cellsOf ys[i]).length),R M w c (cellsOf ys[i])[j] (f i j)) :
  ∃A,mF M w c k ys A∧∀w',w'.heap=w.heap→(loadCells ⟨b,o,none⟩ (n*k)).run P w'=.ok A w':=by
 have hcell:∀w':World,w'.heap=w.heap→∀p,p<n*k→w'.cell? ((⟨b,o,none⟩:Addr).add p)=some (f (p/k) (p%k)):=fun w' hw p hp=>by
  rw[jO];have h1:p/k<n:=(jD (fF hk)).2 hp;have h2:p%k<k:=Nat.mod_lt _ (fF hk);have:=(hc (p/k) (p%k) h1 h2).1;have e:o+p/k*k+p%k=o+p:=by have:=mD p k;rw[gq]at this;omega
  rw[e]at this;simp only[World.cell?,hw]at this ⊢;exact this
 refine⟨_,⟨?_,f,fun i j hi hj=>⟨?_,(hc i j (hn▸hi) hj).2⟩,hr⟩,fun w' hw=>run_loadCells w' _ (n*k) (fun p=>f (p/k) (p%k)) (hcell w' hw)⟩
 ·simp[hn]
 have hlt:=oT (n:=n) (hn▸hi) hj;have e1:(i*k+j)/k=i:=by rw[gq,Nat.mul_add_div (fF hk),Nat.div_eq_of_lt hj];omega
 have e2:(i*k+j)%k=j:=by rw[gq,ky,jL hj]
 simp[hlt,e1,e2]
theorem afA{c:cX}{σ:ay}(hs:ei M w c σ){y:ap}{cy:Value}(hy:R M w c y cy){ys:List ap}(h:rd σ y=some ys){k:Nat}(hk:k≠0)(hall:∀x∈ys,aC x=k) :
  (∀w',(Builtin.lenOf cy).run P w'=.ok ys.length w')∧∃A,mF M w c k ys A∧∀w',w'.heap=w.heap→(Builtin.firstCells k ys.length cy).run P w'=.ok A w':=by
 cases hy with
 |any=>simp[rd]at h
 |int=>simp[rd]at h
 |bool=>simp[rd]at h
 |@emp _ _ cap a _=>
  simp only[rd,aJ]at h;subst h;refine⟨fun w'=>rfl,#[],mF.nil,fun w' _=>?_⟩;cases a<;>simp[Builtin.firstCells,loadCells,loadCellsFrom]
 |nilp=>simp[rd]at h
 |nilf=>simp[rd]at h
 |nilm=>simp[rd]at h
 |agg=>simp[rd]at h
 |tup=>simp[rd]at h
 |ptr=>simp[rd]at h
 |ptrOld=>simp[rd]at h
 |cptr=>simp[rd]at h
 |asl=>simp[rd]at h
 |aslOld=>simp[rd]at h
 |fn=>simp[rd]at h
 |imap=>simp[rd]at h
 |mp=>simp[rd]at h
 |mpOld=>simp[rd]at h
 |yld=>simp[rd]at h
 |yldOld=>simp[rd]at h
 |@str _ s t ht=>
  simp only[rd,aJ]at h;subst h ht;have hsz:t.data.toList.length=t.size:=by simp
  simp only[cf,hsz];refine⟨fun w'=>rfl,(t.data.map fun b=>Value.int .u8 b.toNat),?_,fun w' _=>?_⟩
  rotate_left 1
  ·have hx:t.extract 0 t.size=t:=by
    apply WideB.bytes_inj';simp
   simp only[Builtin.firstCells,hx];rfl
  by_cases h0:t.data.toList=[]
  ·have e:t.data=#[]:=by rw[←Array.toList_eq_nil_iff];exact h0
   rw[h0,e];simpa using mF.nil
  have hk1:k=1:=by
   obtain⟨x,hx⟩:=d8 _ h0;exact (hall _ (kr hx)).symm
  subst hk1;refine⟨by simp,fun i _=>Value.int .u8 (t.data.getD i 0).toNat,fun i j hi hj=>?_,fun i hi j hj=>?_⟩
  ·have:j=0:=by omega
   subst this;have hi':i<t.data.size:=by simpa using hi
   have e:t.data[i]?=some t.data[i]:=by simp
   simp[e,Value.oneCell']
  have hi':i<t.data.size:=by simpa using hi
  simp only[db,cellsOf,bj,bu]at hj ⊢;have:j=0:=by omega
  subst this;have e:t.data[i]?=some t.data[i]:=by simp
  simp[e];exact .int
 |@aa _ b xs cap a K f h1 h2 h3 h4 h5 h6 h7=>
  simp only[rd,aJ]at h;subst h;refine⟨fun w'=>rfl,?_⟩;by_cases h0:xs=[]
  ·subst h0;exact⟨#[],mF.nil,fun w' hw=>by simp[Builtin.firstCells,loadCells,loadCellsFrom]⟩
  have hK:K=k:=by
   obtain⟨x,hx⟩:=d8 _ h0;rw[←h5 x hx,hall x hx]
  subst hK;obtain⟨blk,o,sp⟩:=a;simp only at h2;subst h2;exact CV hk rfl f h6 (fun i hi j hj=>(h7 i hi j hj).ext (Ext.ofStill hs.sb _))
 |@imm0 _ b cap a=>
  simp only[rd,aJ]at h;subst h;exact⟨fun w'=>rfl,#[],mF.nil,fun w' hw=>by cases a<;>simp[Builtin.firstCells,loadCells,loadCellsFrom]⟩
 |@lst _ xs cap a K f h1 h2 h3 h4 h5 h6 h7=>
  simp only[rd,aJ]at h;subst h;refine⟨fun w'=>rfl,?_⟩;by_cases h0:xs=[]
  ·subst h0;exact⟨#[],mF.nil,fun w' hw=>by simp[Builtin.firstCells,loadCells,loadCellsFrom]⟩
  have hK:K=k:=by
   obtain⟨x,hx⟩:=d8 _ h0;rw[←h5 x hx,hall x hx]
  subst hK;obtain⟨blk,o,sp⟩:=a;simp only at h2;subst h2;exact CV hk rfl f h6 h7
 |@lst0 _ cap a=>
  simp only[rd,aJ]at h;subst h;exact⟨fun w'=>rfl,#[],mF.nil,fun w' hw=>by cases a<;>simp[Builtin.firstCells,loadCells,loadCellsFrom]⟩
 |@aj _ a=>
  simp only[rd,aJ]at h;subst h;exact⟨fun w'=>rfl,#[],mF.nil,fun w' hw=>by cases a<;>simp[Builtin.firstCells,loadCells,loadCellsFrom]⟩
 |@sl _ id ep off len cap k' blk h1 h2 h3 h4 h5=>
  obtain⟨k2,es,ho,hl,rfl⟩:=mN h;have hH:c.H id=.arr k2 ep:=by rw[hs.H,eI ho]
  have hkk:k'=k2:=by rw[hH]at h2;cases h2;rfl
  subst hkk;obtain⟨o1,o2,o3,o4⟩:=hs.obj id _ ho;obtain⟨cs,T,F,q1,q2,q3,q4,q5⟩:=o4 blk h3;have hlen:((es.drop off).take len).length=len:=by simp;omega
  rw[hlen];refine⟨fun w'=>rfl,?_⟩;by_cases h0:len=0
  ·subst h0;exact⟨#[],by simp;exact mF.nil,fun w' hw=>by simp[Builtin.firstCells,loadCells,loadCellsFrom]⟩
  have hK:k'=k:=by
   have hm:((es.drop off).take len)[0]'(by omega)∈(es.drop off).take len:=aF _;rw[←hall _ hm];exact (o2 _ (cQ (bv hm))).symm
  subst hK;refine CV (o:=off*k') hk hlen (fun i j=>F (off+i) j) (fun i j hi hj=>?_) (fun i hi j hj=>?_)
  ·obtain⟨a1,a2⟩:=q4 (off+i) j (by omega) hj;refine⟨?_,a2⟩;simp only[World.cell?,q1];rw[show off*k'+i*k'+j=(off+i)*k'+j by rw[du]];exact a1
  rw[hlen]at hi;have e:((es.drop off).take len)[i]'(by rw[hlen];exact hi)=es[off+i]'(by omega):=by simp
  have hj':j<(cellsOf (es[off+i]'(by omega))).length:=by rw[←e];exact hj
  have:=q5 (off+i) (by omega) j hj';simp only[dW,dU];exact this
 |@sl0 _ id ep off k' a h1 h2=>
  obtain⟨k2,es,ho,hl,rfl⟩:=mN h;simp only[List.take_zero,bu];exact⟨fun w'=>rfl,#[],mF.nil,fun w' hw=>by cases a<;>simp[Builtin.firstCells,loadCells,loadCellsFrom]⟩
 |@slOld _ id ep off len v h0 h1 h2 h3 h4=>
  obtain⟨k2,es,ho,hl,rfl⟩:=mN h;have hH:c.H id=.arr k2 ep:=by rw[hs.H,eI ho]
  exact absurd (h2 _ _ hH) (dr _)
theorem HJ(n:Nat):∀(r c:Nat),c≤2*n+192→Builtin.growBy n r c≤2*n+192
 |0,c,h=>h
 |r+1,c,h=>by
  simp only[Builtin.growBy];split
  ·exact h
  exact HJ n r _ (by omega)
theorem uJ{n c:Nat}(h:c<n):Builtin.nextslicecap n c≤2*n+192:=by
 unfold Builtin.nextslicecap;split
 ·omega
 split
 ·omega
 exact HJ n 4 c (by omega)
structure W7 (P:Program) (T U:TypeId) (k:Nat):Prop where
 ex:∃(e:TypeId) (i:TypeInfo) (z:Value) (d:TypeDesc),P.underlying T=some (.slice e)∧P.info? e=some i∧i.size=k∧i.zero=some z∧z.cells.size=k∧i.bytes≤1024∧i.bytes≠0 ∧
  P.underlying U=some d∧(∀q,d≠.int q)
 k0:k≠0
theorem SA{c:cX}{σ:ay}(hs:ei M w c σ){x:ap}{cx:Value}(hx:R M w c x cx)(h:yF σ x=true):∃a n cap,cx=.slice a n cap∧n≤cap:=by
 cases hx with
 |aa K f h1 h2 h3=>exact⟨_,_,_,rfl,h3⟩
 |imm0=>exact⟨_,_,_,rfl,bP _⟩
 |lst K f h1 h2 h3=>exact⟨_,_,_,rfl,h3⟩
 |lst0=>exact⟨_,_,_,rfl,bP _⟩
 |aj=>exact⟨_,_,_,rfl,bP _⟩
 |sl h1 h2 h3 h4=>exact⟨_,_,_,rfl,h4⟩
 |sl0=>exact⟨_,_,_,rfl,bP _⟩
 |slOld h0 h1 h2 h3 h4=>
  simp only[yF,fresh]at h;split at h
  ·rename_i k e es he;have hH:=eI he;rw[←hs.H]at hH;have:=h2 _ _ hH;simp at h;omega
  cases h
 |_=>simp[yF]at h
theorem J3{T U ty:TypeId}{k:Nat}(ht:W7 P T U k){a:Option Addr}{n cap m:Nat}{cy:Value}{A:Array Value}{w':World}(hl:(Builtin.lenOf cy).run P w=.ok m w)(hf:(Builtin.firstCells k m cy).run P w=.ok A w)(hroom:n+m≤cap)
  (hst:∀b,a=some b→(storeCells (b.add (n*k)) A.toList).run P w=.ok () w') (hn:a=none→w'=w) :
  (Builtin.append_ #[T,U] ty #[.slice a n cap,cy]).run P w=.ok (.slice a (n+m) cap) w':=by
 obtain⟨⟨e,i,z,d,h1,h2,h3,h4,hzc,h5,h6,h7,h8⟩,hk⟩:=ht;have hd:(match d with|.int _=>true|_=>false)=false:=by cases d<;>first|rfl|exact absurd rfl (h8 _)
 cases a with
 |none=>
  obtain rfl:=hn rfl;simp[Builtin.append_,bm h1,bm h7,sizeOf,typeInfo,h2,h3,hd,hl,hf,hroom]
 |some b=>
  have:=hst b rfl;simp[Builtin.append_,bm h1,bm h7,sizeOf,typeInfo,h2,h3,hd,hl,hf,hroom,this]
theorem Jw{T U ty:TypeId}{k:Nat}(ht:W7 P T U k){a:Option Addr}{n cap m:Nat}{cy:Value}{A B:Array Value}(hl:(Builtin.lenOf cy).run P w=.ok m w)
  (hf:∀w',w'.heap=w.heap→(Builtin.firstCells k m cy).run P w'=.ok A w') (ho:∀w',w'.heap=w.heap→(Builtin.firstCells k n (.slice a n cap)).run P w'=.ok B w') (hroom:cap<n+m) (hbig:n+m≤most) :
  ∃(cap':Nat) (T':TypeId) (C:Array Value) (w1:World),w1.heap=w.heap∧Same w w1∧n+m≤cap'∧C.size=(cap' - (n+m))*k ∧
   (Builtin.append_ #[T,U] ty #[.slice a n cap,cy]).run P w=.ok (.slice (some ⟨w.heap.size,0,none⟩) (n+m) cap') (kT w1 (.cells (B++A++C) T' (0,0))):=by
 obtain⟨⟨e,i,z,d,h1,h2,h3,h4,hzc,h5,h6,h7,h8⟩,hk⟩:=ht;have hd:(match d with|.int _=>true|_=>false)=false:=by cases d<;>first|rfl|exact absurd rfl (h8 _)
 have hm:most=68719476736:=rfl;have hn:¬(n+m≤cap):=by omega
 have h63':¬(9223372036854775807<((n:Int)+(m:Int))):=by omega
 have h48':¬(281474976710656<Builtin.nextslicecap (n+m) cap*i.bytes):=by
  have a1:=uJ hroom;have a2:Builtin.nextslicecap (n+m) cap*i.bytes≤(2*(n+m)+192)*1024:=gk a1 h5;omega
 have hf':=hf w.drew rfl;have ho':=ho w.drew rfl;refine⟨(Question.appendCap (n+m) cap e).cut (w.tape w.drawn (.appendCap (n+m) cap e)),e,Builtin.zeroCells z.cells ((Question.appendCap (n+m) cap e).cut (w.tape w.drawn (.appendCap (n+m) cap e))-(n+m)),w.drew,rfl,⟨rfl,rfl,rfl,dJ w.drawn⟩,?_,?_,?_⟩
 rotate_left 2
 ·simp[Builtin.append_,bm h1,bm h7,sizeOf,typeInfo,zeroValue,h2,h3,h4,hl,hn,h63',h48',Question.forced,hf',ho',newRow];rfl
 ·simp[Question.cut]
 simp[Builtin.zeroCells,hzc]
theorem mF.append{c:cX}{k:Nat}{xs ys:List ap}{A B:Array Value}(ha:mF M w c k xs A)(hb:mF M w c k ys B):mF M w c k (xs++ys) (A++B):=by
 obtain⟨a1,f,a2,a3⟩:=ha;obtain⟨b1,g,b2,b3⟩:=hb;refine⟨by simp[a1,b1,du],fun i j=>if i<xs.length then f i j else g (i-xs.length) j,fun i j hi hj=>?_,fun i hi j hj=>?_⟩
 ·dsimp only;by_cases h:i<xs.length
  ·rw[if_pos h,dB (by rw[a1];exact oT h hj)];exact a2 i j h hj
  rw[if_neg h,gE (by rw[a1];have:xs.length*k≤i*k:=cd k (by omega);omega)];have:=b2 (i-xs.length) j (by simp at hi;omega) hj;rw[a1,show i*k+j-xs.length*k=(i-xs.length)*k+j by
   have:i*k=(i-xs.length)*k+xs.length*k:=by rw[←Nat.add_mul];congr 1;omega
   omega]
  exact this
 dsimp only;by_cases h:i<xs.length
 ·rw[if_pos h];have e:(xs++ys)[i]=xs[i]:=bU h;simp only[e]at hj ⊢;exact a3 i h j hj
 rw[if_neg h];have e:(xs++ys)[i]=ys[i-xs.length]'(by simp at hi;omega):=cH (by omega);simp only[e]at hj ⊢;exact b3 _ _ j hj
theorem iD.ofHeap{c:cX}{w':World}(e:w'.heap=w.heap)(hs:Same w w'):iD c w c w':=
 { Ext.heap e with same:=hs,size:=by rw[e];exact aM _,frame:=fun b _ _=>by rw[e],liv:=fun id b a1 a2 _=>⟨id,a1,a2⟩,old:=fun _ h _=>.inl h,oldb:=fun _ h _=>.inl h }
theorem aem{c:cX}{σ:ay}(hs:ei M w c σ){id k ep:Nat}{es es':List ap}(ho:σ[id]?=some (.arr k ep es)){A C:Array Value}{T:TypeId}(hk:k≠0)(hall:∀x∈es',aC x=k)(hr:mF M w c k es' A){n cap:Nat}(hn:es'.length=n)(hc:n≤cap)(hC:C.size=(cap-n)*k) :
  ∃c',ei M (kT w (.cells (A++C) T (0,0))) c' (σ.set id (.arr k (ep+1) es'))∧iD c w c' (kT w (.cells (A++C) T (0,0))) ∧
   R M (kT w (.cells (A++C) T (0,0))) c' (.sl id (ep+1) 0 n) (.slice (some ⟨w.heap.size,0,none⟩) n cap):=by
 obtain⟨f0,f,f1,f2⟩:=hr;have hlt:id<σ.length:=(al.1 ho).1
 obtain⟨h1,h2⟩:=hs.older ho (es':=es') (p:=some w.heap.size) (room:=(A++C).size) (w':=kT w (.cells (A++C) T (0,0))) (fun b hb _=>gR hb) (by rw[fe];omega) nV
  (fun b hb=>by cases hb;exact .inr ⟨aM _,by rw[fe];omega⟩) (fun hext=>by
   refine⟨hk,hall,fun hn=>by simp[cX.older]at hn,fun b hb=>?_⟩;have hb':b=w.heap.size:=by simp[cX.older]at hb;exact hb.symm
   subst hb';refine⟨A++C,T,f,p8,by simp[f0],by simp[cX.older],fun i j hi hj=>?_,fun i hi j hj=>(f2 i hi j hj).ext hext⟩;rw[dB (by rw[f0];exact oT hi hj)];exact f1 i j hi hj)
 refine⟨_,h1,h2,?_⟩;have hH:(c.older (σ.set id (.arr k (ep+1) es')) id (some w.heap.size) (A++C).size).H id=.arr k (ep+1):=by
  show hd _ id=_;rw[eI (eE hlt)]
 have:=R.sl (M:=M) (w:=kT w (.cells (A++C) T (0,0))) (c:=c.older (σ.set id (.arr k (ep+1) es')) id (some w.heap.size) (A++C).size) (id:=id) (ep:=ep+1) (off:=0) (len:=n) (cap:=cap) (k:=k) (blk:=w.heap.size)
  (by rw[show (c.older _ id _ _).N=c.N from rfl,hs.N];exact hlt) hH (by simp[cX.older]) hc (by
   simp[cX.older,f0,hC,hn];rw[←Nat.add_mul];apply cd;omega)
 simpa using this
structure V4 (P:Program) (w:World) (T U ty:TypeId) (k:Nat) (cy:Value) (m:Nat) (A:Array Value):Prop where
 room:∀{a:Option Addr} {n cap:Nat} {w':World},n+m≤cap→(∀b,a=some b→(storeCells (b.add (n*k)) A.toList).run P w=.ok () w')→(a=none→w'=w) →
  (Builtin.append_ #[T,U] ty #[.slice a n cap,cy]).run P w=.ok (.slice a (n+m) cap) w'
 grow:∀{a:Option Addr} {n cap:Nat} {B:Array Value},(∀w',w'.heap=w.heap→(Builtin.firstCells k n (.slice a n cap)).run P w'=.ok B w')→cap<n+m→n+m≤most →
  ∃(cap':Nat) (T':TypeId) (C:Array Value) (w1:World),w1.heap=w.heap∧Same w w1∧n+m≤cap'∧C.size=(cap' - (n+m))*k ∧
   (Builtin.append_ #[T,U] ty #[.slice a n cap,cy]).run P w=.ok (.slice (some ⟨w.heap.size,0,none⟩) (n+m) cap') (kT w1 (.cells (B++A++C) T' (0,0)))
theorem Cj{c:cX}{σ σ':ay}(hs:ei M w c σ){x v:ap}{cx cy:Value}(hx:R M w c x cx){ys:List ap}{k:Nat}(hk:k≠0)(h:append k x ys σ=some (v,σ'))
  {T U ty:TypeId} (hsrc:(∀y∈ys,aC y=k)→∃A,mF M w c k ys A∧V4 P w T U ty k cy ys.length A):oA M P c w (do pure (.value (←Builtin.append_ #[T,U] ty #[cx,cy]))) v σ':=by
 unfold append at h;split at h
 ·
  rename_i hys;split at h
  ·rename_i hsl;cases h;obtain⟨a,n,cap,rfl,hle⟩:=SA hs hx hsl;have hy0:ys=[]:=bl hys;subst hy0;obtain⟨A,r4,hap⟩:=hsrc (by simp);have hA:A=#[]:=by
    have:=r4.1;simp at this;exact this
   subst hA;have:=hap.room (a:=a) (n:=n) (cap:=cap) (w':=w) (by simpa using hle) (fun b _=>rfl) (fun _=>rfl);exact oA.quiet hs (by simpa using this) hx
  cases h
 rename_i hys;split at h
 ·rename_i hall;have hall':∀y∈ys,aC y=k:=by simpa [aG] using hall
  obtain⟨A,r4,hap⟩:=hsrc hall';cases x<;>simp only at h<;>first|(cases h;done)|skip
  case aj=>
   split at h
   ·rename_i hbig;cases h;cases hx with
    |@aj _ a=>
     obtain⟨cap',T',C,w1,e1,e2,e3,e4,e5⟩:=hap.grow (a:=a) (n:=0) (cap:=0) (B:=#[]) (fun w' _=>by cases a<;>simp[Builtin.firstCells,loadCells,loadCellsFrom]) (by omega) (by omega);have hs1:=hs.heap e1;obtain⟨f0,f,f1,f2⟩:=r4
     obtain⟨c',h1,h2,h3,h4,hsim,hstp⟩:=hs1.newArr (ep:=0) (T:=T') (es:=ys) (cs:=#[]++A++C) f hk hall' (by simp;omega)
      (fun i j hi hj=>by
       have:=f1 i j hi hj;rw[dB (by simp[f0];exact oT hi hj)];simpa using this)
      (fun i hi j hj=>(f2 i hi j hj).ext (.heap e1))
     have hz:w1.heap.size=w.heap.size:=by rw[e1]
     refine oA.of e5 hsim (iD.trans (iD.ofHeap e1 e2) hstp) ?_;have:=R.sl (M:=M) (w:=kT w1 (.cells (#[]++A++C) T' (0,0))) (c:=c') (id:=σ.length) (ep:=0) (off:=0) (len:=0+ys.length) (cap:=cap') (by omega) h2 h3 e3 (by rw[h4];simp[f0,e4];rw[←Nat.add_mul];apply cd;omega);simpa [hz] using this
   cases h
  case sl id ep off n=>
   split at h
   ·rename_i k' e es ho;split at h
    ·rename_i hcond;obtain⟨rfl,rfl,hle,rfl,hbig⟩:=hcond;cases h;have hlt:id<σ.length:=(al.1 ho).1;have hH:c.H id=.arr k' e:=by rw[hs.H,eI ho]
     obtain⟨o1,o2,o3,o4⟩:=hs.obj id _ ho;have hall2:∀x∈es.take n++ys,aC x=k':=fun x hx=>by
      rcases bT.1 hx with h|h
      ·exact o2 x (bv h)
      exact hall' x h
     have hlen2:(es.take n++ys).length=n+ys.length:=by simp;omega
     have grow:∀(a:Option Addr) (cap:Nat),cap<n+ys.length→(∃B,mF M w c k' (es.take n) B∧∀w',w'.heap=w.heap→(Builtin.firstCells k' n (.slice a n cap)).run P w'=.ok B w') →
       oA M P c w (do pure (.value (←Builtin.append_ #[T,U] ty #[.slice a n cap,cy]))) (.sl id (e+1) 0 (n+ys.length)) (σ.set id (.arr k' (e+1) (es.take n++ys))):=fun a cap hroom ⟨B,hB,hBr⟩=>by
      obtain⟨cap',T',C,w1,e1,e2,e3,e4,e5⟩:=hap.grow (a:=a) (n:=n) (cap:=cap) hBr hroom hbig;have hs1:=hs.heap e1;obtain⟨c',h1,h2,h3⟩:=aem (T:=T') hs1 ho (es':=es.take n++ys) (A:=B++A) (C:=C) hk hall2 ((hB.append r4).ext (.heap e1)) hlen2 e3 e4;refine oA.of e5 h1 (iD.trans (iD.ofHeap e1 e2) h2) ?_;rw[e1]at h3;exact h3
     cases hx with
     |@sl _ _ _ _ _ cap k2 blk h1 h2 h3 h4 h5=>
      have hkk:k2=k':=by rw[hH]at h2;cases h2;rfl
      subst hkk;obtain⟨cs,T',F,q1,q2,q3,q4,q5⟩:=o4 blk h3;have hold:∃B,mF M w c k2 (es.take n) B∧∀w',w'.heap=w.heap→(loadCells ⟨blk,0*k2,none⟩ (n*k2)).run P w'=.ok B w':=
       CV hk (by simp;omega) F (fun i j hi hj=>by
        obtain⟨a1,a2⟩:=q4 i j (by omega) hj;refine⟨?_,a2⟩;simp only[World.cell?,q1];rw[show 0*k2+i*k2+j=i*k2+j by omega];exact a1) (fun i hi j hj=>by
        have hi':i<n:=by simp at hi;omega
        have e:(es.take n)[i]=es[i]'(by omega):=by simp
        have hj':j<(cellsOf (es[i]'(by omega))).length:=by rw[←e];exact hj
        have:=q5 i (by omega) j hj';simp only[dW];exact this)
      by_cases hroom:n+ys.length≤cap
      ·obtain⟨f0,f,f1,f2⟩:=r4;have hcap:cap*k2≤cs.size:=by rw[←q3];simpa using h5
       have hfit:n*k2+ys.length*k2≤cs.size:=by
        rw[←Nat.add_mul];exact aI (cd k2 hroom) hcap
       have hone:∀v∈A.toList,v.oneCell'=true:=fun v hv=>by
        obtain⟨p,hp,rfl⟩:=dm.1 hv;have hp':p<ys.length*k2:=by simpa [f0] using hp
        have hj:=Nat.mod_lt p (fF hk);have hi:p/k2<ys.length:=(jD (fF hk)).2 hp';obtain⟨a1,a2⟩:=f1 (p/k2) (p%k2) hi hj;have e:p/k2*k2+p%k2=p:=by rw[gq];exact mD p k2
        rw[e]at a1;have:A.toList[p]=f (p/k2) (p%k2):=by
         rw[de (by simpa using hp)]at a1;simpa using cB a1
        rw[this];exact a2
       obtain⟨w',cs',g1,g2,g3,g4⟩:=lf (P:=P) blk (n*k2) T' A.toList 0 cs w q1 (by simp[f0];omega) hone;have hbs:=(hs.plow id blk (by rw[hH];simp) h3).1;have hcs':∀i j,i<(es.take n++ys).length→j<k2→cs'[i*k2+j]?=some (if i<n then F i j else f (i-n) j)∧(if i<n then F i j else f (i-n) j).oneCell'=true:=fun i j hi hj=>by
        rw[hlen2]at hi;rw[g4];simp only[eK,cS,f0];by_cases hin:i<n
        ·have:=oT hin hj;rw[if_pos hin,if_neg (by omega)];exact q4 i j (by omega) hj
        have hi2:i-n<ys.length:=by omega
        have:=oT hi2 hj;have e:i*k2=(i-n)*k2+n*k2:=by rw[←Nat.add_mul];congr 1;omega
        rw[if_neg hin,if_pos (by omega)];have:=f1 (i-n) j hi2 hj;simp only[fH];rw[show i*k2+j-n*k2=(i-n)*k2+j by omega];exact this
       obtain⟨h6,h7⟩:=hs.older ho (es':=es.take n++ys) (p:=some blk) (room:=c.room id) (w':=w') (fun b hb hnb=>by rw[g2.get _ hbs,if_neg (fun e=>hnb (by rw[e];exact h3))]) (by rw[g2.size];exact aM _) g2.toSame
        (fun b hb=>by cases hb;exact .inl h3) (fun hext=>by
         refine⟨hk,hall2,fun hn=>by simp[cX.older]at hn,fun b hb=>?_⟩;have hb':b=blk:=by simp[cX.older]at hb;exact hb.symm
         subst hb';refine⟨cs',T',fun i j=>if i<n then F i j else f (i-n) j,by rw[g2.get _ hbs,if_pos rfl],by rw[hlen2,g3,du];exact hfit,by simp[cX.older,g3,q3],hcs',fun i hi j hj=>?_⟩;dsimp only;by_cases hin:i<n
         ·rw[if_pos hin];have e:(es.take n++ys)[i]=es[i]'(by omega):=by rw[bU (by simp;omega)];simp
          have hj':j<(cellsOf (es[i]'(by omega))).length:=by rw[←e];exact hj
          have:=(q5 i (by omega) j hj').ext hext;simp only[e];exact this
         rw[if_neg hin];have hi2:i-n<ys.length:=by rw[hlen2]at hi;omega
         have e:(es.take n++ys)[i]=ys[i-n]'hi2:=by
          rw[cH (by simp;omega)];congr 1;simp;omega
         have hj':j<(cellsOf (ys[i-n]'hi2)).length:=by rw[←e];exact hj
         have:=(f2 (i-n) hi2 j hj').ext hext;simp only[e];exact this)
       have hrun:=hap.room (a:=some ⟨blk,0*k2,none⟩) (n:=n) (cap:=cap) (w':=w') hroom (fun b hb=>by cases hb;rw[jO,kH,bS];exact g1) (fun h=>by cases h);refine oA.of hrun h6 h7 ?_;have hH2:(c.older (σ.set id (.arr k2 (e+1) (es.take n++ys))) id (some blk) (c.room id)).H id=.arr k2 (e+1):=by
        show hd _ id=_;rw[eI (eE hlt)]
       exact R.sl (by rw[show (c.older _ id _ _).N=c.N from rfl,hs.N];exact hlt) hH2 (by simp[cX.older]) hroom (by simpa [cX.older] using h5)
      exact grow _ _ (by omega) (by obtain⟨B,b1,b2⟩:=hold;exact⟨B,b1,fun w' hw'=>b2 w' hw'⟩)
     |@sl0 _ _ _ _ k2 a h1 h2=>
      exact grow a 0 (by omega) ⟨#[],by simp;exact mF.nil,fun w' _=>by cases a<;>simp[Builtin.firstCells,loadCells,loadCellsFrom]⟩
     |slOld h0 h1 h2=>exact absurd (h2 _ _ hH) (dr _)
    cases h
   cases h
 cases h
theorem UQ{c:cX}{σ σ':ay}(hs:ei M w c σ){x y v:ap}{cx cy:Value}(hx:R M w c x cx)(hy:R M w c y cy){ys:List ap}{k:Nat}(hrd:rd σ y=some ys)(h:append k x ys σ=some (v,σ'))
  {T U ty:TypeId} (ht:W7 P T U k):oA M P c w (do pure (.value (←Builtin.append_ #[T,U] ty #[cx,cy]))) v σ':=
 Cj hs hx ht.k0 h fun hall=>
  let ⟨r1,A,r4,hf⟩:=afA hs hy hrd ht.k0 hall
  ⟨A,r4,fun h1 h2 h3=>J3 ht (r1 w) (hf w rfl) h1 h2 h3,fun h1 h2 h3=>Jw ht (r1 w) hf h1 h2 h3⟩
structure aen (P:Program) (T U:TypeId) (k:Nat) (e:TypeId) (i:TypeInfo) (z:Value):Prop where
 sl:P.underlying T=some (.slice e)
 info:P.info? e=some i
 size:i.size=k
 zero:i.zero=some z
 cells:z.cells.size=k
 small:i.bytes≤1024
 some_:i.bytes≠0
 int:∃q,P.underlying U=some (.int q)
 k0:k≠0
theorem UG{T U ty e:TypeId}{k:Nat}{i:TypeInfo}{z:Value}(ht:aen P T U k e i z){q:IntKind}{m:Nat}(hm:m≤most):V4 P w T U ty k (.int q m) m (Builtin.zeroCells z.cells m):=by
 obtain⟨h1,h2,h3,h4,h5,h6,h7,⟨q',h8⟩,h9⟩:=ht;have hmost:most=68719476736:=rfl;have hw:IntKind.i64.wrap (m:Int)=m:=by
  simp[IntKind.wrap,IntKind.bits,IntKind.signed];omega
 have hneg:¬((m:Int)<0):=by omega
 have hby:¬(281474976710656<(m:Int)*(i.bytes:Int)):=by
  have:m*i.bytes≤m*1024:=Nat.mul_le_mul_left m h6;have:m*i.bytes≤281474976710656:=by omega
  have:=Int.ofNat_le.2 this;rw[Int.natCast_mul]at this;omega
 have hz:∀w',(if m*i.size=0 then (pure #[]:Sem (Array Value)) else do pure (Builtin.zeroCells (←zeroValue e).cells m)).run P w'=.ok (Builtin.zeroCells z.cells m) w':=fun w'=>by
  by_cases h0:m*i.size=0
  ·rw[if_pos h0];have:m=0:=by
    rcases mJ.1 h0 with h|h
    ·exact h
    omega
   subst this;simp[Builtin.zeroCells]
  rw[if_neg h0];simp[zeroValue,typeInfo,h2,h4]
 have hA:∀w',m*i.size≠0→(zeroValue e).run P w'=.ok z w':=fun w' _=>by simp[zeroValue,typeInfo,h2,h4]
 have hA0:m*i.size=0→Builtin.zeroCells z.cells m=#[]:=fun h0=>by
  have:m=0:=by
   rcases mJ.1 h0 with h|h
   ·exact h
   omega
  subst this;simp[Builtin.zeroCells]
 refine⟨fun {a n cap w'} hroom hst hn=>?_,fun {a n cap B} ho hroom hbig=>?_⟩
 ·cases a with
  |none=>
   obtain rfl:=hn rfl;by_cases h0:m*i.size=0
   ·simp[Builtin.append_,bm h1,bm h8,sizeOf,typeInfo,h2,asInt,asIntOf,hw,hneg,hby,hroom,h0]
   simp[Builtin.append_,bm h1,bm h8,sizeOf,typeInfo,h2,asInt,asIntOf,hw,hneg,hby,hroom,h0,zeroValue,h4]
  |some b=>
   have:=hst b rfl;rw[←h3]at this;by_cases h0:m*i.size=0
   ·have this':((storeCells (b.add (n*i.size)) []).run P w)=.ok () w':=by rw[hA0 h0]at this;exact this
    simp[Builtin.append_,bm h1,bm h8,sizeOf,typeInfo,h2,asInt,asIntOf,hw,hneg,hby,hroom,h0,this']
   simp[Builtin.append_,bm h1,bm h8,sizeOf,typeInfo,h2,asInt,asIntOf,hw,hneg,hby,hroom,h0,zeroValue,h4,this]
 have hn:¬(n+m≤cap):=by omega
 have h63':¬(9223372036854775807<((n:Int)+(m:Int))):=by omega
 have h48':¬(281474976710656<Builtin.nextslicecap (n+m) cap*i.bytes):=by
  have a1:=uJ hroom;have a2:Builtin.nextslicecap (n+m) cap*i.bytes≤(2*(n+m)+192)*1024:=gk a1 h6;omega
 have ho':=ho w.drew rfl;refine⟨(Question.appendCap (n+m) cap e).cut (w.tape w.drawn (.appendCap (n+m) cap e)),e,Builtin.zeroCells z.cells ((Question.appendCap (n+m) cap e).cut (w.tape w.drawn (.appendCap (n+m) cap e))-(n+m)),w.drew,rfl,⟨rfl,rfl,rfl,dJ w.drawn⟩,?_,?_,?_⟩
 rotate_left 2
 ·rw[←h3]at ho';by_cases h0:m*i.size=0
  ·simp[Builtin.append_,bm h1,bm h8,sizeOf,typeInfo,h2,asInt,asIntOf,hw,hneg,hby,hn,h63',h48',Question.forced,ho',newRow,h0,zeroValue,h4,hA0 h0];rfl
  simp[Builtin.append_,bm h1,bm h8,sizeOf,typeInfo,h2,asInt,asIntOf,hw,hneg,hby,hn,h63',h48',Question.forced,ho',newRow,h0,zeroValue,h4];rfl
 ·simp[Question.cut]
 simp[Builtin.zeroCells,h5]
end Go.AM
namespace Go.AM
variable {M:cZ} {w:World} {P:Program}
theorem wB{c:cX}{σ:ay}(hs:ei M w c σ){id ep:Nat}(h:fresh σ id ep=true):∃k es,σ[id]?=some (.arr k ep es)∧c.H id=.arr k ep:=by
 unfold fresh at h;split at h
 ·rename_i k e es he;have:e=ep:=by simpa using h
  subst this;exact⟨k,es,he,by rw[hs.H,eI he]⟩
 cases h
theorem wU{c:cX}{σ:ay}(hs:ei M w c σ){id ep i o:Nat}{p:Value}(hp:R M w c (.ptr id ep i o) p)(hf:fresh σ id ep=true) :
  ∃k b,id<c.N∧c.H id=.arr k ep∧c.place id=some b∧p=.pointer (some ⟨b,i*k+o,none⟩):=by
 obtain⟨k,es,he,hH⟩:=wB hs hf;cases hp with
 |ptr h1 h2 h3=>rw[hH]at h2;cases h2;exact⟨_,_,h1,hH,h3,rfl⟩
 |ptrOld h0 h1 h2=>exact absurd (h2 _ _ hH) (dr _)
theorem Ff{f:Field}{n:Nat}(h:(P.info? f.type).map (·.size)=some n)(hn:n≠0)(a:Addr):(fieldPlace a f).run P w=.ok (a.add f.offset) w:=by
 unfold fieldPlace;simp[fQ h,hn]
theorem ajl{c:cX}{σ:ay}(hs:ei M w c σ){p v:ap}{cp:Value}(hp:R M w c p cp){S:TypeId}{i off n:Nat}{fs:Array Field}{f:Field}(hS:P.underlying S=some (.struct fs))(hf:fs[i]?=some f)
  (ho:f.offset=off) (hn:(P.info? f.type).map (·.size)=some n) (hn0:n≠0)
  (h:Gz σ off p=some v):∃cv,(Instr.fieldAt S cp i).run P w=.ok cv w∧R M w c v cv:=by
 have key:∀b o,(Instr.fieldAt S (.pointer (some ⟨b,o,none⟩)) i).run P w=.ok (.pointer (some ⟨b,o+off,none⟩)) w:=fun b o=>by
  unfold Instr.fieldAt Instr.sureAddr;simp only[Sem.run_bind,bm hS,Result.andThen_ok,hf,Sem.run_pure,Ff hn hn0,jO,ho]
 cases p with
 |ptr id ep j o=>
  simp only[Gz,zi]at h;split at h
  ·rename_i hfr;cases h;obtain⟨k,b,h1,h2,h3,rfl⟩:=wU hs hp hfr;exact⟨_,key _ _,by rw[ct];exact .ptr h1 h2 h3⟩
  cases h
 |cptr b y o=>
  cases h;cases hp with
  |cptr f h1 h2 h3 h4=>exact⟨_,key _ _,by rw[ct];exact .cptr f h1 h2 h3 h4⟩
 |_=>cases h
theorem rV{c:cX}{i:ap}{ci:Value}{n:Nat}(hi:R M w c i ci)(h:nP i=some n):∃k,ci=.int k n:=by
 cases hi<;>simp only[nP]at h<;>first|(cases h;done)|skip
 split at h
 ·cases h;rename_i h0;exact⟨_,by rw[Int.toNat_of_nonneg h0]⟩
 cases h
theorem aeq{c:cX}{σ:ay}(hs:ei M w c σ){x v:ap}{cx ci:Value}(hx:R M w c x cx){n:Nat}(hi:∃k,ci=.int k (n:Int)){T e:TypeId}{k:Nat}(hT:P.underlying T=some (.slice e))(hk:(P.info? e).map (·.size)=some k)(hk0:k≠0)
  (h:zi σ k n x=some v):∃cv,(Instr.indexAt T cx ci).run P w=.ok cv w∧R M w c v cv:=by
 obtain⟨ik,rfl⟩:=hi;have key:∀(a:Addr) (len cap:Nat),n<len→(Instr.indexAt T (.slice (some a) len cap) (.int ik n)).run P w=.ok (.pointer (some (a.add (n*k)))) w:=fun a len cap hlt=>by
  unfold Instr.indexAt;have h0:(0:Int)≤(n:Int)∧(n:Int)<(len:Int):=⟨by omega,by omega⟩;simp only[asIntOf,Sem.run_bind,Sem.run_pure,Result.andThen_ok,bm hT,h0,and_self,cW,fQ hk];rfl
 cases x with
 |aa b xs=>
  simp only[zi,aN]at h;obtain⟨y,hy,h⟩:=h;split at h
  ·rename_i hyk;cases h;obtain⟨hlt,rfl⟩:=al.1 hy;cases hx with
   |@aa _ _ _ cap a K f h1 h2 h3 h4 h5 h6 h7=>
    obtain⟨blk,o,sp⟩:=a;simp only at h1 h2 h6;subst h2;have hK:K=k:=by rw[←h5 _ (aF hlt)];exact hyk
    subst hK;refine⟨_,key _ _ _ hlt,?_⟩;rw[jO]
    have:=R.cptr (M:=M) (w:=w) (c:=c) (b:=b) (x:=xs[n]) (off:=0) (o:=o+n*K) (blk:=blk) (f n) h1 (by omega) (fun j hj=>h6 n j hlt (by omega)) (fun j hj=>by
     cases b with
     |true=>exact (h7 n hlt j hj).ext (Ext.ofStill hs.sb true)
     |false=>exact h7 n hlt j hj)
    simpa using this
   |imm0=>simp at hlt
  cases h
 |lst xs=>
  simp only[zi,aN]at h;obtain⟨y,hy,h⟩:=h;split at h
  ·rename_i hyk;cases h;obtain⟨hlt,rfl⟩:=al.1 hy;cases hx with
   |@lst _ _ cap a K f h1 h2 h3 h4 h5 h6 h7=>
    obtain⟨blk,o,sp⟩:=a;simp only at h1 h2 h6;subst h2;have hK:K=k:=by rw[←h5 _ (aF hlt)];exact hyk
    subst hK;refine⟨_,key _ _ _ hlt,?_⟩;rw[jO];have:=R.cptr (M:=M) (w:=w) (c:=c) (b:=true) (x:=xs[n]) (off:=0) (o:=o+n*K) (blk:=blk) (f n) (hs.sb _ h1) (by omega) (fun j hj=>h6 n j hlt (by omega)) (fun j hj=>h7 n hlt j hj);simpa using this
   |lst0=>simp at hlt
  cases h
 |sl id ep off m=>
  simp only[Gz,zi]at h;split at h
  ·rename_i hc;obtain⟨hlt,ha,hf⟩:=hc;cases h;obtain⟨k',es,he,hH⟩:=wB hs hf;have hkk:k'=k:=by simp only[VV,he]at ha;exact cB ha
   subst hkk;cases hx with
   |@sl _ _ _ _ _ cap k2 blk h1 h2 h3 h4 h5=>
    have hkk:k2=k':=by rw[hH]at h2;cases h2;rfl
    subst hkk;refine⟨_,key _ _ _ hlt,?_⟩;rw[jO,←Nat.add_mul];exact R.ptr (off:=0) h1 hH h3
   |sl0 h1 h2=>omega
   |slOld h0 h1 h2=>exact absurd (h2 _ _ hH) (dr _)
  cases h
 |_=>cases h
theorem afe{c:cX}{σ:ay}(hs:ei M w c σ){x v:ap}{cx ci:Value}(hx:R M w c x cx){n m s:Nat}(hi:∃k,ci=.int k (n:Int)){T e:TypeId}(hT:P.underlying T=some (.array m e))(hk:(P.info? e).map (·.size)=some s)
  (hn:n<m) (h:Gz σ (n*s) x=some v):∃cv,(Instr.indexAt T cx ci).run P w=.ok cv w∧R M w c v cv:=by
 obtain⟨ik,rfl⟩:=hi;have key:∀(b o:Nat),(Instr.indexAt T (.pointer (some ⟨b,o,none⟩)) (.int ik n)).run P w=.ok (.pointer (some ⟨b,o+n*s,none⟩)) w:=fun b o=>by
  unfold Instr.indexAt;have h0:(0:Int)≤(n:Int)∧(n:Int)<(m:Int):=⟨by omega,by omega⟩;simp only[asIntOf,Sem.run_bind,Sem.run_pure,Result.andThen_ok,bm hT,Instr.sureAddr,h0,and_self,cW,fQ hk];rw[←jO];rfl
 cases x with
 |ptr id ep j o=>
  simp only[Gz,zi]at h;split at h
  ·rename_i hfr;cases h;obtain⟨k,b,h1,h2,h3,rfl⟩:=wU hs hx hfr;exact⟨_,key _ _,by rw[ct];exact .ptr h1 h2 h3⟩
  cases h
 |cptr b y o=>
  cases h;cases hx with
  |cptr f h1 h2 h3 h4=>exact⟨_,key _ _,by rw[ct];exact .cptr f h1 h2 h3 h4⟩
 |_=>cases h
theorem aeU{c:cX}{x v:ap}{cx:Value}(hx:R M w c x cx)(hxa:Go.AM.isAgg x=true)(hx0:aC x≠0){T:TypeId}{a:Bool}{s off:Nat}(ht:rm P T a s=true)(h:uj a s x off=some v) :
  ∃A cv,cx=.agg A∧(part T A off).run P w=.ok cv w∧R M w c v cv:=by
 obtain⟨cs,rfl⟩:=oh hxa;cases hx with
 |@agg _ _ vs f h1 h2 h3 h4=>
  by_cases h0:cs=[]
  ·subst h0;exact absurd rfl (hx0:aC (.agg [])≠0)
  have hn0:aC (.agg cs)≠0:=by simp[aC,h0]
  obtain⟨hle,hr⟩:=Bw (f:=f) (show qJ M w c (.agg cs) f from ⟨fun j hj=>(h2 j hj).2,h4⟩) hn0 h (fun ha=>by subst ha;exact vD ht);have hle':off+s≤cs.length:=hle;refine⟨vs,_,rfl,?_,hr⟩;unfold part;cases a with
  |true=>
   simp only[Sem.run_bind,pF ht,Result.andThen_ok,cW,fQ (sQ ht),Sem.run_pure];congr 2;apply Array.ext
   ·simp;omega
   intro j hj1 hj2;simp at hj2;have:=(h2 (off+j) (by omega)).1;rw[de (by rw[h1];omega)]at this;simp;exact cB this
  |false=>
   obtain rfl:=vD ht;simp only[Sem.run_bind,pF ht,Result.andThen_ok,bC,cz,(h2 off (by omega)).1,Sem.run_pure]
theorem Va{c:cX}{σ:ay}(hs:ei M w c σ){x:ap}{cx:Value}(hx:R M w c x cx){n:Nat}(h:kM σ x=some n):∃a cap,cx=.slice a n cap∧n≤cap:=by
 cases hx with
 |aa K f h1 h2 h3=>simp only[kM,aJ]at h;subst h;exact⟨_,_,rfl,h3⟩
 |imm0=>simp only[kM,bu,aJ]at h;subst h;exact⟨_,_,rfl,bP _⟩
 |lst K f h1 h2 h3=>simp only[kM,aJ]at h;subst h;exact⟨_,_,rfl,h3⟩
 |lst0=>simp only[kM,bu,aJ]at h;subst h;exact⟨_,_,rfl,bP _⟩
 |aj=>simp only[kM,aJ]at h;subst h;exact⟨_,_,rfl,bP _⟩
 |emp _=>simp only[kM,aJ]at h;subst h;exact⟨_,_,rfl,bP _⟩
 |sl h1 h2 h3 h4=>
  simp only[kM]at h;split at h
  ·cases h;exact⟨_,_,rfl,h4⟩
  cases h
 |sl0=>
  simp only[kM]at h;split at h
  ·cases h;exact⟨_,_,rfl,bP _⟩
  cases h
 |slOld h0 h1 h2=>
  simp only[kM]at h;split at h
  ·rename_i hf;obtain⟨k,es,he,hH⟩:=wB hs hf;exact absurd (h2 _ _ hH) (dr _)
  cases h
 |_=>simp[kM]at h
theorem ahG{c:cX}{σ:ay}(hs:ei M w c σ){x:ap}{cx:Value}(hx:R M w c x cx){n:Nat}(h:kM σ x=some n){T ty e:TypeId}(hT:P.underlying T=some (.slice e)) :
  (Builtin.len_ #[T] ty #[cx]).run P w=.ok (.int .i64 n) w:=by
 obtain⟨a,cap,rfl,_⟩:=Va hs hx h;simp[Builtin.len_,bm hT,goInt]
theorem Uq{c:cX}{x:ap}{cx:Value}(hx:R M w c x cx){n:Nat}(h:GA x=some n):∃s t,x=.str s∧cx=.string t∧t.data.toList=s∧t.size=n:=by
 cases hx with
 |@str _ s t ht=>
  simp only[GA,aJ]at h;subst ht h;exact⟨_,t,rfl,rfl,rfl,by simp⟩
 |_=>simp[GA]at h
theorem afy{c:cX}{x:ap}{cx:Value}(hx:R M w c x cx){n:Nat}(h:GA x=some n){T ty:TypeId}(hT:P.underlying T=some .string) :
  (Builtin.len_ #[T] ty #[cx]).run P w=.ok (.int .i64 n) w:=by
 obtain⟨s,t,rfl,rfl,_,hn⟩:=Uq hx h;simp[Builtin.len_,bm hT,goInt,hn]
theorem G1{k:IntKind}{n y:Nat}{code:BoundsCode}(h:n≤y):(Instr.sliceBound (.int k n) y code).run P w=.ok n w:=by
 rw[run_sliceBound w k n y code (by omega) (by omega)];simp
theorem xZ{len cap l h:Nat}{isS:Bool}{lo hi:Option Value}(hlo:(lo=none∧l=0)∨∃k,lo=some (.int k (l:Int)))(hhi:(hi=none∧h=len)∨∃k,hi=some (.int k (h:Int)))(h1:l≤h)(h2:h≤cap) :
  (Instr.sliceBounds isS len cap lo hi none).run P w=.ok (l,h,cap) w:=by
 unfold Instr.sliceBounds;rcases hlo with⟨rfl,rfl⟩|⟨k,rfl⟩<;>rcases hhi with⟨rfl,rfl⟩|⟨k',rfl⟩<;>simp[G1 h1,G1 h2]
theorem ZB{c:cX}{σ:ay}(hs:ei M w c σ){x v:ap}{cx:Value}(hx:R M w c x cx){n l h:Nat}(hn:kM σ x=some n){lo hi:Option Value}(hlo:(lo=none∧l=0)∨∃k,lo=some (.int k (l:Int)))
  (hhi:(hi=none∧h=n)∨∃k,hi=some (.int k (h:Int))) {s:Nat} (hv:aslice σ s x l h=some v) {T e:TypeId} (hT:P.underlying T=some (.slice e)) (hk:(P.info? e).map (·.size)=some s) :
  ∃cv,(Instr.sliceAt T cx lo hi none).run P w=.ok cv w∧R M w c v cv:=by
 obtain⟨a,cap,rfl,hcap⟩:=Va hs hx hn;have hrun:l≤h→h≤n→(Instr.sliceAt T (.slice a n cap) lo hi none).run P w=.ok (.slice (if cap=l then a else a.map (·.add (l*s))) (h-l) (cap-l)) w:=fun h1 h2=>by
  unfold Instr.sliceAt Instr.slice;simp only[Sem.run_bind,bm hT,Result.andThen_ok,xZ hlo hhi h1 (aI h2 hcap),fQ hk,Sem.run_pure]
 cases x with
 |aa b xs=>
  simp only[aslice]at hv;split at hv
  ·rename_i hc;obtain⟨c1,c2,c3⟩:=hc;cases hv;simp only[kM,aJ]at hn;subst hn;refine⟨_,hrun c1 c2,?_⟩;by_cases h0:h=l
   ·subst h0;simp;exact .imm0
   rw[if_neg (by omega)];cases hx with
   |@aa _ _ _ _ a' K f h1 h2 h3 h4 h5 h6 h7=>
    obtain⟨blk,o,sp⟩:=a';simp only at h1 h2 h6;subst h2;have hK:K=s:=by
     have hm:xs[l]'(by omega)∈xs:=aF _;have:=aG.1 c3 _ hm;rw[←h5 _ hm];simpa using this
    subst hK;have hl2:((xs.drop l).take (h-l)).length=h-l:=by simp;omega
    have:=R.aa (M:=M) (w:=w) (c:=c) (b:=b) (xs:=(xs.drop l).take (h-l)) (cap:=cap-l) (a:=⟨blk,o+l*K,none⟩) K (fun i j=>f (l+i) j) h1 rfl (by omega) h4 (fun y hy=>h5 y (cQ (bv hy)))
     (fun i j hi hj=>by
      have:=h6 (l+i) j (by omega) hj;rw[show o+l*K+i*K+j=o+(l+i)*K+j by rw[du];omega];exact this)
     (fun i hi j hj=>by
      have hi':l+i<xs.length:=by omega
      have e:((xs.drop l).take (h-l))[i]=xs[l+i]:=by simp
      have hj':j<(cellsOf xs[l+i]).length:=by rw[←e];exact hj
      have:=h7 (l+i) hi' j hj';simp only[dW,dU];exact this)
    rw[hl2]at this;simpa [jO] using this
   |imm0=>simp at c2;omega
  cases hv
 |lst xs=>
  simp only[aslice]at hv;split at hv
  ·rename_i hc;obtain⟨c1,c2,c3⟩:=hc;cases hv;simp only[kM,aJ]at hn;subst hn;refine⟨_,hrun c1 c2,?_⟩;by_cases h0:h=l
   ·subst h0;simp;exact .lst0
   rw[if_neg (by omega)];cases hx with
   |@lst _ _ _ a' K f h1 h2 h3 h4 h5 h6 h7=>
    obtain⟨blk,o,sp⟩:=a';simp only at h1 h2 h6;subst h2;have hK:K=s:=by
     have hm:xs[l]'(by omega)∈xs:=aF _;have:=aG.1 c3 _ hm;rw[←h5 _ hm];simpa using this
    subst hK;have hl2:((xs.drop l).take (h-l)).length=h-l:=by simp;omega
    have:=R.lst (M:=M) (w:=w) (c:=c) (xs:=(xs.drop l).take (h-l)) (cap:=cap-l) (a:=⟨blk,o+l*K,none⟩) K (fun i j=>f (l+i) j) h1 rfl (by omega) h4 (fun y hy=>h5 y (cQ (bv hy)))
     (fun i j hi hj=>by
      have:=h6 (l+i) j (by omega) hj;rw[show o+l*K+i*K+j=o+(l+i)*K+j by rw[du];omega];exact this)
     (fun i hi j hj=>by
      have hi':l+i<xs.length:=by omega
      have e:((xs.drop l).take (h-l))[i]=xs[l+i]:=by simp
      have hj':j<(cellsOf xs[l+i]).length:=by rw[←e];exact hj
      have:=h7 (l+i) hi' j hj';simp only[dW,dU];exact this)
    rw[hl2]at this;simpa [jO] using this
   |lst0=>simp at c2;omega
  cases hv
 |aj=>
  simp only[aslice]at hv;split at hv
  ·rename_i hc;obtain⟨rfl,rfl⟩:=hc;cases hv;refine⟨_,hrun (aM _) (bP _),?_⟩;cases hx;simp;exact .aj
  cases hv
 |sl id ep off m=>
  simp only[aslice]at hv;split at hv
  ·rename_i hc;obtain⟨c1,c2,c3⟩:=hc;cases hv;simp only[kM]at hn;split at hn
   ·rename_i hf;obtain⟨k,es,he,hH⟩:=wB hs hf;cases hn;have hsk:k=s:=by simp only[VV,he]at c3;exact cB c3
    subst hsk;refine⟨_,hrun c1 c2,?_⟩;by_cases hcl:cap=l
    ·have h0:h=l:=by omega
     have hlt:id<c.N:=by cases hx<;>assumption
     subst hcl h0;simp;exact .sl0 hlt hH
    rw[if_neg hcl];cases hx with
    |@sl _ _ _ _ _ _ k2 blk h1 h2 h3 h4 h5=>
     have hkk:k2=k:=by rw[hH]at h2;cases h2;rfl
     subst hkk;simp only[dd,jO,←Nat.add_mul];exact .sl h1 hH h3 (by omega) (by rw[show off+l+(cap-l)=off+cap by omega];exact h5)
    |sl0=>omega
    |slOld h0 h1 h2=>exact absurd (h2 _ _ hH) (dr _)
   cases hn
  cases hv
 |_=>simp[aslice]at hv
end Go.AM
namespace Go.AM
variable {M:cZ} {w:World} {P:Program}
def lr(M:cZ)(w:World)(c:cX)(env ls:List ap)(rs:Tmp→Option cP)(tmps:Array Value):Prop:=
 ∀t o,rs t=some o→R M w c (o.eval env ls) (tmps.getD t undef)
theorem lr.ext{c c':cX}{w':World}{rs:Tmp→Option cP}{env ls:List ap}{tmps:Array Value}(h:lr M w c env ls rs tmps)(he:Ext c w c' w'):lr M w' c' env ls rs tmps:=
 fun t o ho=>(h t o ho).ext he
theorem qD{a:Act}{d t:Tmp}{v:Value}(hd:d<a.tmps.size):(a.put (some d) v).tmps.getD t undef=if t=d then v else a.tmps.getD t undef:=by
 simp only[Act.put,bJ,dv];by_cases h:d=t
 ·subst h;simp[hd]
 have:¬t=d:=fun e=>h e.symm;simp[h,this]
def I1:ap→ap→Bool
 |.int k n,.int k' n'=>k==k'&&n==n'
 |.bool a,.bool b=>a==b
 |.str a,.str b=>a==b
 |.nilp,.nilp=>true
 |.nilf,.nilf=>true
 |.nilm,.nilm=>true
 |_,_=>false
theorem OX{a b:ap}(h:I1 a b=true):a=b:=by
 cases a<;>cases b<;>simp[I1]at h<;>first|rfl|(subst h;rfl)|(obtain⟨h1,h2⟩:=h;subst h1 h2;rfl)
def B0:cP→cP→Bool
 |.env i,.env j=>i==j
 |.loc i,.loc j=>i==j
 |.val a,.val b=>I1 a b
 |_,_=>false
theorem sJ{a b:cP}(h:B0 a b=true):a=b:=by
 cases a<;>cases b<;>simp[B0]at h<;>first|rw[h]|rw[OX h]
def FK(a b:ap):Bool:=isAgg a&&isAgg b&&(lN (cellsOf a) (cellsOf b)==some true)
theorem KC{a b:ap}(h:p5 a b=some true):a=b:=by
 cases a<;>cases b<;>simp[p5]at h
 ·obtain⟨rfl,rfl⟩:=h;rfl
 ·subst h;rfl
 subst h;rfl
theorem zz:∀{a b:List ap},lN a b=some true→a=b
 |[],[],_=>rfl
 |[],_::_,h=>by simp[lN]at h
 |_::_,[],h=>by simp[lN]at h
 |a::x,b::y,h=>by
  simp only[lN,aN]at h;obtain⟨t,h1,h2⟩:=h;cases t with
  |true=>rw[KC h1,zz h2]
  |false=>simp[aY]at h2
theorem LX{a b:ap}(h:FK a b=true):a=b:=by
 simp only[FK,aq,aP]at h;obtain⟨⟨h1,h2⟩,h3⟩:=h;obtain⟨x,rfl⟩:=oh h1;obtain⟨y,rfl⟩:=oh h2;have h3':lN x y=some true:=h3;rw[zz h3']
def lM(M:cZ)(rs:Tmp→Option cP):Operand→cP→Bool
 |.tmp t,x=>match rs t with
  |some o=>B0 o x
  |none=>false
 |.const v,.val a=>ms M.fm 6 v a
 |.func f,.val (.fn n [] [])=>M.fm n==f
 |.global g,.val (.cptr false a 0)=>match M.glob g with
  |some a'=>FK a' a
  |none=>false
 |_,_=>false
def iW(M:cZ)(w:World)(c:cX):Prop:=∀g a,M.glob g=some a→R M w c (.cptr false a 0) (.pointer (some ⟨g,0,none⟩))
theorem iW.ext{c c':cX}{w':World}(h:iW M w c)(he:Ext c w c' w'):iW M w' c':=fun g a hg=>(h g a hg).ext he
theorem Hy{c:cX}{rs:Tmp→Option cP}{env ls:List ap}{a:Act}(h:lr M w c env ls rs a.tmps)(hg:iW M w c){x:Operand}{x':cP}(hx:lM M rs x x'=true) :
  R M w c (x'.eval env ls) (a.eval x):=by
 unfold lM at hx;split at hx
 ·split at hx
  ·rename_i o ho;have:=sJ hx;subst this;exact h _ _ ho
  cases hx
 ·exact rC hx
 ·rename_i f n;have:M.fm n=f:=by simpa using hx
  subst this;exact .fn (fun _=>undef) (fun _=>undef) rfl rfl (by simp) (by simp) (by simp) (by simp)
 ·split at hx
  ·rename_i a' ha;have:=LX hx;subst this;exact hg _ _ ha
  cases hx
 cases hx
structure rk (F:Fence):Prop where
 fn:∀f,F.fn f
 depth:F.depth=none
 alive:F.alive=false
theorem rk.inRound{F:Fence}(h:rk F)(l:Nat):rk (F.inRound l):=⟨h.fn,h.depth,h.alive⟩
theorem oA.wp{F:Fence}{n:Nat}(hF:rk F){c:cX}{o:Oper}{a:Act}{v:ap}{σ':ay}(h:oA M P c w (execOp a.eval o) v σ')(hd:∀c,o.op≠.defer c){K:Act→World→Prop}{Q:Exit→Act→World→Prop}
  (hK:∀cv w' c',ei M w' c' σ'→iD c w c' w'→R M w' c' v cv→K (a.put o.dst cv) w'):o.wpIn F n P a w K Q:=by
 obtain⟨nx,w',c',cv,h1,h2,h3,h4,h5⟩:=h;refine⟨fun f _=>hF.fn f,?_⟩;rw[Oper.semAt_eq _ _ _ hd,h1];rcases h2 with rfl|⟨rfl,rfl⟩
 ·exact hK cv w' c' h3 h4 h5
 exact hK undef w' c' h3 h4 h5
end Go.AM
namespace Go.AM
variable {M:cZ} {w:World} {P:Program}
def afD(M:cZ)(n0:Nat)(w:World)(c:cX)(k:Nat)(xs:List ap)(cv:Value):Prop:=
 k≠0∧(∀x∈xs,aC x=k) ∧
 ((xs=[]∧∃a,cv=.slice a 0 0) ∨
  ∃(b cap:Nat) (cs:Array Value) (T:TypeId) (f:Nat→Nat→Value),cv=.slice (some ⟨b,0,none⟩) xs.length cap∧n0≤b∧w.heap[b]?=some (.cells cs T (0,0))∧¬c.bor b∧(∀id,c.H id≠.dead→c.place id≠some b) ∧
   xs.length≤cap∧cap*k≤cs.size∧(∀i j,i<xs.length→j<k→cs[i*k+j]?=some (f i j)∧(f i j).oneCell'=true) ∧
   ∀i (hi:i<xs.length) j (hj:j<(cellsOf xs[i]).length),R M w (c.still false) (cellsOf xs[i])[j] (f i j))
inductive RF (M:cZ) (n0:Nat) (w:World) (c:cX):ap→Value→Prop
 |r {v cv}:R M w c v cv→RF M n0 w c v cv
 |frs {k xs cv}:afD M n0 w c k xs cv→RF M n0 w c (.frs k xs) cv
 |tup {k xs vs cv} {cvs:Array Value} (f:Nat→Value):afD M n0 w c k xs cv→cvs.size=vs.length+1→cvs[0]?=some cv→(∀i (h:i<vs.length),cvs[i+1]?=some (f i))→(∀i (h:i<vs.length),R M w c vs[i] (f i)) →
   RF M n0 w c (.tup (.frs k xs::vs)) (.tuple cvs)
theorem ei.stillOld{c:cX}{σ:ay}(hs:ei M w c σ){b:Nat}(hb:b<w.heap.size)(hl:∀id,c.H id≠.dead→c.place id≠some b) :
  ei M w (c.addStill b) σ∧Ext c w (c.addStill b) w:=by
 have hext:Ext c w (c.addStill b) w:=⟨fun _ h=>.inl h,fun _ h=>.inl h,fun _ _=>rfl,aM _,fun _ _=>.inl rfl,fun _ _ _ _=>⟨rfl,rfl,rfl⟩⟩;refine⟨⟨hs.H,hs.N,fun b hb=>hb.imp (hs.sb b) id,fun x hx=>?_,fun id x h1 h2=>?_,hs.inj,fun id o' ho=>(hs.obj id o' ho).ext hext (fun _=>⟨rfl,rfl,rfl⟩) fun _ _ _=>rfl⟩,hext⟩
 ·rcases hx with hx|hx
  ·exact hs.low x hx
  rw[hx];exact hb
 obtain⟨a1,a2⟩:=hs.plow id x h1 h2;exact⟨a1,fun hx=>hx.elim a2 (fun e=>hl id h1 (by rw[←e];exact h2))⟩
theorem iD.stillOld{c c':cX}{w':World}{b:Nat}(h:iD c w c' w')(hb:w.heap.size≤b)(he:Ext c' w' (c'.addStill b) w'):iD c w (c'.addStill b) w':=
 { Ext.trans h.toExt he with same:=h.same,size:=h.size,frame:=h.frame,liv:=h.liv,old:=fun x hx hlt=>hx.elim (fun hx=>h.old x hx hlt) fun e=>by omega,oldb:=fun x hx hlt=>hx.elim (fun hx=>h.oldb x hx hlt) fun e=>by omega }
theorem ei.adopt{c c0:cX}{w0:World}{σ:ay}(hs:ei M w c σ)(hst:iD c0 w0 c w){b k:Nat}{xs:List ap}{cs:Array Value}{T:TypeId}{f:Nat→Nat→Value}(hb0:w0.heap.size≤b)(hb:w.heap[b]?=some (.cells cs T (0,0)))(hnb:¬c.bor b)(hl:∀id,c.H id≠.dead→c.place id≠some b)
  (hk:k≠0) (hall:∀x∈xs,aC x=k) (hsz:xs.length*k≤cs.size) (hc:∀i j,i<xs.length→j<k→cs[i*k+j]?=some (f i j)∧(f i j).oneCell'=true)
  (hr:∀i (hi:i<xs.length) j (hj:j<(cellsOf xs[i]).length),R M w c (cellsOf xs[i])[j] (f i j)) :
  ∃c',c'.N=σ.length+1∧c'.H σ.length=.arr k 0∧c'.place σ.length=some b∧c'.room σ.length=cs.size∧ei M w c' (σ++[.arr k 0 xs])∧iD c0 w0 c' w∧Ext c w c' w:=by
 have hbs:b<w.heap.size:=(bH.1 hb).1;have hext:=Ext.grow (w':=w) hs (.arr k 0 xs) (some b) cs.size (c.loops 0) (fun _ _=>rfl);have key:∀i,hd (σ++[.arr k 0 xs]) i≠.dead→i≠c.N→c.H i≠.dead:=fun i hi hne=>by
  have hlt:i<σ.length:=by
   have:=BW hi;rw[hs.N]at hne;simp at this;omega
  rwa [rj hlt,←hs.H]at hi
 refine⟨c.grow (σ++[.arr k 0 xs]) (some b) cs.size (c.loops 0),by simp[cX.grow],?_,by simp[cX.grow,hs.N],by simp[cX.grow,hs.N],?_,?_,hext⟩
 ·show hd (σ++[.arr k 0 xs]) σ.length=_;rw[eI mj]
 ·refine⟨rfl,rfl,hs.sb,hs.low,fun id x h1 h2=>?_,fun i j x hi hj hbi hbj=>?_,fun id o ho=>?_⟩
  ·simp only[cX.grow]at h1 h2 ⊢;split at h2
   ·cases h2;exact⟨hbs,hnb⟩
   rename_i hne;exact hs.plow id x (key id h1 hne) h2
  ·simp only[cX.grow]at hi hj hbi hbj;split at hbi
   ·split at hbj
    ·omega
    rename_i h1 h2;cases hbi;exact absurd hbj (hl j (key j hj h2))
   rename_i h1;split at hbj
   ·cases hbj;exact absurd hbi (hl i (key i hi h1))
   rename_i h2;exact hs.inj i j x (key i hi h1) (key j hj h2) hbi hbj
  by_cases hlt:id<σ.length
  ·rw[bB hlt]at ho;have hne:id≠c.N:=by rw[hs.N];omega
   exact (hs.obj id o ho).ext hext (fun _=>by simp[cX.grow,hne]) fun _ _ _=>rfl
  have:id=σ.length:=by
   have:=(al.1 ho).1;simp at this;omega
  subst this;rw[mj]at ho;cases ho;refine⟨hk,hall,fun hn=>by simp[cX.grow,hs.N]at hn,fun x hx=>?_⟩;have hx':x=b:=by simp[cX.grow,hs.N]at hx;exact hx.symm
  subst hx';exact⟨cs,T,f,hb,hsz,by simp[cX.grow,hs.N],hc,fun i hi j hj=>(hr i hi j hj).ext hext⟩
 exact { Ext.trans hst.toExt hext with
  same:=hst.same
  size:=hst.size
  frame:=hst.frame
  old:=hst.old
  oldb:=hst.oldb
  liv:=fun id x h1 h2 hx=>by
   simp only[cX.grow]at h1 h2;split at h2
   ·cases h2;omega
   rename_i hne;exact hst.liv id x (key id h1 hne) h2 hx }
theorem Dx{c0 c:cX}{w0:World}{σ:ay}(hs:ei M w c σ)(hst:iD c0 w0 c w){v:ap}{cv:Value}(hv:RF M w0.heap.size w c v cv)(hnt:∀vs,v≠.tup vs)(mat:Bool) :
  ∃c',ei M w c' (sx mat v σ).2∧iD c0 w0 c' w∧Ext c w c' w∧R M w c' (sx mat v σ).1 cv:=by
 cases hv with
 |r h=>
  have e:sx mat v σ=(v,σ):=by
   cases h<;>rfl
  rw[e];exact⟨c,hs,hst,.refl c w,h⟩
 |tup f h=>exact absurd rfl (hnt _)
 |@frs k xs _ h=>
  obtain⟨hk,hall,h⟩:=h;cases mat with
  |true=>
   show ∃c',ei M w c' (σ++[.arr k 0 xs])∧iD c0 w0 c' w∧Ext c w c' w∧R M w c' (.sl σ.length 0 0 xs.length) cv;rcases h with⟨rfl,a,rfl⟩|⟨b,cap,cs,T,f,rfl,h1,h2,h3,h4,h5,h6,h7,h8⟩
   ·
    have hext:=Ext.grow (w':=w) hs (.arr k 0 []) none 0 (c.loops 0) (fun _ _=>rfl);refine⟨c.grow (σ++[.arr k 0 []]) none 0 (c.loops 0),?_,?_,hext,?_⟩
    ·refine hs.grow _ _ _ _ (fun _ _=>rfl) (aM _) (fun b hb=>by cases hb) ⟨hk,by simp,fun _=>rfl,fun b hb=>by simp[cX.grow,hs.N]at hb⟩
    ·exact iD.trans hst (iD.grow hs _ _ _ _ (.refl w) (fun _ _=>rfl) (aM _) (fun b hb=>by cases hb))
    exact .sl0 (by simp[cX.grow]) (show hd (σ++[.arr k 0 []]) σ.length=_ by rw[eI mj])
   obtain⟨c',a1,a2,a3,a4,a5,a6,a7⟩:=hs.adopt hst h1 h2 h3 h4 hk hall (aI (cd k h5) h6) h7 (fun i hi j hj=>(h8 i hi j hj).ext (Ext.ofStill hs.sb false));refine⟨c',a5,a6,a7,?_⟩;have:=R.sl (M:=M) (w:=w) (c:=c') (id:=σ.length) (ep:=0) (off:=0) (len:=xs.length) (cap:=cap) (k:=k) (blk:=b) (by omega) a2 a3 h5 (by rw[a4];simpa using h6);simpa using this
  |false=>
   show ∃c',ei M w c' σ∧iD c0 w0 c' w∧Ext c w c' w∧R M w c' (.aa false xs) cv;rcases h with⟨rfl,a,rfl⟩|⟨b,cap,cs,T,f,rfl,h1,h2,h3,h4,h5,h6,h7,h8⟩
   ·exact⟨c,hs,hst,.refl c w,.imm0⟩
   have hbs:b<w.heap.size:=(bH.1 h2).1;obtain⟨a1,a2⟩:=hs.stillOld hbs h4;refine⟨c.addStill b,a1,hst.stillOld h1 a2,a2,?_⟩
   exact R.aa (a:=⟨b,0,none⟩) k f (by simp[cX.addStill]) rfl h5 hk hall (fun i j hi hj=>by
    have:=h7 i j hi hj;simp only[World.cell?,h2,bS];exact this) (fun i hi j hj=>(h8 i hi j hj).ext (a2.still false))
theorem ZF{c0 c:cX}{w0:World}{σ:ay}(hs:ei M w c σ)(hst:iD c0 w0 c w){v:ap}{cv:Value}(hv:RF M w0.heap.size w c v cv)(mat:Bool) :
  ∃c',ei M w c' (mater mat (v,σ)).2∧iD c0 w0 c' w∧R M w c' (mater mat (v,σ)).1 cv:=by
 by_cases ht:∃vs,v=.tup vs
 ·obtain⟨vs,rfl⟩:=ht;cases vs with
  |nil=>
   cases hv with
   |r h=>exact⟨c,hs,hst,h⟩
  |cons v0 vs=>
   show ∃c',ei M w c' (sx mat v0 σ).2∧iD c0 w0 c' w∧R M w c' (.tup ((sx mat v0 σ).1::vs)) cv;cases hv with
   |r h=>
    cases h with
    |@tup _ _ cvs f h1 h2 h3=>
     have h0:=h3 0 (by simp);simp only[cO]at h0;have hnt:(∃us,v0=.tup us)∨∀us,v0≠.tup us:=by
      by_cases h:∃us,v0=.tup us
      ·exact .inl h
      exact .inr fun us e=>h ⟨us,e⟩
     rcases hnt with⟨us,rfl⟩|hnt
     ·exact⟨c,hs,hst,.tup f h1 h2 h3⟩
     obtain⟨c',a1,a2,a3,a4⟩:=Dx hs hst (.r h0) hnt mat;refine⟨c',a1,a2,.tup f (by simpa using h1) (fun i hi=>h2 i (by simpa using hi)) (fun i hi=>?_)⟩;cases i with
     |zero=>exact a4
     |succ i=>exact (h3 (i+1) (by simpa using hi)).ext a3
   |@tup k xs _ cv0 cvs f h h1 h2 h3 h4=>
    obtain⟨c',a1,a2,a3,a4⟩:=Dx hs hst (.frs h) (by intro us e;cases e) mat;refine⟨c',a1,a2,.tup (fun i=>if i=0 then cv0 else f (i-1)) (by simpa using h1) (fun i hi=>?_) (fun i hi=>?_)⟩
    ·cases i with
     |zero=>exact h2
     |succ i=>simpa using h3 i (by simpa using hi)
    cases i with
    |zero=>exact a4
    |succ i=>
     have:=(h4 i (by simpa using hi)).ext a3;simpa using this
 obtain⟨c',a1,a2,_,a4⟩:=Dx hs hst hv (fun vs e=>ht ⟨vs,e⟩) mat;have e:mater mat (v,σ)=sx mat v σ:=by
  unfold mater;cases v<;>first|rfl|exact absurd ⟨_,rfl⟩ ht
 rw[e];exact⟨c',a1,a2,a4⟩
def oo(F:Fence)(n:Nat)(P:Program)(f:FuncId)(cargs:Array Value)(w:World)(R:Value→World→Prop):Prop:=
 ((callFunc f cargs).run P w=.ok (.enter f cargs) w∧CallsIn F n P f cargs w fun e w'=>∃cv,e=.returned cv∧R cv w') ∨
 ∃cv w',(callFunc f cargs).run P w=.ok (.value cv) w'∧R cv w'
def iX(M:cZ)(w:World)(c:cX)(args:List ap)(cargs:Array Value):Prop:=
 cargs.size=args.length∧∀i (h:i<args.length),∃x,cargs[i]?=some x∧R M w c args[i] x
def fU(M:cZ)(c:cX)(w:World)(σ':ay)(v:ap)(cv:Value)(w':World):Prop:=
 ∃c',ei M w' c' σ'∧iD c w c' w'∧RF M w.heap.size w' c' v cv
def jP(M:cZ)(P:Program)(C:gn):Prop:=
 ∀f args σ v σ',C f args σ=some (v,σ')→∀(F:Fence) (n:Nat) (w:World) (c:cX) (cargs:Array Value),rk F→ei M w c σ→iW M w c→iX M w c args cargs →
  oo F n P (M.fm f) cargs w (fU M c w σ' v)∧((∃a∈args,js a=false)→∀(cargs':Array Value) (w':World),(callFunc (M.fm f) cargs').run P w'=.ok (.enter (M.fm f) cargs') w')
def jE(M:cZ)(P:Program)(C:gn):Prop:=
 ∀site l env args σ v σ',C site (.frs l []::env++args) σ=some (v,σ')→∀(F:Fence) (n:Nat) (w:World) (c:cX) (cargs:Array Value) (x:Value),rk F→ei M w c σ→iW M w c→iX M w c args cargs→jc σ l=true →
  R M w c (.yld l site env) x→∃b tmps w1,x=.func (.yield b) #[] #[]∧(Instr.yield b cargs).run P w=.ok (.round b (c.loops l).fn tmps (c.loops l).assign (c.loops l).body) w1 ∧
   RoundIn F n P b (c.loops l).fn tmps (c.loops l).assign (c.loops l).body w1 fun e w'=>∃cv,e=.returned cv∧fU M c w σ' v cv w'
theorem oo.wp{F:Fence}{n:Nat}(hF:rk F){f:FuncId}{cargs:Array Value}{o:Oper}{a:Act}{R':Value→World→Prop}(h:∀n,oo F n P f cargs w R')(he:execOp a.eval o=callFunc f cargs)(hd:∀c,o.op≠.defer c)
  {K:Act→World→Prop} {Q:Exit→Act→World→Prop} (hK:∀cv w',R' cv w'→K (a.put o.dst cv) w'):o.wpIn F n P a w K Q:=by
 refine⟨fun f _=>hF.fn f,?_⟩;rw[Oper.semAt_eq _ _ _ hd,he];rcases h (n-1) with⟨h1,h2⟩|⟨cv,w',h1,h2⟩
 ·rw[h1];refine⟨fun hx=>absurd hx (by rw[hF.depth];simp),h2.mono fun e w' ⟨cv,hcv,hr⟩=>?_⟩;subst hcv;exact hK cv w' hr
 rw[h1];exact hK cv w' h2
theorem fU.mater{c:cX}{σ':ay}{v:ap}{cv:Value}{w':World}(h:fU M c w σ' v cv w')(mat:Bool) :
  ∃c',ei M w' c' (mater mat (v,σ')).2∧iD c w c' w'∧R M w' c' (mater mat (v,σ')).1 cv:=
 let ⟨_,h1,h2,h3⟩:=h
 ZF h1 h2 h3 mat
theorem Wi{c:cX}{rs:Tmp→Option cP}{env ls:List ap}{a:Act}(h:lr M w c env ls rs a.tmps)(hg:iW M w c):∀{xs:List Operand} {xs':List cP},xs.length=xs'.length→((xs.zip xs').all fun p=>lM M rs p.1 p.2)=true →
  ∀i (h:i<xs'.length),∃x,(xs.map a.eval)[i]?=some x∧R M w c (xs'[i].eval env ls) x
 |[],[],_,_,i,hi=>absurd hi (by simp)
 |[],_::_,hl,_,_,_=>by simp at hl
 |_::_,[],hl,_,_,_=>by simp at hl
 |x::xs,x'::xs',hl,hok,i,hi=>by
  simp only[gz,eL,aq]at hok;cases i with
  |zero=>exact⟨_,rfl,Hy h hg hok.1⟩
  |succ i=>simpa using Wi h hg (by simpa using hl) hok.2 i (by simpa using hi)
end Go.AM
namespace Go.AM
variable (M:cZ) (P:Program) (rs:Tmp→Option cP)
def BA(T:TypeId)(k:Nat):Bool:=(P.info? T).map (·.size)==some k&&k != 0
def pV(T:TypeId)(z:ap):Bool:=match (P.info? T).map (·.zero) with
 |some (some v)=>ms M.fm 8 v z
 |_=>false
def ry(T:TypeId)(k:Nat):Bool:=match (P.info? T).map fun i=>(i.zero,i.bytes) with
 |some (some v,b)=>v.cells.size==k&&decide (b≤1024)&&b != 0
 |_=>false
def mL(T:TypeId):Option TypeId:=match P.underlying T with
 |some (.slice e)=>some e
 |_=>none
def X5(T:TypeId):Bool:=match P.underlying T with
 |some (.int _)=>false
 |some _=>true
 |none=>false
def XV(T:TypeId)(k:IntKind):Bool:=match P.underlying T with
 |some (.int j)=>j==k
 |_=>false
def yb(T:TypeId):Bool:=match P.underlying T with
 |some (.int _)=>true
 |_=>false
def KI(T:TypeId):Bool:=match P.underlying T with
 |some .string=>true
 |_=>false
def Cb:Option Operand→Option cP→Bool
 |none,none=>true
 |some x,some x'=>lM M rs x x'
 |_,_=>false
def vO(xs:List Operand)(xs':List cP):Bool:=xs.length==xs'.length&&(xs.zip xs').all fun p=>lM M rs p.1 p.2
def rL(place:Nat→Option (Nat×Nat)):List (Nat×Operand)→List (Nat×Nat×cP)→Bool
 |[],[]=>true
 |(i,x)::ps,(off,s,x')::qs=>place i==some (off,s)&&lM M rs x x'&&rL place ps qs
 |_,_=>false
def Ds(S:TypeId)(i:Nat):Option Field:=match P.underlying S with
 |some (.struct fs)=>fs[i]?
 |_=>none
end Go.AM
namespace Go.AM
variable {M:cZ} {w:World} {P:Program}
theorem kJ{T:TypeId}{k:Nat}(h:BA P T k=true):(P.info? T).map (·.size)=some k∧k≠0:=by
 simpa [BA] using h
theorem gF{T e:TypeId}(h:mL P T=some e):P.underlying T=some (.slice e):=by
 unfold mL at h;split at h
 ·cases h;assumption
 cases h
theorem q8{T:TypeId}{z:ap}(h:pV M P T z=true):∃i v,P.info? T=some i∧i.zero=some v∧(∀w,(zeroValue T).run P w=.ok v w)∧ms M.fm 8 v z=true:=by
 unfold pV at h;unfold zeroValue typeInfo;cases hq:P.info? T with
 |none=>simp[hq]at h
 |some i=>
  simp only[hq,dd]at h;cases hz:i.zero with
  |none=>simp[hz]at h
  |some v=>
   rw[hz]at h;exact⟨i,v,rfl,hz,fun w=>by simp[hq,hz],h⟩
theorem rM{T:TypeId}{k:Nat}(h:ry P T k=true):∃i z,P.info? T=some i∧i.zero=some z∧z.cells.size=k∧i.bytes≤1024∧i.bytes≠0∧∀w,(zeroValue T).run P w=.ok z w:=by
 unfold ry at h;cases hq:P.info? T with
 |none=>simp[hq]at h
 |some i=>
  simp only[hq,dd]at h;cases hz:i.zero with
  |none=>simp[hz]at h
  |some v=>
   rw[hz]at h;simp only[aq,aP,aL,gO]at h;exact⟨i,v,rfl,hz,h.1.1,h.1.2,h.2,fun w=>by simp[zeroValue,typeInfo,hq,hz]⟩
theorem Of{c:cX}{v:ap}{cv:Value}(h:R M w c v cv){k:Nat}(hn:aC v=k)(hk:k≠0):cv.cells.size=k:=by
 obtain⟨_,_,h2,_⟩:=pk h (by omega);omega
theorem Kb{c:cX}{σ:ay}(hs:ei M w c σ){T e:TypeId}{k len:Nat}(hT:P.underlying T=some (.slice e))(hk:(P.info? e).map (·.size)=some k)(hk0:k≠0)(hz:ry P e k=true)(hb:len*k≤2^24)
  {vs:List ap} {cvs:List Value} (hl:vs.length=len) (hlc:cvs.length=len) (hr:∀i (h:i<vs.length) (h':i<cvs.length),R M w c vs[i] cvs[i]) (hn:∀v∈vs,aC v=k) (hlen:len≠0) {parts:Array (Nat×Value)} (hp:parts.toList=(List.range len).zip cvs) :
  oA M P c w (do pure (.value (←Instr.buildSlice T len parts))) (.lst vs) σ:=by
 obtain⟨i,z,z1,z2,z3,_,_,z4⟩:=rM hz;obtain⟨f,f1,f2,f3⟩:=Fr (c:=c) hk0 (by omega) hr hn;obtain⟨B,b1,b2,b3⟩:=FM k cvs 0 ((Array.range (len*k)).map (z.cells[· % z.cells.size]!)) (fun v hv=>by
  obtain⟨j,hj,rfl⟩:=dm.1 hv;exact Of (hr j (by omega) hj) (hn _ (aF _)) hk0) (by simp;rw[hlc];exact aM _)
 rw[hlc,←List.range_eq_range']at b1;obtain⟨h1,h2⟩:=hs.addStill (.cells B e (0,0));have hlk:¬(len*k=0):=fun e=>(mJ.1 e).elim hlen hk0;refine⟨.value (.slice (some ⟨w.heap.size,0,none⟩) len len),kT w (.cells B e (0,0)),c.addStill w.heap.size,_,?_,.inl rfl,h1,h2,?_⟩
 ·have hb':¬(16777216<len*k):=by omega
  simp[Instr.buildSlice,bm hT,fQ hk,z4,hp,hb',hlk,newRow,b1];rfl
 have:=R.lst (M:=M) (w:=kT w (.cells B e (0,0))) (c:=c.addStill w.heap.size) (xs:=vs) (a:=⟨w.heap.size,0,none⟩) (cap:=len) k f (by simp[cX.addStill]) rfl (by omega) hk0 hn (fun i j hi hj=>by
  have:=f2 i j hi hj;simp only[World.cell?,p8];have hlt:=oT hi hj;have hb3:=b3 (i*k+j);rw[if_pos (by rw[hlc,bS];rw[hl]at hlt;omega)]at hb3;rw[show 0+i*k+j=i*k+j by omega];refine⟨?_,this.2⟩;rw[show i*k+j-0*k=i*k+j by omega,this.1]at hb3;exact hb3) (fun i hi j hj=>(f3 i hi j hj).ext h2.toExt)
 rw[hl]at this;exact this
theorem Cz{c:cX}{σ:ay}(hs:ei M w c σ){k:Nat}(hk:k≠0)(a:Option Addr) :
  ∃c',ei M w c' (σ++[.arr k 0 []])∧iD c w c' w∧R M w c' (.sl σ.length 0 0 0) (.slice a 0 0):=by
 refine⟨c.grow (σ++[.arr k 0 []]) none 0 (c.loops 0),?_,?_,?_⟩
 ·refine hs.grow _ _ _ _ (fun _ _=>rfl) (aM _) (fun b hb=>by cases hb) ⟨hk,by simp,fun _=>rfl,fun b hb=>by simp[cX.grow,hs.N]at hb⟩
 ·exact iD.grow hs _ _ _ _ (.refl w) (fun _ _=>rfl) (aM _) (fun b hb=>by cases hb)
 exact .sl0 (by simp[cX.grow]) (show hd (σ++[.arr k 0 []]) σ.length=_ by rw[eI mj])
theorem aeC{c:cX}{σ:ay}(hs:ei M w c σ){T e:TypeId}{k:Nat}(hT:P.underlying T=some (.slice e))(hk0:k≠0)(hz:ry P e k=true){zero:ap}(hz':pV M P e zero=true)(hn:aC zero=k){m:Nat}(hm:m≤most)(hk:(P.info? e).map (·.size)=some k){k1 k2:IntKind} :
  oA M P c w (do pure (.value (←Instr.makeSlice T (.int k1 m) (.int k2 m)))) (.sl σ.length 0 0 m) (σ++[.arr k 0 (List.replicate m zero)]):=by
 obtain⟨i,z,z1,z2,z3,zb,_,z4⟩:=rM hz;obtain⟨i',z',y1,y2,y3,y4⟩:=q8 hz';rw[z1]at y1;cases y1;rw[z2]at y2;cases y2;have hsz:i.size=k:=by rw[z1]at hk;simpa using hk
 have hR:R M w c zero z:=rC y4;obtain⟨g,hg,hgs,hgc⟩:=pk hR (by omega);have hmost:most=68719476736:=rfl;have hby:(i.bytes:Int)*(m:Int)≤281474976710656:=by
  have:i.bytes*m≤1024*m:=cd m zb;have:i.bytes*m≤281474976710656:=by omega
  rw[←Int.natCast_mul];exact Int.ofNat_le.2 this
 have hrun:=run_make (P:=P) w T e i z hT z1 z2 k1 k2 m m (by omega) (Int.le_refl _) hby (by omega)
 obtain⟨c',h1,h2,h3,h4,hsim,hstp⟩:=hs.newArr (ep:=0) (T:=e) (es:=List.replicate m zero) (cs:=madeCells z.cells (m*k)) (fun _ j=>g j) hk0 (fun x hx=>by rw[(List.mem_replicate.1 hx).2];exact hn) (by simp[size_madeCells])
  (fun i' j hi hj=>by
   have hi':i' < m:=by simpa using hi
   have hlt:=oT hi' hj;have e1:(i' * k+j)%k=j:=by rw[gq,ky,jL hj]
   have e2:=hgc j (by omega);refine⟨?_,hg.one j (by omega)⟩;have e3:z.cells[j]! = g j:=by rw[getElem!_def,e2]
   simp[madeCells,hlt,z3,e1,e3])
  (fun i' hi j hj=>by
   have e1:(List.replicate m zero)[i']=zero:=iZ ..;simp only[e1]at hj ⊢;exact hg.rel j hj)
 refine⟨.value (.slice (some ⟨w.heap.size,0,none⟩) m m),_,c',_,?_,.inl rfl,hsim,hstp,?_⟩
 ·rw[Sem.run_bind,hrun];simp[hsz];rfl
 have:=R.sl (M:=M) (w:=kT w (.cells (madeCells z.cells (m*k)) e (0,0))) (c:=c') (id:=σ.length) (ep:=0) (off:=0) (len:=m) (cap:=m) (k:=k) (blk:=w.heap.size) (by omega) h2 h3 (aM _) (by rw[h4,size_madeCells];simp);simpa using this
theorem aal{c:cX}{σ:ay}(hs:ei M w c σ)(T:TypeId):oA M P c w (do pure (.value (←Instr.makeMap T none))) (.mp σ.length) (σ++[.map []]):=by
 have hext:=Ext.grow (w':=kT w (.map #[] 0)) hs (.map []) (some w.heap.size) 0 (c.loops 0) (fun b hb=>gR hb);refine⟨.value (.map (some w.heap.size)),kT w (.map #[] 0),c.grow (σ++[.map []]) (some w.heap.size) 0 (c.loops 0),_,rfl,.inl rfl,?_,?_,?_⟩
 ·refine hs.grow _ _ _ _ (fun b hb=>gR hb) (by rw[fe];omega) (fun b hb=>by cases hb;rw[fe];omega) ?_;exact⟨w.heap.size,0,#[],fun _=>undef,fun _=>undef,by simp[cX.grow,hs.N],p8,rfl,fun i hi=>absurd hi (by simp),fun i hi=>absurd hi (by simp),fun i hi=>absurd hi (by simp)⟩
 ·exact iD.grow hs _ _ _ _ nV (fun b hb=>gR hb) (by rw[fe];omega) (fun b hb=>by cases hb;exact aM _)
 refine .mp (by simp[cX.grow]) ?_ (by simp[cX.grow,hs.N]);show hd (σ++[.map []]) σ.length=_;rw[eI mj]
def u5(M:cZ)(w:World)(c:cX)(es:List (ap×ap))(en:List MapEntry):Prop:=
 en.length=es.length∧∀i (h:i<es.length),∃e,en[i]?=some e∧gG (es[i]).1=true∧R M w c (es[i]).1 e.key∧R M w c (es[i]).2 e.val
theorem u5.tail{c:cX}{x:ap×ap}{es:List (ap×ap)}{e:MapEntry}{en:List MapEntry}(h:u5 M w c (x::es) (e::en)):u5 M w c es en:=
 ⟨by simpa using h.1,fun i hi=>by have:=h.2 (i+1) (by simpa using hi);simpa only [jg,iQ] using this⟩
theorem u5.head{c:cX}{x:ap×ap}{es:List (ap×ap)}{e:MapEntry}{en:List MapEntry}(h:u5 M w c (x::es) (e::en)):gG x.1=true∧R M w c x.1 e.key∧R M w c x.2 e.val:=by
 obtain⟨e',h1,h2,h3,h4⟩:=h.2 0 (by simp);simp at h1;subst h1;exact⟨h2,h3,h4⟩
theorem CO{c:cX}{a b:ap}{ca cb:Value}(ha:R M w c a ca)(hb:R M w c b cb){t:Bool}(h:s9 a b=some t){d:TypeDesc}(hd:∃q,d=.int q):Instr.sameNow d cb ca=some t∧(t=true→a=b):=by
 obtain⟨q,rfl⟩:=hd;unfold s9 at h;split at h
 ·split at h
  ·rename_i hk;subst hk;cases h;cases ha;cases hb;simp only[Instr.sameNow,cW,aJ];exact⟨by rw[eF,aP,aP,eq_comm],fun e=>by rw[aP]at e;rw[e]⟩
  cases h
 cases h
theorem Mu{c:cX}{k:ap}{ck:Value}(hk:R M w c k ck){d:TypeDesc}(hd:∃q,d=.int q):∀{es:List (ap×ap)} {en:List MapEntry} (n:Nat) {r:Option ap},u5 M w c es en→lookup k es=some r →
  (r=none∧Instr.findNow d ck en n=some none)∨∃v i cv,r=some v∧Instr.findNow d ck en n=some (some (i,cv))∧R M w c v cv
 |[],[],n,r,_,h=>by simp only[lookup,aJ]at h;exact .inl ⟨h.symm,rfl⟩
 |[],_::_,_,_,h,_=>by simp[u5]at h
 |_::_,[],_,_,h,_=>by simp[u5]at h
 |x::es,e::en,n,r,he,h=>by
  obtain⟨_,h2,h3⟩:=he.head;simp only[lookup]at h;split at h
  ·rename_i hq;obtain⟨a1,_⟩:=CO h2 hk hq hd;cases h;exact .inr ⟨_,n,_,rfl,by simp[Instr.findNow,a1],h3⟩
  ·rename_i hq;obtain⟨a1,_⟩:=CO h2 hk hq hd;rcases Mu hk hd (n+1) he.tail h with⟨b1,b2⟩|⟨v,i,cv,b1,b2,b3⟩
   ·exact .inl ⟨b1,by simp[Instr.findNow,a1,b2]⟩
   exact .inr ⟨v,i,cv,b1,by simp[Instr.findNow,a1,b2],b3⟩
  cases h
theorem yW{c:cX}{k:ap}{ck:Value}(hk:R M w c k ck)(h:gG k=true):∃q n,k=.int q n∧ck=.int q n:=by
 cases k<;>simp[gG]at h;cases hk;exact⟨_,_,rfl,rfl⟩
theorem nF{kt:TypeId}{q:IntKind}(hd:P.underlying kt=some (.int q))(e:Bool)(n:Nat)(v:Value):(Instr.checkKey e (n+1) kt v).run P w=.ok () w:=by
 unfold Instr.checkKey;simp only[Sem.run_bind,bm hd,Result.andThen_ok];cases v<;>rfl
theorem pv{kt:TypeId}{d:TypeDesc}{k:Value}{l:List MapEntry}{a:Option (Nat×Value)}(hd:P.underlying kt=some d)(h:Instr.findNow d k l 0=some a):(Instr.findKey kt k l).run P w=.ok a w:=by
 simp[Instr.findKey,bm hd,h]
theorem Ys{c:cX}{σ:ay}(hs:ei M w c σ){m:ap}{cm:Value}(hm:R M w c m cm){es:List (ap×ap)}(h:BU σ m=some es) :
  (cm=.map none∧es=[])∨∃r en cl,cm=.map (some r)∧w.heap[r]?=some (.map en cl)∧u5 M w c es en.toList:=by
 unfold BU at h;split at h
 ·rename_i b es';cases h;cases hm with
  |@imap _ _ _ r clock en f g h1 h2 h3 h4 h5 h6=>
   refine .inr ⟨r,en,clock,rfl,h2,by simpa using h3,fun i hi=>?_⟩;obtain⟨e,e1,e2,e3,e4⟩:=h4 i hi;refine⟨e,by simpa using e1,e4,?_,?_⟩
   ·rw[e2];exact (h5 i hi).ext (Ext.ofStill hs.sb b)
   rw[e3];exact (h6 i hi).ext (Ext.ofStill hs.sb b)
 ·cases h;cases hm;exact .inl ⟨rfl,rfl⟩
 ·rename_i id;unfold gX at h;split at h
  ·rename_i es' ho;cases h;obtain⟨b,cl,en,f,g,q1,q2,q3,q4,q5,q6⟩:=hs.obj id _ ho;have hH:c.H id=.map:=by rw[hs.H,eI ho]
   cases hm with
   |@mp _ _ blk h1 h2 h3=>
    rw[q1]at h3;cases h3;refine .inr ⟨b,en,cl,rfl,q2,by simpa using q3,fun i hi=>?_⟩;obtain⟨e,e1,e2,e3,e4⟩:=q4 i hi;exact⟨e,by simpa using e1,e4,e2▸q5 i hi,e3▸q6 i hi⟩
   |mpOld h0 h1 h2=>rw[hH]at h2;cases h2
  cases h
 cases h
theorem tJ{r:Nat}{es:Array MapEntry}{clock:Nat}(hb:w.heap[r]?=some (.map es clock)):(getObj r).run P w=.ok (.map es clock) w:=by
 simp[getObj,Sem.run,hb]
theorem Fj{r:Nat}{es:Array MapEntry}{clock:Nat}(o:Go.Obj)(hb:w.heap[r]?=some (.map es clock)):(setObj r o).run P w=.ok () { w with heap:=w.heap.setIfInBounds r o }:=by
 simp[setObj,Sem.run,hb]
theorem ae5{c:cX}{σ:ay}(hs:ei M w c σ){m k:ap}{cm ck:Value}(hm:R M w c m cm)(hk:R M w c k ck)(hkk:gG k=true){es:List (ap×ap)}(h:BU σ m=some es){r:Option ap}(hl:lookup k es=some r)
  {T kt et:TypeId} {q:IntKind} (hT:P.underlying T=some (.map kt et)) (hkt:P.underlying kt=some (.int q)) {zero:ap} (hz:pV M P et zero=true) (ok:Bool) :
  ∃cv,(Instr.lookup T cm ck ok).run P w=.ok cv w∧R M w c (if ok then .tup [r.getD zero,.bool r.isSome] else r.getD zero) cv:=by
 obtain⟨i,z,_,_,z3,z4⟩:=q8 hz;have hzR:R M w c zero z:=rC z4;have fin:∀(x:ap) (cx:Value) (t:Bool),R M w c x cx→R M w c (if ok then .tup [x,.bool t] else x) (if ok then .tuple #[cx,.bool t] else cx):=fun x cx t hx=>by
  cases ok with
  |false=>exact hx
  |true=>
   refine .tup (fun i=>if i=0 then cx else .bool t) rfl (fun i hi=>?_) (fun i hi=>?_)
   ·simp at hi;have:i=0∨i=1:=by omega
    rcases this with rfl|rfl<;>rfl
   simp at hi;have:i=0∨i=1:=by omega
   rcases this with rfl|rfl
   ·exact hx
   exact .bool
 rcases Ys hs hm h with⟨rfl,rfl⟩|⟨b,en,cl,rfl,hb,he⟩
 ·simp only[lookup,aJ]at hl;subst hl;refine⟨_,?_,fin zero z false hzR⟩;simp[Instr.lookup,bm hT,nF hkt,Instr.findKey,bm hkt,Instr.findNow,z3]
 rcases Mu hk ⟨q,rfl⟩ 0 he hl with⟨rfl,h2⟩|⟨v,i,cv,rfl,h2,h3⟩
 ·refine⟨_,?_,fin zero z false hzR⟩;simp[Instr.lookup,bm hT,tJ hb,nF hkt,pv hkt h2,z3]
 refine⟨_,?_,fin v cv true h3⟩;simp[Instr.lookup,bm hT,tJ hb,nF hkt,pv hkt h2]
theorem DJ{c:cX}{k v:ap}{ck cv:Value}(hk:R M w c k ck)(hv:R M w c v cv)(hkk:gG k=true){d:TypeDesc}(hd:∃q,d=.int q)(clock:Nat):∀{es:List (ap×ap)} {en:List MapEntry} (n:Nat) {es':List (ap×ap)},u5 M w c es en→mput k v es=some es' →
  (Instr.findNow d ck en n=some none∧u5 M w c es' (en++[{ key:=ck,val:=cv,born:=clock }])) ∨
  ∃i e cv0,Instr.findNow d ck en n=some (some (n+i,cv0))∧en[i]?=some e∧e.key=ck∧u5 M w c es' (en.set i { e with key:=ck,val:=cv })
 |[],[],n,_,_,h=>by
  simp only[mput,aJ]at h;subst h;refine .inl ⟨rfl,rfl,fun i hi=>?_⟩;have:i=0:=by simp at hi;exact hi
  subst this;exact⟨_,rfl,hkk,hk,hv⟩
 |[],_::_,_,_,h,_=>by simp[u5]at h
 |_::_,[],_,_,h,_=>by simp[u5]at h
 |x::es,e::en,n,es',he,h=>by
  obtain⟨h1,h2,h3⟩:=he.head;simp only[mput]at h;split at h
  ·rename_i hq;obtain⟨a1,a2⟩:=CO h2 hk hq hd;cases h;have hx:=a2 rfl;obtain⟨q,m,rfl,rfl⟩:=yW hk hkk;obtain⟨q',m',e1,e2⟩:=yW h2 h1;rw[hx]at e1;cases e1;refine .inr ⟨0,e,e.val,by simp[Instr.findNow,a1],rfl,e2,by simpa using he.1,fun i hi=>?_⟩;cases i with
   |zero=>exact⟨_,rfl,h1,by rw[hx];exact hk,hv⟩
   |succ i=>
    have:=he.2 (i+1) (by simpa using hi);simpa only [List.set_cons_zero,jg,iQ] using this
  ·rename_i hq;obtain⟨a1,_⟩:=CO h2 hk hq hd;simp only[aY]at h;obtain⟨es1,hes,rfl⟩:=h
   have cons:∀{en'},u5 M w c es1 en'→u5 M w c (x::es1) (e::en'):=fun {en'} hh=>⟨by simpa using hh.1,fun i hi=>by
    cases i with
    |zero=>exact⟨_,rfl,h1,h2,h3⟩
    |succ i=>
     have:=hh.2 i (by simpa using hi);simpa only [jg,iQ] using this⟩
   rcases DJ hk hv hkk hd clock (n+1) he.tail hes with⟨b1,b2⟩|⟨i,e',cv0,b1,b2,b3,b4⟩
   ·exact .inl ⟨by simp[Instr.findNow,a1,b1],cons b2⟩
   exact .inr ⟨i+1,e',cv0,by simp[Instr.findNow,a1,b1];omega,by simpa using b2,b3,by simpa using cons b4⟩
  cases h
theorem Uz{c:cX}{σ σ':ay}(hs:ei M w c σ){m k v:ap}{cm ck cv:Value}(hm:R M w c m cm)(hk:R M w c k ck)(hv:R M w c v cv)(h:Mn σ k v m=some σ')
  {T kt et:TypeId} {q:IntKind} (hT:P.underlying T=some (.map kt et)) (hkt:P.underlying kt=some (.int q)) :
  ∃w',(Instr.mapUpdate T cm ck cv).run P w=.ok () w'∧ei M w' c σ'∧iD c w c w':=by
 unfold Mn at h;split at h
 ·rename_i id;simp only[aN]at h;obtain⟨es,h1,h2⟩:=h;split at h2
  ·rename_i hkk;simp only[aY]at h2;obtain⟨es',h3,rfl⟩:=h2;unfold gX at h1;split at h1
   ·rename_i es0 ho;cases h1;obtain⟨b,cl,en,f,g,q1,q2,q3,q4,q5,q6⟩:=hs.obj id _ ho;have hH:c.H id=.map:=by rw[hs.H,eI ho]
    have he:u5 M w c es en.toList:=⟨by simpa using q3,fun i hi=>by
     obtain⟨e,e1,e2,e3,e4⟩:=q4 i hi;exact⟨e,by simpa using e1,e4,e2▸q5 i hi,e3▸q6 i hi⟩⟩
    have hcm:cm=.map (some b):=by
     cases hm with
     |mp a1 a2 a3=>rw[q1]at a3;cases a3;rfl
     |mpOld a0 a1 a2=>rw[hH]at a2;cases a2
    subst hcm;have hlt:=(al.1 ho).1;have fin:∀(en':Array MapEntry) (cl':Nat),u5 M w c es' en'.toList→(Instr.mapUpdate T (.map (some b)) ck cv).run P w=.ok () { w with heap:=w.heap.setIfInBounds b (.map en' cl') } →
      ∃w',(Instr.mapUpdate T (.map (some b)) ck cv).run P w=.ok () w'∧ei M w' c (σ.set id (.map es'))∧iD c w c w':=fun en' cl' he' hrun=>by
     have hset:s6 w { w with heap:=w.heap.setIfInBounds b (.map en' cl') } b (.map en' cl'):=⟨⟨rfl,rfl,rfl,aM _⟩,rfl⟩;have hlive:c.H id≠.dead:=by rw[hH];simp
     have hbn:=hs.plow id b hlive q1;have hext:Ext c w c { w with heap:=w.heap.setIfInBounds b (.map en' cl') }:=⟨fun _ h=>h,fun _ h=>h,fun y hy=>by rw[hset.get _ hbn.1,if_neg (fun e=>by subst e;exact hbn.2 (hy.elim (fun h=>h) (hs.sb _)))],aM _,fun _ _=>.inl rfl,fun _ _ _ _=>⟨rfl,rfl,rfl⟩⟩;have hobj:vy M { w with heap:=w.heap.setIfInBounds b (.map en' cl') } c id (.map es'):=by
      refine⟨b,cl',en',fun i=>((en'[i]?).map (·.key)).getD undef,fun i=>((en'[i]?).map (·.val)).getD undef,q1,by rw[hset.get _ hbn.1,if_pos rfl],by simpa using he'.1,fun i hi=>?_,fun i hi=>?_,fun i hi=>?_⟩
      ·obtain⟨e,e1,e2,e3,e4⟩:=he'.2 i hi;have e1':en'[i]?=some e:=by simpa using e1
       exact⟨e,e1',by dsimp only;rw[e1'];rfl,by dsimp only;rw[e1'];rfl,e2⟩
      ·obtain⟨e,e1,e2,e3,e4⟩:=he'.2 i hi;have e1':en'[i]?=some e:=by simpa using e1
       dsimp only;rw[e1'];exact e3.ext hext
      obtain⟨e,e1,e2,e3,e4⟩:=he'.2 i hi;have e1':en'[i]?=some e:=by simpa using e1
      dsimp only;rw[e1'];exact e4.ext hext
     obtain⟨hsim,_⟩:=hs.setObj' ho (by simp) (by rw[eI (eE hlt),eI ho]) q1 hset hobj;exact⟨_,hrun,hsim,iD.setB hs hlive q1 hset hext⟩
    rcases DJ hk hv hkk ⟨q,rfl⟩ cl 0 he h3 with⟨b1,b2⟩|⟨i,e,cv0,b1,b2,b3,b4⟩
    ·refine fin (en.push { key:=ck,val:=cv,born:=cl }) (cl+1) (by simpa using b2) ?_;simp[Instr.mapUpdate,bm hT,tJ q2,nF hkt,pv hkt b1,Fj _ q2]
    obtain⟨q',n,rfl,rfl⟩:=yW hk hkk;rw[bS]at b1;have b2':en[i]?=some e:=by simpa using b2
    have hi:i<en.size:=(bH.1 b2').1;have hei:en[i]=e:=(bH.1 b2').2;refine fin (en.modify i fun e=>{ e with key:=.int q' n,val:=cv }) cl ?_ ?_
    ·have:(en.modify i fun e=>{ e with key:=.int q' n,val:=cv }).toList=en.toList.set i { e with key:=.int q' n,val:=cv }:=by
      apply f7;intro j;simp only[fH,gM,dc];by_cases hij:i=j
      ·subst hij;simp[hi,hei]
      simp[hij]
     rw[this];exact b4
    have hkeep:(Instr.keyThatStays (.int q' n) (.int q' n)).run P w=.ok (.int q' n) w:=by simp[Instr.keyThatStays,Instr.sameBits]
    simp[Instr.mapUpdate,bm hT,tJ q2,nF hkt,pv hkt b1,b2',b3,hkeep,Fj _ q2]
   cases h1
  cases h2
 cases h
end Go.AM
namespace Go.AM
variable {M:cZ} {w:World} {P:Program}
def sd(P:Program)(T:TypeId)(k:Nat):Bool:=rm P T false 1&&(match P.underlying T with
 |some (.int _)=>k==0
 |some .bool=>k==1
 |some .string=>k==2
 |_=>false)
theorem pM{T:TypeId}(h:rm P T false 1=true){cs:Array Value}{off:Nat}{x:Value}(hx:cs[off]?=some x):(part T cs off).run P w=.ok x w:=by
 unfold part;simp[pF h,hx]
theorem Ec{c:cX}{a b:ap}{ca cb:Value}(ha:R M w c a ca)(hb:R M w c b cb){t:Bool}(h:p5 a b=some t){T:TypeId}{k:Nat}(hk:AI a=k)(hs:sd P T k=true)(d:Nat) :
  (Op.equalIn (d+1) T ca cb).run P w=.ok t w:=by
 unfold sd at hs;simp only[aq]at hs;obtain⟨_,hs⟩:=hs;unfold p5 at h;split at h
 ·split at h
  ·rename_i hkk;subst hkk;cases h;cases ha;cases hb;simp only[AI]at hk;subst hk;split at hs
   ·rename_i j hj;exact run_equalIn_int w d T _ _ _ _ hj
   ·cases hs
   ·cases hs
   cases hs
  cases h
 ·cases h;cases ha;cases hb;simp only[AI]at hk;subst hk;split at hs
  ·cases hs
  ·rename_i hj;exact run_equalIn_bool w d T _ _ hj
  ·cases hs
  cases hs
 ·cases h;cases ha with|str h1=>cases hb with|str h2=>
  simp only[AI]at hk;subst hk;split at hs
  ·cases hs
  ·cases hs
  ·rename_i hj;rw[run_equalIn_string w d T _ _ hj,WE,h1,h2]
  cases hs
 cases h
def fG(M:cZ)(w:World)(c:cX)(i:Nat)(x:List ap)(xs:Array Value):Prop:=∀j (h:j<x.length),∃v,xs[i+j]?=some v∧R M w c x[j] v
theorem fG.tail{c:cX}{i:Nat}{a:ap}{x:List ap}{xs:Array Value}(h:fG M w c i (a::x) xs):fG M w c (i+1) x xs:=fun j hj=>by
 obtain⟨v,h1,h2⟩:=h (j+1) (by simpa using hj);exact⟨v,by rw[←h1];congr 1;omega,h2⟩
theorem fG.head{c:cX}{i:Nat}{a:ap}{x:List ap}{xs:Array Value}(h:fG M w c i (a::x) xs):∃v,xs[i]?=some v∧R M w c a v:=h 0 (by simp)
def sS(P:Program):Nat→List Field→List Nat→Bool
 |_,[],[]=>true
 | i,f::fs,k::ks=>f.name != "_" && f.offset == i&&sd P f.type k&&sS P (i+1) fs ks
 |_,_,_=>false
theorem Et{c:cX}(d:Nat){xs ys:Array Value}:∀(ks:List Nat) (fs:List Field) (i:Nat) (x y:List ap) (t:Bool),sS P i fs ks=true→fG M w c i x xs→fG M w c i y ys→fh ks x y=some t →
  (Op.eqFields (d+1) xs ys fs).run P w=.ok t w
 |[],[],i,x,y,t,_,_,_,h=>by simp only[fh,aJ]at h;subst h;rfl
 |[],_::_,_,_,_,_,h,_,_,_=>by simp[sS]at h
 |_::_,[],_,_,_,_,h,_,_,_=>by simp[sS]at h
 |k::ks,f::fs,i,[],y,t,_,_,_,h=>by simp[fh]at h
 |k::ks,f::fs,i,_::_,[],t,_,_,_,h=>by simp[fh]at h
 |k::ks,f::fs,i,a::x,b::y,t,hf,hx,hy,h=>by
  simp only[sS,aq,gO,aP]at hf;obtain⟨⟨⟨f1,f2⟩,f3⟩,f4⟩:=hf;have hty:rm P f.type false 1=true:=by unfold sd at f3;simp only[aq]at f3;exact f3.1
  simp only[fh]at h;split at h
  ·rename_i hk;simp only[aN]at h;obtain⟨t1,h1,h2⟩:=h;obtain⟨v1,p1,r1⟩:=hx.head;obtain⟨v2,p2,r2⟩:=hy.head;have hc:=Ec (P:=P) r1 r2 h1 hk f3 d;subst f2;simp only[Op.eqFields,ne_eq,f1,li,cW,Sem.run_bind,pM hty p1,pM hty p2,Result.andThen_ok,hc,Sem.run_ite];cases t1 with
   |true=>
    simp only[cW]at h2;simpa using Et d ks fs _ x y t f4 hx.tail hy.tail h2
   |false=>
    simp at h2;subst h2;simp
  cases h
theorem WM{T:TypeId}{m:Nat}(h:rm P T true m=true)(cs:Array Value)(off:Nat):(part T cs off).run P w=.ok (.agg (cs.extract off (off+m))) w:=by
 unfold part;simp only[Sem.run_bind,pF h,Result.andThen_ok,cW,fQ (sQ h),Sem.run_pure]
def X6(P:Program)(i:Nat)(f:Field)(ks:List Nat):Bool:=f.name != "_" && f.offset == i&&rm P f.type true ks.length&&!P.stoodInHeld f.type&&(match P.underlying f.type with
 |some (.struct gs)=>sS P 0 gs.toList ks
 |_=>false)
def pC(P:Program):Nat→List Field→List Nat→Bool
 |_,[],[]=>true
 | i,f::fs,k::ks=>(f.name != "_" && f.offset == i&&sd P f.type k&&pC P (i+1) fs ks) || (fs.isEmpty&&X6 P i f (k::ks))
 |_,_,_=>false
theorem fG.extract{c:cX}{i m:Nat}{x:List ap}{xs:Array Value}(h:fG M w c i x xs)(hm:x.length≤m):fG M w c 0 x (xs.extract i (i+m)):=fun j hj=>by
 obtain⟨v,h1,h2⟩:=h j hj;refine⟨v,?_,h2⟩;rw[ji];have:=(bH.1 h1).1;rw[if_pos (by omega),bS];exact h1
theorem zc:∀{ks:List Nat} {x y:List ap},fh ks (x.take ks.length) (y.take ks.length)=fh ks x y
 |[],_,_=>by simp[fh]
 |k::ks,[],y=>by simp[fh]
 |k::ks,a::x,[]=>by simp[fh]
 |k::ks,a::x,b::y=>by simp[fh,zc]
theorem fG.take{c:cX}{i:Nat}{x:List ap}{xs:Array Value}(h:fG M w c i x xs)(m:Nat):fG M w c i (x.take m) xs:=fun j hj=>by
 have hj':j<x.length:=by simp at hj;omega
 obtain⟨v,h1,h2⟩:=h j hj';exact⟨v,h1,by simpa using h2⟩
theorem Cl{c:cX}(d:Nat){xs ys:Array Value}:∀(ks:List Nat) (fs:List Field) (i:Nat) (x y:List ap) (t:Bool),pC P i fs ks=true→fG M w c i x xs→fG M w c i y ys→fh ks x y=some t →
  (Op.eqFields (d+2) xs ys fs).run P w=.ok t w
 |[],[],i,x,y,t,_,_,_,h=>by simp only[fh,aJ]at h;subst h;rfl
 |[],_::_,_,_,_,_,h,_,_,_=>by simp[pC]at h
 |_::_,[],_,_,_,_,h,_,_,_=>by simp[pC]at h
 |k::ks,f::fs,i,[],y,t,_,_,_,h=>by simp[fh]at h
 |k::ks,f::fs,i,_::_,[],t,_,_,_,h=>by simp[fh]at h
 |k::ks,f::fs,i,a::x,b::y,t,hf,hx,hy,h=>by
  simp only[pC,cK]at hf;rcases hf with hf|hf
  ·simp only[aq,gO,aP]at hf;obtain⟨⟨⟨f1,f2⟩,f3⟩,f4⟩:=hf;have hty:rm P f.type false 1=true:=by unfold sd at f3;simp only[aq]at f3;exact f3.1
   simp only[fh]at h;split at h
   ·rename_i hk;simp only[aN]at h;obtain⟨t1,h1,h2⟩:=h;obtain⟨v1,p1,r1⟩:=hx.head;obtain⟨v2,p2,r2⟩:=hy.head;have hc:=Ec (P:=P) r1 r2 h1 hk f3 (d+1);subst f2;simp only[Op.eqFields,ne_eq,f1,li,cW,Sem.run_bind,pM hty p1,pM hty p2,Result.andThen_ok,hc,Sem.run_ite];cases t1 with
    |true=>
     simp only[cW]at h2;simpa using Cl d ks fs _ x y t f4 hx.tail hy.tail h2
    |false=>
     simp at h2;subst h2;simp
   cases h
  simp only[X6,aq,gO,aP,List.isEmpty_iff]at hf;obtain⟨rfl,⟨⟨⟨f1,f2⟩,f3⟩,f4⟩,f5⟩:=hf;split at f5
  ·rename_i gs hgs;have hst:P.stoodInHeld f.type=false:=by simpa using f4
   have hff:P.fieldsOf f.type=gs:=by unfold Program.fieldsOf;rw[hgs]
   have hsub:∀A B:Array Value,(Op.equalIn (d+2) f.type (.agg A) (.agg B)).run P w=(Op.eqFields (d+1) A B gs.toList).run P w:=fun A B=>by
    rw[run_equalIn_struct w (d+1) f.type A B (by rw[hff];exact hgs) hst,hff]
   rw[←zc]at h;have key:=Et d (k::ks) gs.toList 0 _ _ t f5 ((hx.take (k::ks).length).extract (m:=(k::ks).length) (by rw[bO];omega)) ((hy.take (k::ks).length).extract (m:=(k::ks).length) (by rw[bO];omega)) h;subst f2;simp only[Op.eqFields,ne_eq,f1,li,cW,Sem.run_bind,WM f3,Result.andThen_ok,hsub,key,Sem.run_ite];cases t<;>simp
  cases f5
theorem Hm{c:cX}(d:Nat){xs ys:Array Value}{e:TypeId}{k:Nat}(hs:sd P e k=true):∀(n i:Nat) (x y:List ap) (t:Bool),fG M w c i x xs→fG M w c i y ys→fh (List.replicate n k) x y=some t →
  (Op.eqItems (d+1) e 1 xs ys (List.range' i n)).run P w=.ok t w
 |0,i,x,y,t,_,_,h=>by simp only[List.replicate_zero,fh,aJ]at h;subst h;rfl
 |n+1,i,[],y,t,_,_,h=>by simp[ir,fh]at h
 |n+1,i,_::_,[],t,_,_,h=>by simp[ir,fh]at h
 |n+1,i,a::x,b::y,t,hx,hy,h=>by
  have hty:rm P e false 1=true:=by unfold sd at hs;simp only[aq]at hs;exact hs.1
  simp only[ir,fh]at h;split at h
  ·rename_i hk;simp only[aN]at h;obtain⟨t1,h1,h2⟩:=h;obtain⟨v1,p1,r1⟩:=hx.head;obtain⟨v2,p2,r2⟩:=hy.head;have hc:=Ec (P:=P) r1 r2 h1 hk hs d;simp only[lU,Op.eqItems,iI,Sem.run_bind,pM hty p1,pM hty p2,Result.andThen_ok,hc,Sem.run_ite];cases t1 with
   |true=>
    simp only[cW]at h2;simpa using Hm d hs n (i+1) x y t hx.tail hy.tail h2
   |false=>
    simp at h2;subst h2;simp
  cases h
def afC(P:Program)(T:TypeId)(ks:List Nat):Bool:=!P.eqGuardType P.depth T&&(match P.underlying T with
 |some (.struct fs)=>!P.stoodInHeld T&&pC P 0 fs.toList ks
 |some (.array n e)=>(match ks with
  |k::_=>sd P e k&&ks==List.replicate n k
  |[]=>false)
 |_=>false)
theorem oW.from{c:cX}{cs:List ap}{A:Array Value}(h:oW M w c cs A):fG M w c 0 cs A:=fun j hj=>by
 obtain⟨v,h1,_,h3⟩:=h.2 j hj;exact⟨v,by rw[bS];exact h1,h3⟩
theorem alm{c:cX}{x y v:ap}{cx cy:Value}(hx:R M w c x cx)(hy:R M w c y cy){n:Bool}{ks:List Nat}(h:eqa n ks x y=some v){T:TypeId}(hT:afC P T ks=true){op:BinOp}(hop:op=if n then .neq else .eql)(ox oy:Operand) :
  ∃cv,(do eqGuard op T ox oy cx cy;binOp op T cx cy:Sem Value).run P w=.ok cv w∧R M w c v cv:=by
 unfold eqa at h;split at h
 ·rename_i a b;simp only[aY]at h;obtain⟨t,h1,rfl⟩:=h;unfold afC at hT;simp only[aq]at hT;obtain⟨hg,hT⟩:=hT;have hg':P.eqGuardType P.depth T=false:=by simpa using hg
  cases hx with|@agg _ _ xs f1 a1 a2 a3 a4=>cases hy with|@agg _ _ ys g1 b1 b2 b3 b4=>
  have hxs:oW M w c a xs:=R.rcells (.agg f1 a1 a2 a3 a4);have hys:oW M w c b ys:=R.rcells (.agg g1 b1 b2 b3 b4);have key:(Op.equalIn 10000 T (.agg xs) (.agg ys)).run P w=.ok t w:=by
   split at hT
   ·rename_i fs hfs;simp only[aq]at hT;have hst:P.stoodInHeld T=false:=by simpa using hT.1
    have hff:P.fieldsOf T=fs:=by unfold Program.fieldsOf;rw[hfs]
    rw[run_equalIn_struct w 9999 T xs ys (by rw[hff];exact hfs) hst,hff];exact Cl 9997 ks fs.toList 0 a b t hT.2 hxs.from hys.from h1
   ·rename_i n e hne;split at hT
    ·rename_i k ks';simp only[aq,aP]at hT;obtain⟨hT1,hT2⟩:=hT;have hty:rm P e false 1=true:=by unfold sd at hT1;simp only[aq]at hT1;exact hT1.1
     have hsz:=sQ hty;cases hi:P.info? e with
     |none=>rw[hi]at hsz;cases hsz
     |some i=>
      rw[hi]at hsz;have hc1:P.cellsOf e=1:=by unfold Program.cellsOf;rw[hi];simpa using hsz
      rw[run_equalIn_array w 9999 xs ys hne hi,hc1,mV];rw[hT2]at h1;exact Hm 9998 hT1 n 0 a b t hxs.from hys.from h1
    cases hT
   cases hT
  refine⟨.bool (if n then !t else t),?_,.bool⟩;subst hop;cases n
  ·simp only[bC,cz,Sem.run_bind,run_eqGuard_agg w .eql T ox oy xs ys hg',Result.andThen_ok,run_eql_struct,key]
  simp only[cW,Sem.run_bind,run_eqGuard_agg w .neq T ox oy xs ys hg',Result.andThen_ok,run_neq_struct,key]
 cases h
theorem ahd{c:cX}{x y v:ap}{cx cy:Value}(hx:R M w c x cx)(hy:R M w c y cy){n:Bool}(h:eqb n x y=some v){T:TypeId}(hT:P.underlying T=some .bool){op:BinOp}(hop:op=if n then .neq else .eql)(ox oy:Operand) :
  ∃cv,(do eqGuard op T ox oy cx cy;binOp op T cx cy:Sem Value).run P w=.ok cv w∧R M w c v cv:=by
 unfold eqb at h;split at h
 ·cases h;cases hx;cases hy;rename_i a b;refine⟨.bool (if n then !(a==b) else (a==b)),?_,.bool⟩;have key:(Op.equal T (.bool a) (.bool b)).run P w=.ok (a==b) w:=run_equalIn_bool w 9999 T a b hT;subst hop;cases n
  ·simp only[bC,cz,Sem.run_bind,rG .eql T ox oy (.inr (.inr ⟨a,rfl⟩)),Result.andThen_ok];simp[binOp,key]
  simp only[cW,Sem.run_bind,rG .neq T ox oy (.inr (.inr ⟨a,rfl⟩)),Result.andThen_ok];simp[binOp,key]
 cases h
theorem aeT{c:cX}{σ:ay}(hs:ei M w c σ){x v:ap}{cx:Value}(hx:R M w c x cx){n:Bool}(h:lj n σ x=some v){T e:TypeId}(hT:P.underlying T=some (.slice e)){op:BinOp}(hop:op=if n then .neq else .eql)(ox oy:Operand) :
  ∃cv,(do eqGuard op T ox oy cx (.slice none 0 0);binOp op T cx (.slice none 0 0):Sem Value).run P w=.ok cv w∧R M w c v cv:=by
 have key:∃a l k,cx=.slice a l k∧v=neg n a.isNone:=by
  unfold lj at h;split at h
  ·cases h;cases hx with|emp h=>exact⟨_,_,_,rfl,by rw[h]⟩
  ·cases h
  split at h
  ·rename_i hne _ y ys hrd;cases h;cases hx<;>first|(simp[rd]at hrd;done)|skip
   case str=>exact absurd rfl (hne _)
   case aa=>exact⟨_,_,_,rfl,rfl⟩
   case lst=>exact⟨_,_,_,rfl,rfl⟩
   case sl=>exact⟨_,_,_,rfl,rfl⟩
   case sl0 h1 h2=>
    simp only[rd]at hrd;unfold sliceAt at hrd;split at hrd
    ·split at hrd
     ·simp at hrd
     cases hrd
    cases hrd
   case slOld=>
    rename_i h2 _ _ _ _;simp only[rd]at hrd;unfold sliceAt at hrd;split at hrd
    ·rename_i k e es ho;split at hrd
     ·rename_i hc;have:=h2 k e (by rw[hs.H,eI ho]);omega
     cases hrd
    cases hrd
  cases h
 obtain⟨a,l,k,rfl,rfl⟩:=key;have hq:(Op.equal T (.slice a l k) (.slice none 0 0)).run P w=.ok a.isNone w:=by
  unfold Op.equal Op.maxDepth;unfold Op.equalIn;simp only[Sem.run_bind,bm hT,Result.andThen_ok];cases a<;>rfl
 have hg:(eqGuard op T ox oy (.slice a l k) (.slice none 0 0)).run P w=.ok () w:=by
  unfold eqGuard;subst hop;cases n<;>simp
 refine⟨.bool (if n then !a.isNone else a.isNone),?_,.bool⟩;simp only[Sem.run_bind,hg,Result.andThen_ok];subst hop;cases n
 ·simp[binOp,hq]
 simp[binOp,hq]
end Go.AM
