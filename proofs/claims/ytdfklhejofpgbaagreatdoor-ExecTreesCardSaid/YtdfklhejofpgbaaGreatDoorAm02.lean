/- Part of the proof. -/
import Derived.Test.YtdfklhejofpgbaaGreatDoorAm01
import Derived.OrdersIn
set_option linter.unusedVariables false
set_option linter.unusedSimpArgs false
namespace Go.AM
variable {M:cZ} {w:World} {P:Program}
theorem Wr{c:cX}{op:BinOp}{T:TypeId}{a b:ByteArray}{v:ap}(h:yr op a.data.toList b.data.toList=some v) :
  ∃cv,(binOp op T (.string a) (.string b)).run P w=.ok cv w∧R M w c v cv:=by
 have hb:∀op,(binOp op T (.string a) (.string b))=Op.stringOp op a b:=fun op=>by cases op<;>rfl
 rw[hb];have e1:a.toList=a.data.toList:=ByteArray.toList_eq ..;have e2:b.toList=b.data.toList:=ByteArray.toList_eq ..;have hm:most=68719476736:=rfl;cases op<;>simp only[yr]at h<;>first|(cases h;done)|skip
 case add=>
  split at h
  ·rename_i hl;cases h;have hn:¬(((a.size+b.size:Nat):Int)>IntKind.i64.max):=by
    have ha:a.data.toList.length=a.size:=by rw[cS];rfl
    have hb':b.data.toList.length=b.size:=by rw[cS];rfl
    have:IntKind.i64.max=9223372036854775807:=by decide
    rw[this];omega
   refine⟨.string (a++b),?_,.str (by simp[ByteArray.data_append])⟩;simp only[Op.stringOp,hn,cz];rfl
  cases h
 all_goals
  cases h;refine⟨.bool _,?_,.bool⟩;simp only[Op.stringOp,e1,e2];rfl
theorem VT{c:cX}{x v:ap}{cx:Value}(hx:R M w c x cx){n l h:Nat}(hn:GA x=some n){lo hi:Option Value}(hlo:(lo=none∧l=0)∨∃k,lo=some (.int k (l:Int)))
  (hhi:(hi=none∧h=n)∨∃k,hi=some (.int k (h:Int))) (hv:Ea x l h=some v) {T:TypeId} (hT:P.underlying T=some .string) :
  ∃cv,(Instr.sliceAt T cx lo hi none).run P w=.ok cv w∧R M w c v cv:=by
 obtain⟨s,t,rfl,rfl,hs,hz⟩:=Uq hx hn;simp only[Ea]at hv;split at hv
 ·rename_i hc;cases hv;have hl:s.length=t.size:=by rw[←hs,cS];rfl
  refine⟨.string (t.extract l h),?_,.str (by rw[ByteArray.data_extract,Array.toList_extract,hs])⟩;have hb:=xZ (P:=P) (w:=w) (len:=t.size) (cap:=t.size) (isS:=false) hlo (by rw[hz];exact hhi) hc.1 (by omega);simp[Instr.sliceAt,bm hT,Instr.slice,hb]
 cases hv
theorem aex{c:cX}{x v:ap}{cx ci:Value}(hx:R M w c x cx){n:Nat}(hi:∃k,ci=.int k (n:Int))(h:MD n x=some v){T:TypeId}(hT:P.underlying T=some .string) :
  ∃cv,(Instr.index T cx ci).run P w=.ok cv w∧R M w c v cv:=by
 obtain⟨k,rfl⟩:=hi;unfold MD at h;split at h
 ·cases hx with|@str _ s t ht=>
  simp only[aY]at h;obtain⟨b,h1,rfl⟩:=h;have h2:t[n]?=some b:=by
   rw[←ht]at h1;have h3:t.data[n]?=some b:=by simpa using h1
   obtain⟨h4,h5⟩:=bH.1 h3;have h6:n<t.size:=h4;rw[getElem?_pos t n h6];exact congrArg some h5
  refine⟨_,?_,.int⟩;simp[Instr.index,asIntOf,bm hT,h2]
 cases h
theorem EI{c:cX}(lt:Bool):∀(ys:List ap) (cys:List Value) (x v:ap) (cx:Value),R M w c x cx→cys.length=ys.length→(∀i (h:i<ys.length) (h':i<cys.length),R M w c ys[i] cys[i])→tx lt x ys=some v →
  ∃cv,(cys.foldlM (if lt then Builtin.min2 else Builtin.max2) cx).run P w=.ok cv w∧R M w c v cv
 |[],[],x,v,cx,hx,_,_,h=>by simp only[tx,aJ]at h;subst h;exact⟨cx,rfl,hx⟩
 |[],_::_,_,_,_,_,h,_,_=>by simp at h
 |_::_,[],_,_,_,_,h,_,_=>by simp at h
 |y::ys,cy::cys,x,v,cx,hx,hl,hr,h=>by
  have hy:=hr 0 (by simp) (by simp);simp only[cO]at hy;unfold tx at h;split at h
  ·rename_i he;cases he
  ·rename_i k a k' b r he1;injection he1 with e1 e2;subst e1 e2;split at h
   ·rename_i hk;subst hk;cases hx;cases hy;obtain⟨cv,h1,h2⟩:=EI lt ys cys _ v _ (.int (M:=M) (w:=w) (c:=c)) (by simpa using hl) (fun i hi hi'=>by have:=hr (i+1) (by simpa using hi) (by simpa using hi');simpa using this) h;refine⟨cv,?_,h2⟩;rw[List.foldlM_cons,Sem.run_bind];cases lt
    ·have e:((if false=true then Builtin.min2 else Builtin.max2) (.int k a) (.int k b)).run P w=.ok (.int k (if b>a then b else a)) w:=rfl;rw[e];simpa using h1
    have e:((if true=true then Builtin.min2 else Builtin.max2) (.int k a) (.int k b)).run P w=.ok (.int k (if b<a then b else a)) w:=rfl;rw[e];simpa using h1
   cases h
  cases h
theorem Xf{c:cX}{σ:ay}(hs:ei M w c σ){x v:ap}{cx:Value}(hx:R M w c x cx){n:Nat}(h:W5 σ n x=some v){T e:TypeId}(hT:P.underlying T=some (.array n e))(hk:(P.info? e).map (·.size)=some 1)(hn:n≠0) :
  ∃cv,(Instr.sliceAt T cx none none none).run P w=.ok cv w∧R M w c v cv:=by
 unfold W5 at h;split at h
 ·split at h
  ·rename_i id ep i o hf;cases h;obtain⟨k,b,h1,h2,h3,rfl⟩:=wU hs hx hf;refine⟨_,?_,.asl h1 h2 h3⟩;have hb:=xZ (P:=P) (w:=w) (len:=n) (cap:=n) (isS:=false) (l:=0) (h:=n) (lo:=none) (hi:=none) (.inl ⟨rfl,rfl⟩) (.inl ⟨rfl,rfl⟩) (bP _) (aM _);simp[Instr.sliceAt,bm hT,Instr.sureAddr,hb,fQ hk,hn,jO]
  cases h
 cases h
theorem ei.setRow{c:cX}{σ:ay}{w':World}(hs:ei M w c σ){id k ep b:Nat}{es es':List ap}(ho:σ[id]?=some (.arr k ep es))(hb:c.place id=some b){cs cs':Array Value}{T:TypeId}(hcs:w.heap[b]?=some (.cells cs T (0,0)))
  (hw:s6 w w' b (.cells cs' T (0,0))) (hz:cs'.size=cs.size) (hroom:c.room id=cs.size) (hk:k≠0) (hall:∀x∈es',aC x=k) (hlen:es'.length*k≤cs.size) (f:Nat→Nat→Value)
  (hc:∀i j,i<es'.length→j<k→cs'[i*k+j]?=some (f i j)∧(f i j).oneCell'=true) (hr:∀i (hi:i<es'.length) j (hj:j<(cellsOf es'[i]).length),R M w c (cellsOf es'[i])[j] (f i j)) :
  ei M w' c (σ.set id (.arr k ep es'))∧iD c w c w':=by
 have hlive:c.H id≠.dead:=by rw[hs.H,eI ho];simp
 have hbn:=hs.plow id b hlive hb;have hext:Ext c w c w':=⟨fun _ h=>h,fun _ h=>h,fun y hy=>by rw[hw.get _ hbn.1,if_neg (fun e=>by subst e;exact hbn.2 (hy.elim (fun h=>h) (hs.sb _)))],aM _,fun _ _=>.inl rfl,fun _ _ _ _=>⟨rfl,rfl,rfl⟩⟩
 have hobj:vy M w' c id (.arr k ep es'):=⟨hk,hall,fun hn=>(by rw[hb]at hn;cases hn),fun b' hb'=>by
  rw[hb]at hb';cases hb';exact⟨cs',T,f,by rw[hw.get _ hbn.1,if_pos rfl],by omega,by rw[hz];exact hroom,hc,fun i hi j hj=>(hr i hi j hj).ext hext⟩⟩
 exact⟨(hs.setObj ho hb hw hobj).1,iD.setB hs hlive hb hw hext⟩
theorem sl_inv{c:cX}{σ:ay}(hs:ei M w c σ){id ep off n:Nat}{cx:Value}(hx:R M w c (.sl id ep off n) cx){k:Nat}{es:List ap}(ho:σ[id]?=some (.arr k ep es)) :
  (n=0∧∃a cap,cx=.slice a 0 cap)∨∃b cap,c.place id=some b∧cx=.slice (some ⟨b,off*k,none⟩) n cap:=by
 have hH:c.H id=.arr k ep:=by rw[hs.H,eI ho]
 cases hx with
 |sl h1 h2 h3 h4 h5=>rw[hH]at h2;cases h2;exact .inr ⟨_,_,h3,rfl⟩
 |sl0=>exact .inl ⟨rfl,_,_,rfl⟩
 |slOld h0 h1 h2=>exact absurd (h2 _ _ hH) (dr _)
theorem N0{α:Type}{p:α→Prop}{es ys:List α}{a b:Nat}(h1:∀x∈es,p x)(h2:∀x∈ys,p x):∀x∈es.take a++ys++es.drop b,p x:=fun x hx=>by
 rcases bT.1 hx with hx|hx
 ·rcases bT.1 hx with hx|hx
  ·exact h1 x (bv hx)
  exact h2 x hx
 exact h1 x (cQ hx)
theorem ei.lay{c:cX}{σ:ay}(hs:ei M w c σ){id k ep b off:Nat}{es ys:List ap}(ho:σ[id]?=some (.arr k ep es))(hb:c.place id=some b){A:Array Value}(hA:mF M w c k ys A)(hall:∀x∈ys,aC x=k)(hfit:off+ys.length≤es.length) :
  ∃w',(storeCells ⟨b,off*k,none⟩ A.toList).run P w=.ok () w'∧ei M w' c (σ.set id (.arr k ep (es.take off++ys++es.drop (off+ys.length))))∧iD c w c w':=by
 obtain⟨o1,o2,o3,o4⟩:=hs.obj id _ ho;obtain⟨cs,T,F,q1,q2,q3,q4,q5⟩:=o4 b hb;obtain⟨a1,g,a2,a3⟩:=hA;have hm:(off+ys.length)*k≤es.length*k:=cd k hfit;rw[du]at hm
 obtain⟨w',cs',hr,hw,hz,hj⟩:=lf (P:=P) b (off*k) T A.toList 0 cs w q1 (by simp[a1];omega) (fun v hv=>by
  obtain⟨p,hp,rfl⟩:=dm.1 hv;simp only[cS,a1]at hp;have hk:0<k:=fF o1;have h1:p/k<ys.length:=(jD hk).2 hp;have h2:p%k<k:=Nat.mod_lt _ hk;have:=a2 _ _ h1 h2;have e:p/k*k+p%k=p:=by have:=mD p k;rw[gq]at this;omega
  rw[e]at this;rw[de (by omega)]at this;simp only[gY];rw[cB this.1];exact this.2)
 have hlen:(es.take off++ys++es.drop (off+ys.length)).length=es.length:=by simp;omega
 have hcs':∀p,cs'[p]?=if off*k≤p∧p<off*k+ys.length*k then A[p-off*k]? else cs[p]?:=fun p=>by
  rw[hj p];simp only[eK,cS,a1,fH]
 refine⟨w',hr,hs.setRow ho hb q1 hw hz q3 o1 (N0 o2 hall) (by rw[hlen];omega) (fun i j=>if off≤i∧i<off+ys.length then g (i-off) j else F i j) (fun i j hi hj=>?_) (fun i hi j hj=>?_)⟩
 ·rw[hlen]at hi;rw[hcs'];by_cases hc:off≤i∧i<off+ys.length
  ·rw[if_pos hc];have e1:i*k+j-off*k=(i-off)*k+j:=by rw[Nat.sub_mul];have:=cd k hc.1;omega
   have e2:=oT (i:=i-off) (j:=j) (k:=k) (n:=ys.length) (by omega) hj;have e3:=cd k hc.1;rw[if_pos ⟨by omega,by omega⟩,e1];exact a2 (i-off) j (by omega) hj
  rw[if_neg hc,if_neg]
  ·exact q4 i j hi hj
  rintro⟨b1,b2⟩;rw[←Nat.add_mul]at b2;apply hc;constructor
  ·by_cases h:off≤i
   ·exact h
   have:(i+1)*k≤off*k:=cd k (by omega);rw[du]at this;omega
  by_cases h:i<off+ys.length
  ·exact h
  have:(off+ys.length)*k≤i*k:=cd k (by omega);omega
 rw[hlen]at hi;by_cases h1:i<off
 ·have e:(es.take off++ys++es.drop (off+ys.length))[i]'(by rw[hlen];exact hi)=es[i]:=by
   rw[bU (by simp;omega),bU (by simp;omega),dW]
  simp only[e]at hj ⊢;rw[if_neg (by omega)];exact q5 i hi j hj
 by_cases h2:i<off+ys.length
 ·have e:(es.take off++ys++es.drop (off+ys.length))[i]'(by rw[hlen];exact hi)=ys[i-off]'(by omega):=by
   rw[bU (by simp;omega),cH (by simp;omega)];have:i-(es.take off).length=i-off:=by rw[bO,dx (by omega)]
   simp only[this]
  simp only[e]at hj ⊢;rw[if_pos ⟨by omega,h2⟩];exact a3 (i-off) (by omega) j hj
 have e:(es.take off++ys++es.drop (off+ys.length))[i]'(by rw[hlen];exact hi)=es[i]:=by
  rw[cH (by simp;omega)];simp only[dU];congr 1;simp;omega
 simp only[e]at hj ⊢;rw[if_neg (by omega)];exact q5 i hi j hj
theorem ahe{c:cX}{σ σ':ay}(hs:ei M w c σ){x zero:ap}{cx:Value}(hx:R M w c x cx)(h:Vb σ zero x=some σ'){T ty e:TypeId}(hT:P.underlying T=some (.slice e))(hz:pV M P e zero=true) :
  ∃cv w',(Builtin.clear_ #[T] ty #[cx]).run P w=.ok cv w'∧ei M w' c σ'∧iD c w c w':=by
 obtain⟨i,z,_,_,z3,z4⟩:=q8 hz;have hzR:R M w c zero z:=rC z4;unfold Vb at h;split at h
 ·rename_i id ep off n;split at h
  ·rename_i k e' es ho;split at h
   ·rename_i hc;obtain⟨rfl,hfit,hzk⟩:=hc;cases h;obtain⟨o1,_⟩:=hs.obj id _ ho;rcases sl_inv hs hx ho with⟨rfl,a,cap,rfl⟩|⟨b,cap,hb,rfl⟩
    ·have e1:es.take off++List.replicate 0 zero++es.drop (off+0)=es:=by simp
     have e2:σ.set id (.arr k e' es)=σ:=by
      apply f7;intro j;rw[dc];split
      ·rename_i hj;subst hj;split
       ·exact ho.symm
       rename_i hlt;rw[dC (by omega)]
      rfl
     rw[e1,e2];refine⟨.tuple #[],w,?_,hs,.refl c w⟩;cases a<;>simp[Builtin.clear_,bm hT]
    by_cases hn:n=0
    ·subst hn;have e1:es.take off++List.replicate 0 zero++es.drop (off+0)=es:=by simp
     have e2:σ.set id (.arr k e' es)=σ:=by
      apply f7;intro j;rw[dc];split
      ·rename_i hj;subst hj;split
       ·exact ho.symm
       rename_i hlt;rw[dC (by omega)]
      rfl
     rw[e1,e2];refine⟨.tuple #[],w,?_,hs,.refl c w⟩;simp[Builtin.clear_,bm hT]
    obtain⟨g,hg,hgs,hgc⟩:=pk hzR (by omega);have hA:mF M w c k (List.replicate n zero) (Builtin.zeroCells z.cells n):=by
     have hsz:z.cells.size=k:=by omega
     refine⟨by simp[Builtin.zeroCells,hsz],fun _ j=>g j,fun i j hi hj=>?_,fun i hi j hj=>?_⟩
     ·have hi':i<n:=by simpa using hi
      have hlt:=oT hi' hj;have e1:(i*k+j)%k=j:=by rw[gq,ky,jL hj]
      have e2:=hgc j (by omega);have e3:z.cells[j]! = g j:=by rw[getElem!_def,e2]
      refine⟨?_,hg.one j (by omega)⟩;simp[Builtin.zeroCells,hsz,hlt,e1,e3]
     have e1:(List.replicate n zero)[i]=zero:=iZ ..;simp only[e1]at hj ⊢;exact hg.rel j hj
    obtain⟨w',h1,h2,h3⟩:=hs.lay (P:=P) (off:=off) ho hb hA (fun x hx=>by rw[(List.mem_replicate.1 hx).2];exact hzk) (by simpa using hfit);simp only[ed]at h2;refine⟨.tuple #[],w',?_,h2,h3⟩;obtain⟨m,rfl⟩:=Nat.exists_eq_succ_of_ne_zero hn;simp[Builtin.clear_,bm hT,z3,h1]
   cases h
  cases h
 ·cases h;cases hx with|@aj _ a=>
  refine⟨.tuple #[],w,?_,hs,.refl c w⟩;cases a<;>simp[Builtin.clear_,bm hT]
 cases h
theorem TO{a:Addr}{v:Value}{w1:World}(h:(load a).run P w=.ok v w1):w1=w:=by
 rw[run_load]at h;split at h
 ·cases h;rfl
 split at h<;>cases h;rfl
theorem B9(a:Addr):∀(n i:Nat) (acc arr:Array Value) (w':World),(loadCellsFrom a i n acc).run P w=.ok arr w' →
  ∃l:List Value,l.length=n∧arr=acc++l.toArray∧∀j v,l[j]?=some v→(load (a.add (i+j))).run P w=.ok v w
 |0,i,acc,arr,w',h=>by
  simp[loadCellsFrom]at h;exact⟨[],rfl,by simp[h.1],by simp⟩
 |n+1,i,acc,arr,w',h=>by
  unfold loadCellsFrom at h;rw[Sem.run_bind]at h;cases hr:(load (a.add i)).run P w with
  |halt hh w1=>
   rw[hr]at h;cases h
  |ok v w1=>
   have e:w1=w:=TO hr;rw[e]at hr;rw[hr]at h;obtain⟨l,hl,harr,hall⟩:=B9 a n (i+1) (acc.push v) arr w' h;refine⟨v::l,by simp[hl],by simp[harr],?_⟩;intro j u hj;cases j with
   |zero=>
    simp at hj;subst hj;simpa using hr
   |succ j=>
    have:=hall j u (by simpa using hj);rw[show i+(j+1)=i+1+j by omega];exact this
theorem WG{a:Addr}{n m:Nat}(hm:m≤n){A:Array Value}{w':World}(h:(loadCells a n).run P w=.ok A w'):(loadCells a m).run P w=.ok (A.extract 0 m) w:=by
 obtain⟨l,hl,hA,hall⟩:=B9 a n 0 #[] A w' h;have e:A.extract 0 m=(l.take m).toArray:=by
  rw[hA];apply Array.ext';simp
 rw[e];have hlen:(l.take m).length=m:=by rw[bO];omega
 have key:∀(q i:Nat) (acc:Array Value) (l':List Value),l'.length=q→(∀j v,l'[j]?=some v→(load (a.add (i+j))).run P w=.ok v w)→(loadCellsFrom a i q acc).run P w=.ok (acc++l'.toArray) w:=by
  intro q;induction q with
  |zero=>intro i acc l' h1 _;simp[loadCellsFrom,bl h1]
  |succ q ih=>
   intro i acc l' h1 h2
   match l',h1 with
   |v::r,h1=>
    have h3:=h2 0 v rfl;simp only[eK]at h3;simp only[loadCellsFrom,Sem.run_bind,h3,Result.andThen]
    rw[ih (i+1) (acc.push v) r (by simpa using h1) (fun j u hj=>by
     have:=h2 (j+1) u (by simpa using hj)
     rwa [show i+(j+1)=i+1+j by omega]at this)]
    congr 1;apply Array.ext';simp
 have:=key m 0 #[] (l.take m) hlen (fun j v hj=>hall j v (by
  rw[df]at hj;split at hj
  ·exact hj
  cases hj))
 simpa [loadCells] using this
theorem P7{c:cX}{σ:ay}(hs:ei M w c σ){y:ap}{cy:Value}(hy:R M w c y cy){n:Nat}{ys:List ap}(h:G4 σ n y=some ys)(hle:ys.length≤n){k:Nat}(hk:k≠0)(hall:∀x∈ys,aC x=k) :
  ∃L,Nat.min L n=ys.length∧(∀w',(Builtin.lenOf cy).run P w'=.ok L w')∧∃A,mF M w c k ys A∧∀w',w'.heap=w.heap→(Builtin.firstCells k ys.length cy).run P w'=.ok A w':=by
 unfold G4 at h;split at h
 ·rename_i id ep off len;obtain⟨l,hl,rfl⟩:=aY.1 h;have hl':=hl;simp only[rd,sliceAt]at hl';split at hl'
  ·rename_i k' e es ho;split at hl'
   ·rename_i hc;obtain⟨rfl,hfit⟩:=hc;cases hl';have hll:((es.drop off).take len).length=len:=by simp;omega
    rcases sl_inv hs hy ho with⟨rfl,a,cap,rfl⟩|⟨b,cap,hb,rfl⟩
    ·refine⟨0,by simp,fun w'=>rfl,#[],by simpa using mF.nil,fun w' _=>?_⟩;cases a<;>simp[Builtin.firstCells,loadCells,loadCellsFrom]
    refine⟨len,by rw[bO,hll];exact Nat.min_comm ..,fun w'=>rfl,?_⟩;by_cases h0:((es.drop off).take len).take n=[]
    ·rw[h0];exact⟨#[],mF.nil,fun w' _=>by simp[Builtin.firstCells,loadCells,loadCellsFrom]⟩
    obtain⟨_,o2,_⟩:=hs.obj id _ ho;have hkk:k'=k:=by
     obtain⟨x,hx⟩:=d8 _ h0;rw[←hall x hx];exact (o2 x (cQ (bv (bv hx)))).symm
    subst hkk;obtain⟨_,A,⟨a1,f,a2,a3⟩,r3⟩:=afA (P:=P) hs hy hl hk (fun x hx=>o2 x (cQ (bv hx)));have hmle:(((es.drop off).take len).take n).length≤len:=by simp only[bO,dE];omega
    rw[hll]at a1 a2 r3;have hmk:(((es.drop off).take len).take n).length*k'≤len*k':=cd k' hmle;refine⟨A.extract 0 ((((es.drop off).take len).take n).length*k'),⟨by rw[Array.size_extract];omega,f,fun i j hi hj=>?_,fun i hi j hj=>?_⟩,fun w' hw=>WG hmk (r3 w' hw)⟩
    ·have hlt:=oT (n:=(((es.drop off).take len).take n).length) hi hj;have:=a2 i j (by omega) hj;refine⟨?_,this.2⟩;rw[ji,if_pos (by omega),bS];exact this.1
    have e1:(((es.drop off).take len).take n)[i]=((es.drop off).take len)[i]'(by omega):=dW ..;simp only[e1]at hj ⊢;exact a3 i (by omega) j hj
   cases hl'
  cases hl'
 obtain⟨r1,A,hA,r3⟩:=afA (P:=P) hs hy h hk hall;exact⟨ys.length,dx hle,r1,A,hA,r3⟩
theorem EB{T U ty e:TypeId}{k:Nat}(hT:P.underlying T=some (.slice e))(hk:(P.info? e).map (·.size)=some k){a:Option Addr}{n cap L m:Nat}{cy:Value}{A:Array Value}{w':World}(hl:(Builtin.lenOf cy).run P w=.ok L w)(hm:Nat.min L n=m)(hf:(Builtin.firstCells k m cy).run P w=.ok A w)
  (hst:∀b,a=some b→(storeCells b A.toList).run P w=.ok () w') (hn:a=none→w'=w):(Builtin.copy_ #[T,U] ty #[.slice a n cap,cy]).run P w=.ok (.int .i64 m) w':=by
 cases a with
 |none=>obtain rfl:=hn rfl;simp[Builtin.copy_,bm hT,hl,hm,fQ hk,hf,goInt]
 |some b=>have:=hst b rfl;simp[Builtin.copy_,bm hT,hl,hm,fQ hk,hf,this,goInt]
theorem ad9{c:cX}{σ σ':ay}(hs:ei M w c σ){x y:ap}{cx cy:Value}(hx:R M w c x cx)(hy:R M w c y cy){ys:List ap}(hrd:G4 σ (Zm x) y=some ys){k:Nat}(h:Ml σ k ys x=some σ'){T U ty e:TypeId}(hT:P.underlying T=some (.slice e))(hk:(P.info? e).map (·.size)=some k) :
  ∃w',(Builtin.copy_ #[T,U] ty #[cx,cy]).run P w=.ok (.int .i64 (ys.length:Int)) w'∧ei M w' c σ'∧iD c w c w':=by
 unfold Ml at h;split at h
 ·rename_i id ep i off n;split at h
  ·rename_i k' e' es ho;split at h
   ·rename_i hc;obtain⟨rfl,rfl,hle,hall⟩:=hc;simp only[aN]at h;obtain⟨x0,hx0,h⟩:=h;split at h
    ·rename_i hc2;obtain⟨hagg,hfit⟩:=hc2;cases h;have hH:c.H id=.arr k' e':=by rw[hs.H,eI ho]
     obtain⟨b,hb,rfl⟩:∃b,c.place id=some b∧cx=.slice (some ⟨b,i*k'+off,none⟩) n n:=by
      cases hx with
      |asl h1 h2 h3=>rw[hH]at h2;cases h2;exact⟨_,h3,rfl⟩
      |aslOld h1 h2=>exact absurd (h2 _ _ hH) (dr _)
     have hall1:∀y∈ys,aC y=1∧isAgg y=false:=fun y hy=>by
      have:=aG.1 hall y hy;simpa using this
     obtain⟨L,hL,r1,A,⟨a1,g,a2,a3⟩,r3⟩:=P7 (P:=P) hs hy hrd hle (k:=1) (by omega) (fun y hy=>(hall1 y hy).1);obtain⟨o1,o2,o3,o4⟩:=hs.obj id _ ho;obtain⟨cs,T',F,q1,q2,q3,q4,q5⟩:=o4 b hb;obtain⟨hi,hxe⟩:=al.1 hx0;have hnx:aC x0=k':=by rw[←hxe];exact o2 _ (aF _)
     have hcl:=mU (v:=x0) (by omega);have hrow:i*k'+k'≤es.length*k':=by have:(i+1)*k'≤es.length*k':=cd k' hi;rwa [du,Nat.one_mul]at this
     obtain⟨w',cs',hr,hw,hz,hj⟩:=lf (P:=P) b (i*k'+off) T' A.toList 0 cs w q1 (by simp[a1];omega) (fun v hv=>by
      obtain⟨p,hp,rfl⟩:=dm.1 hv;simp only[cS,a1,iI]at hp;have:=a2 p 0 hp (by omega);rw[iI,eK,de (by omega)]at this;simp only[gY];rw[cB this.1];exact this.2)
     have hcs':∀p,cs'[p]?=if i*k'+off≤p∧p<i*k'+off+ys.length then A[p-(i*k'+off)]? else cs[p]?:=fun p=>by
      rw[hj p];simp only[eK,cS,a1,fH,iI]
     have hnl:((cellsOf x0).take off++ys++(cellsOf x0).drop (off+ys.length)).length=k':=by simp;omega
     have hset:=hs.setRow (es':=es.set i (.agg ((cellsOf x0).take off++ys++(cellsOf x0).drop (off+ys.length)))) ho hb q1 hw hz q3 o1 (fun y hy=>by
       rcases fM hy with h|h
       ·exact o2 y h
       ·rw[h];exact hnl) (by simpa using q2) (fun i' j=>if i'=i∧off≤j∧j<off+ys.length then g (j-off) 0 else F i' j) (fun i' j hi' hj'=>by
       simp only[gB]at hi';rw[hcs'];by_cases hii:i'=i
       ·subst hii;by_cases hcc:off≤j∧j<off+ys.length
        ·rw[if_pos ⟨by omega,by omega⟩,if_pos ⟨rfl,hcc⟩];have e1:i' * k'+j-(i' * k'+off)=(j-off)*1+0:=by omega
         rw[e1];exact a2 (j-off) 0 (by omega) (by omega)
        rw[if_neg (by omega),if_neg (fun h=>hcc h.2)];exact q4 i' j hi' hj'
       have hno:¬(i*k'+off≤i' * k'+j∧i' * k'+j<i*k'+off+ys.length):=by
        rintro⟨b1,b2⟩;rcases Nat.lt_or_gt_of_ne hii with h|h
        ·have:(i'+1)*k'≤i*k':=cd k' h;rw[du]at this;omega
        have:(i+1)*k'≤i' * k':=cd k' h;rw[du]at this;omega
       rw[if_neg hno,if_neg (fun h=>hii h.1)];exact q4 i' j hi' hj')
      (fun i' hi' j hj'=>by
       have hi2:i' < es.length:=by simpa using hi'
       by_cases hii:i'=i
       ·subst hii;have e0:∀L,cellsOf (.agg L)=L:=fun _=>rfl;simp only[fJ,e0]at hj' ⊢;rw[hnl]at hj';have hold:∀(h:j<(cellsOf x0).length),R M w c (cellsOf x0)[j] (F i' j):=fun h=>by
         have:=q5 i' hi j (by rw[hxe];exact h);simp only[hxe]at this;exact this
        by_cases h1:j<off
        ·rw[if_neg (by omega),bU (by simp;omega),bU (by simp;omega),dW];exact hold (by omega)
        by_cases h2:j<off+ys.length
        ·rw[if_pos ⟨trivial,by omega,h2⟩,bU (by simp;omega),cH (by simp;omega)];have e1:j-((cellsOf x0).take off).length=j-off:=by rw[bO,dx (by omega)]
         simp only[e1];have hy1:=hall1 _ (aF (show j-off<ys.length by omega));have:=a3 (j-off) (by omega) 0 (by rw[pO hy1.2];simp);simpa [pO hy1.2] using this
        rw[if_neg (by omega),cH (by simp;omega)];simp only[dU];have e1:off+ys.length+(j-((cellsOf x0).take off++ys).length)=j:=by simp;omega
        simp only[e1];exact hold (by omega)
       have e1:(es.set i (.agg ((cellsOf x0).take off++ys++(cellsOf x0).drop (off+ys.length))))[i']=es[i']:=by rw[gg (fun h=>hii h.symm)]
       simp only[e1]at hj' ⊢;rw[if_neg (fun h=>hii h.1)];exact q5 i' hi2 j hj')
     exact⟨w',EB hT hk (r1 w) hL (r3 w rfl) (fun b' hb'=>by cases hb';exact hr) (fun h=>by cases h),hset.1,hset.2⟩
    cases h
   cases h
  cases h
 ·rename_i id ep off n;split at h
  ·rename_i k' e' es ho;split at h
   ·rename_i hc;obtain⟨rfl,rfl,hle,hfit,hall⟩:=hc;cases h;obtain⟨o1,_⟩:=hs.obj id _ ho;have hall':∀y∈ys,aC y=k':=fun y hy=>by simpa using aG.1 hall y hy
    obtain⟨L,hL,r1,A,hA,r3⟩:=P7 (P:=P) hs hy hrd hle o1 hall';rcases sl_inv hs hx ho with⟨rfl,a,cap,rfl⟩|⟨b,cap,hb,rfl⟩
    ·have hy0:ys=[]:=bl (by omega);subst hy0;have e1:es.take off++[]++es.drop (off+([]:List ap).length)=es:=by simp
     have e2:σ.set id (.arr k' e' es)=σ:=by
      apply f7;intro j;rw[dc];split
      ·rename_i hj;subst hj;split
       ·exact ho.symm
       rename_i hlt;rw[dC (by omega)]
      rfl
     rw[e1,e2];have hA0:A=#[]:=by have:=hA.1;simp at this;exact this
     subst hA0;exact⟨w,EB hT hk (r1 w) hL (r3 w rfl) (fun b' hb'=>by simp[storeCells]) (fun _=>rfl),hs,.refl c w⟩
    obtain⟨w',h1,h2,h3⟩:=hs.lay (P:=P) (off:=off) ho hb hA hall' (by omega);exact⟨w',EB hT hk (r1 w) hL (r3 w rfl) (fun b' hb'=>by cases hb';exact h1) (fun h=>by cases h),h2,h3⟩
   cases h
  cases h
 cases h
end Go.AM
namespace Go.AM
section
variable (M:cZ) (P:Program) (rs:Tmp→Option cP)
def Ep(o:Op)(ao:Ee):Bool:=
 match o,ao with
 |.move x,.mov x'=>lM M rs x x'
 |.assign x,.mov x'=>lM M rs x x'
 |.assign (.const (.slice none 0 0)),.mknil k=>k != 0
 |.pick c a b,.pick c' a' b'=>lM M rs c c'&&lM M rs a a'&&lM M rs b b'
 |.alloc T,.box k (.val z)=>BA P T k&&pV M P T z
 |.box T x,.box k x'=>BA P T k&&lM M rs x x'
 |.build T parts,.build zero parts'=>pV M P T (.agg zero)&&(match P.underlying T with
   |some (.struct fs)=>(match fs.toList.mapM (fun f=>(P.info? f.type).map fun i=>(f.offset,i.size)) with
    |some places=>rL M rs (places.toArray[·]?) parts.toList parts'
    |none=>false)
   |some (.array _ e)=>(match P.info? e with
    |some ie=>rL M rs (fun i=>some (i*ie.size,ie.size)) parts.toList parts'
    |none=>false)
   |_=>false)
 |.buildSlice T len parts,.mkl k xs=>(match mL P T with
   |some e=>BA P e k&&ry P e k&&decide (len*k≤2^24)&&len != 0&&((parts.toList.map (·.1))==List.range len)&&vO M rs (parts.toList.map (·.2)) xs
   |none=>false)
 |.buildSlice T 0 parts,.mknil k=>(match mL P T with
   |some e=>BA P e k&&parts.size==0
   |none=>false)
 |.makeSlice T l n,.make k zero l' n'=>(match mL P T with
   |some e=>BA P e k&&ry P e k&&pV M P e zero&&lM M rs l l'&&lM M rs n n'
   |none=>false)
 |.makeMap _ none,.mkmap=>true
 |.lookup T m k ok,.look zero ok' m' k'=>(match P.underlying T with
   |some (.map kt et)=>yb P kt&&pV M P et zero&&ok==ok'&&lM M rs m m'&&lM M rs k k'
   |_=>false)
 |.mapUpdate T m k v,.mput m' k' v'=>(match P.underlying T with
   |some (.map kt _)=>yb P kt&&lM M rs m m'&&lM M rs k k'&&lM M rs v v'
   |_=>false)
 |.insert T m k v,.mput m' k' v'=>(match P.underlying T with
   |some (.map kt _)=>yb P kt&&lM M rs m m'&&lM M rs k k'&&lM M rs v v'
   |_=>false)
 |.load T x,.load a s x'=>rm P T a s&&lM M rs x x'
 |.store T x v,.store s x' v'=>BA P T s&&lM M rs x x'&&lM M rs v v'
 |.fieldAddr S x i,.fld off x'=>(match Ds P S i with
   |some f=>f.offset==off&&(match (P.info? f.type).map (·.size) with|some n=>n != 0|none=>false)&&lM M rs x x'
   |none=>false)
 |.field S x i,.fldv a s off x'=>(match Ds P S i with
   |some f=>f.offset==off&&rm P f.type a s&&lM M rs x x'
   |none=>false)
 |.indexAddr T x i,.idxs k x' i'=>(match mL P T with
   |some e=>BA P e k&&lM M rs x x'&&lM M rs i i'
   |none=>false)
 |.indexAddr T x i,.idxa m s x' i'=>(match P.underlying T with
   |some (.array m' e)=>m==m'&&(P.info? e).map (·.size)==some s&&lM M rs x x'&&lM M rs i i'
   |_=>false)
 |.index T x i,.idxv a m s x' i'=>(match P.underlying T with
   |some (.array m' e)=>m==m'&&rm P e a s&&lM M rs x x'&&lM M rs i i'
   |_=>false)
 |.index T x i,.idxt x' i'=>KI P T&&lM M rs x x'&&lM M rs i i'
 |.binOp op T x y _,.eqb n x' y'=>(op==if n then .neq else .eql)&&(match P.underlying T with|some .bool=>true|_=>false)&&lM M rs x x'&&lM M rs y y'
 |.binOp op T x y _,.eqa n ks x' y'=>(op==if n then .neq else .eql)&&afC P T ks&&lM M rs x x'&&lM M rs y y'
 |.binOp op _ x y _,.bin op' x' y'=>op==op'&&lM M rs x x'&&lM M rs y y'
 |.unOp op _ x,.una op' x'=>op==op'&&lM M rs x x'
 |.convert S T x,.conv k x'=>yb P S&&XV P T k&&lM M rs x x'
 |.slice T x lo hi none,.slice k x' lo' hi'=>(match mL P T with
   |some e=>BA P e k&&lM M rs x x'&&Cb M rs lo lo'&&Cb M rs hi hi'
   |none=>false)
 |.slice T x lo hi none,.slicet x' lo' hi'=>KI P T&&lM M rs x x'&&Cb M rs lo lo'&&Cb M rs hi hi'
 |.slice T x none none none,.aslice n x'=>(match P.underlying T with
   |some (.array m e)=>m==n&&n != 0&&(P.info? e).map (·.size)==some 1&&lM M rs x x'
   |_=>false)
 |.extract x i,.ext i' x'=>i==i'&&lM M rs x x'
 |.makeFunc (.func f) first cap,.mkfn n first' cap'=>M.fm n==f&&vO M rs first.toList first'&&vO M rs cap.toList cap'
 |.nilCheck x,.nilck x'=>lM M rs x x'
 |.call c,.len x'=>(match c.callee,c.args.toList,c.argTypes.toList with
   |.builtin .len,[x],[T]=>(mL P T).isSome&&lM M rs x x'
   |_,_,_=>false)
 |.call c,.lent x'=>(match c.callee,c.args.toList,c.argTypes.toList with
   |.builtin .len,[x],[T]=>KI P T&&lM M rs x x'
   |_,_,_=>false)
 |.call c,.app k x' y'=>(match c.callee,c.args.toList,c.argTypes.toList with
   |.builtin .append,[x,y],[T,U]=>(match mL P T with
    |some e=>BA P e k&&ry P e k&&X5 P U&&lM M rs x x'&&lM M rs y y'
    |none=>false)
   |_,_,_=>false)
 |.call c,.cap x'=>(match c.callee,c.args.toList,c.argTypes.toList with
   |.builtin .cap,[x],[T]=>(mL P T).isSome&&lM M rs x x'
   |_,_,_=>false)
 |.call c,.clr zero x'=>(match c.callee,c.args.toList,c.argTypes.toList with
   |.builtin .clear,[x],[T]=>(match mL P T with
    |some e=>pV M P e zero&&lM M rs x x'
    |none=>false)
   |_,_,_=>false)
 |.call c,.copy k x' y'=>(match c.callee,c.args.toList,c.argTypes.toList with
   |.builtin .copy,[x,y],[T,_]=>(match mL P T with
    |some e=>BA P e k&&lM M rs x x'&&lM M rs y y'
    |none=>false)
   |_,_,_=>false)
 |.call c,.mins x' xs'=>(match c.callee,c.args.toList with
   |.builtin .min,x::xs=>lM M rs x x'&&vO M rs xs xs'
   |_,_=>false)
 |.call c,.maxs x' xs'=>(match c.callee,c.args.toList with
   |.builtin .max,x::xs=>lM M rs x x'&&vO M rs xs xs'
   |_,_=>false)
 |.call c,.call n args _=>(match c.callee with
   |.value (.func f)=>M.fm n==f&&vO M rs c.args.toList args
   |_=>false)
 |.call c,.callv x' args=>(match c.callee with
   |.value x=>lM M rs x x'&&vO M rs c.args.toList args
   |_=>false)
 |.binOp op T x (.const (.slice none 0 0)) _,.nils n x'=>(op==if n then .neq else .eql)&&(mL P T).isSome&&lM M rs x x'
 |.buildSlice T 0 parts,.mov (.val .aj)=>(match mL P T with
   |some e=>(P.info? e).isSome&&parts.size==0
   |none=>false)
 |.call c,.appz k zero x' n'=>(match c.callee,c.args.toList,c.argTypes.toList with
   |.builtin .append,[x,n],[T,U]=>(match mL P T with
    |some e=>BA P e k&&ry P e k&&pV M P e zero&&yb P U&&lM M rs x x'&&lM M rs n n'
    |none=>false)
   |_,_,_=>false)
 |_,.bad=>true
 |_,_=>false
end
variable {M:cZ} {w:World} {P:Program} {rs:Tmp→Option cP}
theorem GS{c:cX}{env ls:List ap}{a:Act}(ht:lr M w c env ls rs a.tmps)(hg:iW M w c){place:Nat→Option (Nat×Nat)}:∀{ps:List (Nat×Operand)} {qs:List (Nat×Nat×cP)},rL M rs place ps qs=true →
  ps.length=qs.length∧∀i (h:i<ps.length) (h':i<qs.length),place ps[i].1=some (qs[i].1,qs[i].2.1)∧R M w c (qs[i].2.2.eval env ls) (a.eval ps[i].2)
 |[],[],_=>⟨rfl,fun i h=>absurd h (by simp)⟩
 |[],_::_,h=>by simp[rL]at h
 |_::_,[],h=>by simp[rL]at h
 |(i,x)::ps,(off,s,x')::qs,h=>by
  simp only[rL,aq,aP]at h;obtain⟨⟨h1,h2⟩,h3⟩:=h;obtain⟨h4,h5⟩:=GS ht hg h3;refine⟨by simp[h4],fun j hj hj'=>?_⟩;cases j with
  |zero=>exact⟨h1,Hy ht hg h2⟩
  |succ j=>simpa using h5 j (by simpa using hj) (by simpa using hj')
theorem CH{c:cX}{env ls:List ap}{a:Act}(ht:lr M w c env ls rs a.tmps)(hg:iW M w c){xs:List Operand}{xs':List cP}(h:vO M rs xs xs'=true) :
  xs.length=xs'.length∧∀i (h:i<xs'.length),∃x,(xs.map a.eval)[i]?=some x∧R M w c (xs'[i].eval env ls) x:=by
 simp only[vO,aq,aP]at h;exact⟨h.1,Wi ht hg h.1 h.2⟩
theorem Sk{c:cX}{env ls:List ap}{a:Act}(ht:lr M w c env ls rs a.tmps)(hg:iW M w c){x:Option Operand}{x':Option cP}(h:Cb M rs x x'=true){d n:Nat}(hn:Ww env ls d x'=some n) :
  (x.map a.eval=none∧n=d)∨∃k,x.map a.eval=some (.int k (n:Int)):=by
 cases x with
 |none=>cases x' with
  |none=>simp only[Ww,aJ]at hn;exact .inl ⟨rfl,hn.symm⟩
  |some _=>simp[Cb]at h
 |some x=>cases x' with
  |none=>simp[Cb]at h
  |some x'=>
   simp only[Cb]at h;obtain⟨k,hk⟩:=rV (Hy ht hg h) hn;exact .inr ⟨k,by rw[dd,hk]⟩
theorem iy{ρ:Operand→Value}{c:Call}{ty:TypeId}{b:Builtin}(h:c.callee=.builtin b):(do let d ←Go.resolve ρ c ty;invoke d.target d.args:Sem Next)=builtin b c.argTypes ty (c.args.map fun|.const _=>true|_=>false) (c.args.map ρ):=by
 unfold Go.resolve;rw[h];rfl
theorem RK{ρ:Operand→Value}{xs:Array Operand}{x:Operand}(h:xs.toList=[x]):xs.map ρ=#[ρ x]:=by
 cases xs with|mk l=>simp at h;subst h;simp
theorem Ua{ρ:Operand→Value}{xs:Array Operand}{x y:Operand}(h:xs.toList=[x,y]):xs.map ρ=#[ρ x,ρ y]:=by
 cases xs with|mk l=>simp at h;subst h;simp
theorem xG{α:Type}{xs:Array α}{l:List α}(h:xs.toList=l):xs=l.toArray:=by
 cases xs with|mk l=>simp at h;subst h;rfl
theorem ak4{c:cX}{x y v:ap}{cx cy:Value}(hx:R M w c x cx)(hy:R M w c y cy){op:BinOp}(h:bin op x y=some v){T:TypeId}(ox oy:Operand) :
  ∃cv,(do eqGuard op T ox oy cx cy;binOp op T cx cy:Sem Value).run P w=.ok cv w∧R M w c v cv:=by
 unfold bin at h;split at h
 ·rename_i k a k' b;cases hx;cases hy;simp only[Sem.run_bind,rG op T ox oy (.inl ⟨k,a,rfl⟩),Result.andThen_ok];split at h
  ·exact G6 h
  ·exact G6 h
  rename_i n1 n2;split at h
  ·rename_i hk;subst hk;exact Nq ⟨fun e=>n1 e,fun e=>n2 e⟩ h
  cases h
 ·rename_i a b;cases hx with|str h1=>cases hy with|str h2=>
  simp only[Sem.run_bind,rG op T ox oy (.inr (.inl ⟨_,rfl⟩)),Result.andThen_ok];exact Wr (by rw[h1,h2];exact h)
 cases h
theorem oA.ex{c:cX}{σ:ay}{s:Sem Value}{v:ap}(hs:ei M w c σ)(h:∃cv,s.run P w=.ok cv w∧R M w c v cv):oA M P c w (do pure (.value (←s))) v σ:=
 let ⟨_,h1,h2⟩:=h
 .quiet hs h1 h2
theorem oA.unit{c:cX}{σ':ay}{s:Sem Unit}(h:∃w',s.run P w=.ok () w'∧ei M w' c σ'∧iD c w c w'):oA M P c w (do s;pure .skip) .any σ':=by
 obtain⟨w',h1,h2,h3⟩:=h;exact⟨.skip,w',c,undef,by simp[h1],.inr ⟨rfl,rfl⟩,h2,h3,.any⟩
theorem oA.any{c:cX}{σ':ay}{s:Sem Value}(h:∃cv w',s.run P w=.ok cv w'∧ei M w' c σ'∧iD c w c w'):oA M P c w (do pure (.value (←s))) .any σ':=by
 obtain⟨cv,w',h1,h2,h3⟩:=h;exact .of h1 h2 h3 .any
theorem qX{T:TypeId}(h:yb P T=true):∃q,P.underlying T=some (.int q):=by
 unfold yb at h;split at h
 ·exact⟨_,by assumption⟩
 cases h
theorem SJ{T:TypeId}{k:IntKind}(h:XV P T k=true):P.underlying T=some (.int k):=by
 unfold XV at h;split at h
 ·rename_i j hj;have:j=k:=by simpa using h
  rw[←this];exact hj
 cases h
theorem Bf{T:TypeId}(h:KI P T=true):P.underlying T=some .string:=by
 unfold KI at h;split at h
 ·assumption
 cases h
theorem bF{α β:Type}{f:α→β}{o:Option α}{b:β}(h:o.map f=some b):∃a,o=some a∧f a=b:=by
 cases o with
 |none=>cases h
 |some a=>exact⟨a,rfl,cB h⟩
theorem bI{α β:Type}{f:α→Option β}{o:Option α}{b:β}(h:o.bind f=some b):∃a,o=some a∧f a=some b:=by
 cases o with
 |none=>cases h
 |some a=>exact⟨a,rfl,h⟩
theorem ag0{c:cX}{i:Nat}{x v:ap}{cx:Value}(hx:R M w c x cx)(h:Vy i x=some v):∃cv,(Instr.extract cx i).run P w=.ok cv w∧R M w c v cv:=by
 unfold Vy at h;split at h
 ·rename_i vs;cases hx with|@tup _ _ cvs f h1 h2 h3=>
  obtain⟨hi,rfl⟩:=al.1 h;refine⟨f i,?_,h3 i hi⟩;simp[Instr.extract,h2 i hi]
 cases h
theorem B5{S:TypeId}{i:Nat}{f:Field}(h:Ds P S i=some f):∃fs,P.underlying S=some (.struct fs)∧fs[i]?=some f:=by
 unfold Ds at h;split at h
 ·exact⟨_,by assumption,h⟩
 cases h
theorem QT{c:cX}{a:Bool}{s off:Nat}{x v:ap}{cx:Value}(hx:R M w c x cx)(h:Fq a s off x=some v){T:TypeId}(ht:rm P T a s=true):∃A cv,cx=.agg A∧(part T A off).run P w=.ok cv w∧R M w c v cv:=by
 unfold Fq at h;split at h
 ·rename_i hc;exact aeU hx hc.1 hc.2 ht h
 cases h
theorem Bs{c:cX}{env ls:List ap}{a:Act}(ht:lr M w c env ls rs a.tmps)(hg:iW M w c){xs:Array Operand}{xs':List cP}(h:vO M rs xs.toList xs'=true) :
  (xs.map a.eval).size=xs'.length∧∀i (hi:i<(xs'.map (·.eval env ls)).length),∃x,(xs.map a.eval)[i]?=some x∧R M w c (xs'.map (·.eval env ls))[i] x:=by
 obtain⟨h1,h2⟩:=CH ht hg h;refine⟨by simpa using h1,fun i hi=>?_⟩;obtain⟨x,h3,h4⟩:=h2 i (by simpa using hi);exact⟨x,by simpa using h3,by simpa using h4⟩
theorem ZE{c:cX}{σ σ':ay}{env ls:List ap}{a:Act}{C:gn}{o:Oper}{ao:Ee}{v:ap}(hs:ei M w c σ)(ht:lr M w c env ls rs a.tmps)(hg:iW M w c)
  (hok:Ep M P rs o.op ao=true) (hst:bD C env ls σ ao=some (v,σ')) (hn1:∀f x m,ao≠.call f x m) (hn2:∀f x,ao≠.callv f x):oA M P c w (execOp a.eval o) v σ':=by
 have X:∀{x:Operand} {x':cP},lM M rs x x'=true→R M w c (x'.eval env ls) (a.eval x):=fun h=>Hy ht hg h;unfold Ep at hok;unfold execOp;split at hok<;>rename_i hop<;>(try simp only[hop])
 case h_1=>cases hst;exact .now hs (X hok)
 case h_2=>cases hst;exact .now hs (X hok)
 case h_3 k=>
  cases hst;obtain⟨c',h1,h2,h3⟩:=Cz hs (show k≠0 by simpa using hok) none;exact⟨_,w,c',_,rfl,.inl rfl,h1,h2,h3⟩
 case h_4 x y z x' y' z'=>
  simp only[aq]at hok;obtain⟨⟨h1,h2⟩,h3⟩:=hok;simp only[bD]at hst;obtain⟨r,hr,he⟩:=bF hst;cases he;unfold Rc at hr;have hc:=X h1;split at hr
  ·rename_i t ht';rw[ht']at hc;cases hr;generalize a.eval x=cx at hc;cases hc;refine⟨.value (if t then a.eval y else a.eval z),w,c,_,by simp[asBool],.inl rfl,hs,.refl c w,?_⟩;cases t
   ·exact X h3
   exact X h2
  cases hr
 case h_5 T k z=>
  simp only[aq]at hok;obtain⟨h1,h2⟩:=hok;obtain⟨h3,h4⟩:=kJ h1;obtain⟨i,v0,i1,i2,i3,i4⟩:=q8 h2;have hst':(if aC z=k then some (ap.ptr σ.length 0 0 0,σ++[.arr k 0 [z]]) else none)=some (v,σ'):=hst;split at hst'
  ·rename_i hk;cases hst';obtain⟨nx,w',c',cv,b1,b2,b3,b4,b5⟩:=aaW (P:=P) hs (rC (M:=M) (w:=w) (c:=c) i4) (T:=T) hk h4;refine⟨nx,w',c',cv,?_,b2,b3,b4,b5⟩;rw[←b1];simp[Instr.alloc,Instr.box,i3]
  cases hst'
 case h_6 T x k x'=>
  simp only[aq]at hok;obtain⟨h1,h2⟩:=hok;obtain⟨h3,h4⟩:=kJ h1;simp only[bD]at hst;split at hst
  ·rename_i hk;cases hst;exact aaW hs (X h2) hk h4
  cases hst
 case h_7 T parts zero parts'=>
  simp only[aq]at hok;obtain⟨h1,h2⟩:=hok;obtain⟨i,v0,i1,i2,i3,i4⟩:=q8 h1;simp only[bD]at hst;obtain⟨cs,hf,he⟩:=bF hst;cases he;have hz:R M w c (.agg zero) v0:=rC i4;obtain⟨A,rfl⟩:∃A,v0=.agg A:=by cases hz;exact⟨_,rfl⟩
  have hzr:=hz.rcells;have key:∀place,rL M rs place parts.toList parts'=true→∃B,Instr.fill place A ((parts.map fun (i,x)=>(i,a.eval x)).toList)=some B∧oW M w c cs B:=fun place hp=>by
   obtain⟨p1,p2⟩:=GS ht hg hp;refine T5 place _ (parts'.map fun p=>(p.1,p.2.1,p.2.2.eval env ls)) zero cs A hzr (by simp;simpa using p1) (fun i hi hi'=>?_) hf;have:=p2 i (by simpa using hi) (by simpa using hi');simpa using this
  have hbuilt:∃B,P.built T ((parts.map fun (i,x)=>(i,a.eval x)).toList)=some B∧oW M w c cs B:=by
   split at h2
   ·rename_i fs hfs;split at h2
    ·rename_i places hpl;obtain⟨B,b1,b2⟩:=key _ h2;exact⟨B,by unfold Program.built;rw[i1,hfs];simp only[i2,hpl];exact b1,b2⟩
    cases h2
   ·rename_i n e hfs;split at h2
    ·rename_i ie hie;obtain⟨B,b1,b2⟩:=key _ h2;exact⟨B,by unfold Program.built;rw[i1,hfs];simp only[i2,hie];exact b1,b2⟩
    cases h2
   cases h2
  obtain⟨B,b1,b2⟩:=hbuilt;exact .quiet hs (run_build w T _ B b1) b2.agg
 case h_8 T len parts k xs=>
  split at hok
  ·rename_i e he;simp only[aq,aP,gO,aL]at hok;obtain⟨⟨⟨⟨⟨h1,h2⟩,h3⟩,h4⟩,h5⟩,h6⟩:=hok;obtain⟨s1,s2⟩:=kJ h1;simp only[bD]at hst;split at hst
   ·rename_i hall;cases hst;obtain⟨p1,p2⟩:=CH ht hg h6;have hlen:parts.toList.length=len:=by rw[←List.length_map (f:=(·.1)),h5,List.length_range]
    refine Kb (cvs:=(parts.toList.map (·.2)).map a.eval) hs (gF he) s1 s2 h2 h3 ?_ ?_ ?_ ?_ h4 ?_
    ·rw[cf,←p1,cf,hlen]
    ·rw[cf,cf,hlen]
    ·intro i hi hi';obtain⟨x,x1,x2⟩:=p2 i (by simpa using hi);rw[am hi']at x1;cases x1;simpa using x2
    ·intro v hv;simpa using aG.1 hall v hv
    rw[←h5];simp[List.zip_map',fZ]
   cases hst
  cases hok
 case h_9 T parts k=>
  split at hok
  ·rename_i e he;simp only[aq,aP]at hok;obtain⟨h1,h2⟩:=hok;obtain⟨s1,s2⟩:=kJ h1;cases hst;have hp:parts=#[]:=gf h2;subst hp;obtain⟨h3,h4⟩:=hs.addStill (.cells #[] e (0,0));obtain⟨c',b1,b2,b3⟩:=Cz h3 s2 (some ⟨w.heap.size,0,none⟩);refine⟨.value (.slice (some ⟨w.heap.size,0,none⟩) 0 0),kT w (.cells #[] e (0,0)),c',_,?_,.inl rfl,b1,h4.trans b2,b3⟩;simp[Instr.buildSlice,bm (gF he),fQ s1,newRow,Instr.fill,Array.range_zero'];rfl
  cases hok
 case h_10 T l n k zero l' n'=>
  split at hok
  ·rename_i e he;simp only[aq]at hok;obtain⟨⟨⟨⟨h1,h2⟩,h3⟩,h4⟩,h5⟩:=hok;obtain⟨s1,s2⟩:=kJ h1;simp only[bD]at hst;obtain⟨m,m1,hst⟩:=bI hst;obtain⟨d,d1,hst⟩:=bI hst;split at hst
   ·rename_i hc;obtain⟨rfl,hk,hm⟩:=hc;cases hst;obtain⟨k1,e1⟩:=rV (X h4) m1;obtain⟨k2,e2⟩:=rV (X h5) d1;rw[e1,e2];exact aeC hs (gF he) s2 h2 h3 hk hm s1
   cases hst
  cases hok
 case h_11 T=>cases hst;exact aal hs T
 case h_12 T m k ok zero ok' m' k'=>
  split at hok
  ·rename_i kt et hT;simp only[aq,aP]at hok;obtain⟨⟨⟨⟨h1,h2⟩,rfl⟩,h4⟩,h5⟩:=hok;obtain⟨q,hq⟩:=qX h1;simp only[bD]at hst;split at hst
   ·rename_i hk;obtain⟨es,e1,hst⟩:=bI hst;obtain⟨r,r1,he⟩:=bF hst;cases he;exact .ex hs (ae5 hs (X h4) (X h5) hk e1 r1 hT hq h2 ok)
   cases hst
  cases hok
 case h_13 T m k v m' k' v'=>
  split at hok
  ·rename_i kt et hT;simp only[aq]at hok;obtain⟨⟨⟨h1,h2⟩,h3⟩,h4⟩:=hok;obtain⟨q,hq⟩:=qX h1;simp only[bD]at hst;obtain⟨σ1,r1,he⟩:=bF hst;cases he;exact .unit (Uz hs (X h2) (X h3) (X h4) r1 hT hq)
  cases hok
 case h_14 T m k v m' k' v'=>
  split at hok
  ·rename_i kt et hT;simp only[aq]at hok;obtain⟨⟨⟨h1,h2⟩,h3⟩,h4⟩:=hok;obtain⟨q,hq⟩:=qX h1;simp only[bD]at hst;obtain⟨σ1,r1,he⟩:=bF hst;cases he;exact .unit (Uz hs (X h2) (X h3) (X h4) r1 hT hq)
  cases hok
 case h_15 T x b s x'=>
  simp only[aq]at hok;simp only[bD]at hst;obtain⟨r,hr,he⟩:=bF hst;cases he;exact .ex hs (XN hs (X hok.2) hok.1 hr)
 case h_16 T x y s x' y'=>
  simp only[aq]at hok;obtain⟨⟨h1,h2⟩,h3⟩:=hok;obtain⟨s1,s2⟩:=kJ h1;simp only[bD]at hst;obtain⟨r,hr,he⟩:=bF hst;cases he;exact .unit (Y0 hs (X h2) (X h3) s1 s2 hr)
 case h_17 S x i off x'=>
  split at hok
  ·rename_i f hf;simp only[aq,aP]at hok;obtain⟨⟨h1,h2⟩,h3⟩:=hok;obtain⟨fs,f1,f2⟩:=B5 hf;split at h2
   ·rename_i n hn;simp only[bD]at hst;obtain⟨r,hr,he⟩:=bF hst;cases he;exact .ex hs (ajl hs (X h3) f1 f2 h1 hn (by simpa using h2) hr)
   cases h2
  cases hok
 case h_18 S x i b s off x'=>
  split at hok
  ·rename_i f hf;simp only[aq,aP]at hok;obtain⟨⟨h1,h2⟩,h3⟩:=hok;obtain⟨fs,f1,f2⟩:=B5 hf;simp only[bD]at hst;obtain⟨r,hr,he⟩:=bF hst;cases he;obtain⟨A,cv,a1,a2,a3⟩:=QT (P:=P) (X h3) hr h2;refine .quiet hs ?_ a3;subst h1;simp[Instr.field,bm f1,f2,a1,asAgg,a2]
  cases hok
 case h_19 T x i k x' i'=>
  split at hok
  ·rename_i e he;simp only[aq]at hok;obtain⟨⟨h1,h2⟩,h3⟩:=hok;obtain⟨s1,s2⟩:=kJ h1;simp only[bD]at hst;obtain⟨n,n1,hst⟩:=bI hst;obtain⟨r,hr,he'⟩:=bF hst;cases he';exact .ex hs (aeq hs (X h2) (rV (X h3) n1) (gF he) s1 s2 hr)
  cases hok
 case h_20 T x i m s x' i'=>
  split at hok
  ·rename_i m' e he;simp only[aq,aP]at hok;obtain⟨⟨⟨rfl,h2⟩,h3⟩,h4⟩:=hok;simp only[bD]at hst;obtain⟨n,n1,hst⟩:=bI hst;split at hst
   ·rename_i hn;obtain⟨r,hr,he'⟩:=bF hst;cases he';exact .ex hs (afe hs (X h3) (rV (X h4) n1) he h2 hn hr)
   cases hst
  cases hok
 case h_21 T x i b m s x' i'=>
  split at hok
  ·rename_i m' e he;simp only[aq,aP]at hok;obtain⟨⟨⟨rfl,h2⟩,h3⟩,h4⟩:=hok;simp only[bD]at hst;obtain⟨n,n1,hst⟩:=bI hst;split at hst
   ·rename_i hn;obtain⟨r,hr,he'⟩:=bF hst;cases he';obtain⟨A,cv,a1,a2,a3⟩:=QT (P:=P) (X h3) hr h2;obtain⟨k,hk⟩:=rV (X h4) n1;refine .quiet hs ?_ a3;simp[Instr.index,hk,asIntOf,bm he,a1,hn,fQ (sQ h2),a2]
   cases hst
  cases hok
 case h_22 T x i x' i'=>
  simp only[aq]at hok;obtain⟨⟨h1,h2⟩,h3⟩:=hok;simp only[bD]at hst;obtain⟨n,n1,hst⟩:=bI hst;obtain⟨r,hr,he'⟩:=bF hst;cases he';exact .ex hs (aex (X h2) (rV (X h3) n1) hr (Bf h1))
 case h_23 op T x y _ n x' y'=>
  simp only[aq,aP]at hok;obtain⟨⟨⟨h1,h2⟩,h3⟩,h4⟩:=hok;simp only[bD]at hst;obtain⟨r,hr,he'⟩:=bF hst;cases he';split at h2
  ·rename_i hT;exact .ex hs (ahd (X h3) (X h4) hr hT h1 x y)
  cases h2
 case h_24 op T x y _ n ks x' y'=>
  simp only[aq,aP]at hok;obtain⟨⟨⟨h1,h2⟩,h3⟩,h4⟩:=hok;simp only[bD]at hst;obtain⟨r,hr,he'⟩:=bF hst;cases he';exact .ex hs (alm (X h3) (X h4) hr h2 h1 x y)
 case h_25 op T x y _ op' x' y'=>
  simp only[aq,aP]at hok;obtain⟨⟨rfl,h2⟩,h3⟩:=hok;simp only[bD]at hst;obtain⟨r,hr,he'⟩:=bF hst;cases he';exact .ex hs (ak4 (X h2) (X h3) hr x y)
 case h_26 op _ x op' x'=>
  simp only[aq,aP]at hok;obtain⟨rfl,h2⟩:=hok;simp only[bD]at hst;obtain⟨r,hr,he'⟩:=bF hst;cases he';exact .ex hs (Zk (X h2) hr)
 case h_27 S T x k x'=>
  simp only[aq]at hok;obtain⟨⟨h1,h2⟩,h3⟩:=hok;simp only[bD]at hst;obtain⟨r,hr,he'⟩:=bF hst;cases he';have hx:=X h3;unfold Rv at hr;split at hr
  ·rename_i k' n hx';rw[hx']at hx;cases hr;obtain⟨q,hq⟩:=qX h1;generalize a.eval x=cx at hx;cases hx;exact .quiet hs (UN (c:=c) hq (SJ h2) ⟨q,rfl⟩) .int
  cases hr
 case h_28 T x lo hi k x' lo' hi'=>
  split at hok
  ·rename_i e he;simp only[aq]at hok;obtain⟨⟨⟨h1,h2⟩,h3⟩,h4⟩:=hok;simp only[bD]at hst;obtain⟨n,n1,hst⟩:=bI hst;obtain⟨l,l1,hst⟩:=bI hst;obtain⟨h,hh,hst⟩:=bI hst;obtain⟨r,hr,he'⟩:=bF hst;cases he';exact .ex hs (ZB hs (X h2) n1 (Sk ht hg h3 l1) (Sk ht hg h4 hh) hr (gF he) (kJ h1).1)
  cases hok
 case h_29 T x lo hi x' lo' hi'=>
  simp only[aq]at hok;obtain⟨⟨⟨h1,h2⟩,h3⟩,h4⟩:=hok;simp only[bD]at hst;obtain⟨n,n1,hst⟩:=bI hst;obtain⟨l,l1,hst⟩:=bI hst;obtain⟨h,hh,hst⟩:=bI hst;obtain⟨r,hr,he'⟩:=bF hst;cases he';exact .ex hs (VT (X h2) n1 (Sk ht hg h3 l1) (Sk ht hg h4 hh) hr (Bf h1))
 case h_30 T x n x'=>
  split at hok
  ·rename_i m e he;simp only[aq,aP,gO]at hok;obtain⟨⟨⟨rfl,h2⟩,h3⟩,h4⟩:=hok;simp only[bD]at hst;obtain⟨r,hr,he'⟩:=bF hst;cases he';exact .ex hs (Xf hs (X h4) hr he h3 h2)
  cases hok
 case h_31 x i i' x'=>
  simp only[aq,aP]at hok;obtain⟨rfl,h2⟩:=hok;simp only[bD]at hst;obtain⟨r,hr,he'⟩:=bF hst;cases he';exact .ex hs (ag0 (X h2) hr)
 case h_32 f first cap n first' cap'=>
  simp only[aq,aP]at hok;obtain⟨⟨h1,h2⟩,h3⟩:=hok;cases hst;obtain⟨a1,a2⟩:=Bs ht hg h2;obtain⟨b1,b2⟩:=Bs ht hg h3;refine .quiet hs rfl ?_;subst h1;refine .fn (fun i=>(first.map a.eval).getD i undef) (fun i=>(cap.map a.eval).getD i undef) (by rw[a1];simp) (by rw[b1];simp) (fun i hi=>?_) (fun i hi=>?_) (fun i hi=>?_) (fun i hi=>?_)
  ·obtain⟨x,x1,_⟩:=a2 i hi;simp only[bJ,x1,cJ]
  ·obtain⟨x,x1,_⟩:=b2 i hi;simp only[bJ,x1,cJ]
  ·obtain⟨x,x1,x2⟩:=a2 i hi;simp only[bJ,x1,cJ];exact x2
  obtain⟨x,x1,x2⟩:=b2 i hi;simp only[bJ,x1,cJ];exact x2
 case h_33 x x'=>
  simp only[bD]at hst;obtain⟨r,hr,he'⟩:=bF hst;cases he';have hx:=X hok;unfold Iq at hr;split at hr
  ·rename_i id ep i o' hx';rw[hx']at hx;split at hr
   ·rename_i hf;cases hr;obtain⟨k,b,h1,h2,h3,h4⟩:=wU hs hx hf;rw[h4]at hx ⊢;exact .now hs hx
   cases hr
  ·rename_i b y o' hx';rw[hx']at hx;cases hr;generalize a.eval x=cx at hx;have:∃ad,cx=.pointer (some ad):=by cases hx;exact⟨_,rfl⟩
   obtain⟨ad,rfl⟩:=this;exact .now hs hx
  ·rename_i f p q hx';rw[hx']at hx;cases hr;generalize a.eval x=cx at hx;have:∃fi fs cs,cx=.func (.func fi) fs cs:=by cases hx;exact⟨_,_,_,rfl⟩
   obtain⟨fi,fs,cs,rfl⟩:=this;exact .now hs hx
  cases hr
 case h_34 c' x'=>
  split at hok
  ·rename_i x T h1 h2 h3;simp only[aq]at hok;obtain⟨k1,k2⟩:=hok;obtain⟨e,he⟩:=eg.1 k1;simp only[bD]at hst;obtain⟨r,hr,he'⟩:=bF hst;cases he';rw[iy h1,RK h2,xG h3];exact .ex hs ⟨_,ahG hs (X k2) hr (gF he),.int⟩
  cases hok
 case h_35 c' x'=>
  split at hok
  ·rename_i x T h1 h2 h3;simp only[aq]at hok;obtain⟨k1,k2⟩:=hok;simp only[bD]at hst;obtain⟨r,hr,he'⟩:=bF hst;cases he';rw[iy h1,RK h2,xG h3];exact .ex hs ⟨_,afy (X k2) hr (Bf k1),.int⟩
  cases hok
 case h_36 c' k x' y'=>
  split at hok
  ·rename_i x y T U h1 h2 h3;split at hok
   ·rename_i e he;simp only[aq]at hok;obtain⟨⟨⟨⟨k1,k2⟩,k3⟩,k4⟩,k5⟩:=hok;obtain⟨s1,s2⟩:=kJ k1;simp only[bD]at hst;obtain⟨ys,y1,hst⟩:=bI hst;rw[iy h1,Ua h2,xG h3];obtain⟨i,z,z1,z2,z3,z4,z5,_⟩:=rM k2;have hsz:i.size=k:=by rw[z1]at s1;simpa using s1
    have hU:∃d,P.underlying U=some d∧∀q,d≠.int q:=by
     unfold X5 at k3;split at k3
     ·cases k3
     ·rename_i d hd hn;exact⟨d,hn,fun q e=>hd q e⟩
     cases k3
    obtain⟨d,d1,d2⟩:=hU;exact UQ hs (X k4) (X k5) y1 hst ⟨⟨e,i,z,d,gF he,z1,hsz,z2,z3,z4,z5,d1,d2⟩,s2⟩
   cases hok
  cases hok
 case h_37 c' x'=>
  split at hok
  ·rename_i x T h1 h2 h3;simp only[aq]at hok;obtain⟨k1,k2⟩:=hok;obtain⟨e,he⟩:=eg.1 k1;simp only[bD]at hst;obtain⟨r,hr,he'⟩:=bF hst;cases he';rw[iy h1,RK h2,xG h3];have hx:=X k2;unfold YB at hr;split at hr
   ·rename_i hx';rw[hx']at hx;cases hr;generalize a.eval x=cx at hx;cases hx;refine .ex hs ⟨_,?_,.int⟩;simp[Builtin.cap_,bm (gF he),goInt]
   cases hr
  cases hok
 case h_38 c' zero x'=>
  split at hok
  ·rename_i x T h1 h2 h3;split at hok
   ·rename_i e he;simp only[aq]at hok;obtain⟨k1,k2⟩:=hok;simp only[bD]at hst;obtain⟨r,hr,he'⟩:=bF hst;cases he';rw[iy h1,RK h2,xG h3];exact .any (ahe hs (X k2) hr (gF he) k1)
   cases hok
  cases hok
 case h_39 c' k x' y'=>
  split at hok
  ·rename_i x y T U h1 h2 h3;split at hok
   ·rename_i e he;simp only[aq]at hok;obtain⟨⟨k1,k2⟩,k3⟩:=hok;simp only[bD]at hst;obtain⟨ys,y1,hst⟩:=bI hst;obtain⟨r,hr,he'⟩:=bF hst;cases he';rw[iy h1,Ua h2,xG h3];obtain⟨w',c1,c2,c3⟩:=ad9 hs (X k2) (X k3) y1 hr (gF he) (kJ k1).1;exact .of c1 c2 c3 .int
   cases hok
  cases hok
 case h_40 c' x' xs'=>
  split at hok
  ·rename_i x xs h1 h2;simp only[aq]at hok;obtain⟨k1,k2⟩:=hok;simp only[bD]at hst;obtain⟨r,hr,he'⟩:=bF hst;cases he';rw[iy h1];obtain⟨p1,p2⟩:=CH ht hg k2;have hargs:(c'.args.map a.eval).toList=a.eval x::xs.map a.eval:=by simp[h2]
   obtain⟨cv,r1,r2⟩:=EI (P:=P) true _ (xs.map a.eval) _ _ _ (X k1) (by simpa using p1) (fun i hi hi'=>by
    obtain⟨y,y1,y2⟩:=p2 i (by simpa using hi);rw[am hi']at y1;cases y1;simpa using y2) hr
   refine .ex hs ⟨cv,?_,r2⟩;unfold Builtin.min_;rw[hargs];exact r1
  cases hok
 case h_41 c' x' xs'=>
  split at hok
  ·rename_i x xs h1 h2;simp only[aq]at hok;obtain⟨k1,k2⟩:=hok;simp only[bD]at hst;obtain⟨r,hr,he'⟩:=bF hst;cases he';rw[iy h1];obtain⟨p1,p2⟩:=CH ht hg k2;have hargs:(c'.args.map a.eval).toList=a.eval x::xs.map a.eval:=by simp[h2]
   obtain⟨cv,r1,r2⟩:=EI (P:=P) false _ (xs.map a.eval) _ _ _ (X k1) (by simpa using p1) (fun i hi hi'=>by
    obtain⟨y,y1,y2⟩:=p2 i (by simpa using hi);rw[am hi']at y1;cases y1;simpa using y2) hr
   refine .ex hs ⟨cv,?_,r2⟩;unfold Builtin.max_;rw[hargs];exact r1
  cases hok
 case h_42=>exact absurd rfl (hn1 _ _ _)
 case h_43=>exact absurd rfl (hn2 _ _)
 case h_44 op T x q n x'=>
  simp only[aq,aP]at hok;obtain⟨⟨h1,h2⟩,h3⟩:=hok;obtain⟨e,he⟩:=eg.1 h2;simp only[bD]at hst;obtain⟨r,hr,he'⟩:=bF hst;cases he';exact .ex hs (aeT hs (X h3) hr (gF he) h1 _ _)
 case h_45 T parts=>
  split at hok
  ·rename_i e he;simp only[aq,aP]at hok;obtain⟨h1,h2⟩:=hok;obtain⟨i,hi⟩:=eg.1 h1;have s1:(P.info? e).map (·.size)=some i.size:=by rw[hi];rfl
   cases hst;have hp:parts=#[]:=gf h2;subst hp;obtain⟨h3,h4⟩:=hs.addStill (.cells #[] e (0,0));refine⟨.value (.slice (some ⟨w.heap.size,0,none⟩) 0 0),kT w (.cells #[] e (0,0)),_,_,?_,.inl rfl,h3,h4,.aj⟩;simp[Instr.buildSlice,bm (gF he),fQ s1,newRow,Instr.fill,Array.range_zero'];rfl
  cases hok
 case h_46 c' k zero x' n'=>
  split at hok
  ·rename_i x n T U g1 g2 g3;split at hok
   ·rename_i e he;simp only[aq]at hok;obtain⟨⟨⟨⟨⟨k1,k2⟩,k3⟩,k4⟩,k5⟩,k6⟩:=hok;obtain⟨s1,s2⟩:=kJ k1;obtain⟨i,z,z1,z2,z3,zb,zn,z4⟩:=rM k2;obtain⟨i',z',y1,y2,y3,y4⟩:=q8 k3;rw[z1]at y1;cases y1;rw[z2]at y2;cases y2;have hsz:i.size=k:=by rw[z1]at s1;simpa using s1
    have hzR:R M w c zero z:=rC y4;simp only[bD]at hst;obtain⟨m,m1,hst⟩:=bI hst;split at hst
    ·rename_i hc;obtain⟨kn,hkn⟩:=rV (X k6) m1;rw[iy g1];obtain⟨g,hg,hgs,hgc⟩:=pk hzR (by omega);have hA:mF M w c k (List.replicate m zero) (Builtin.zeroCells z.cells m):=by
      refine⟨by simp[Builtin.zeroCells,z3],fun _ j=>g j,fun i j hi hj=>?_,fun i hi j hj=>?_⟩
      ·have hi':i<m:=by simpa using hi
       have hlt:=oT hi' hj;have e1:(i*k+j)%k=j:=by rw[gq,ky,jL hj]
       have e2:=hgc j (by omega);have e3:z.cells[j]! = g j:=by rw[getElem!_def,e2]
       refine⟨?_,hg.one j (by omega)⟩;simp[Builtin.zeroCells,z3,hlt,e1,e3]
      have e1:(List.replicate m zero)[i]=zero:=iZ ..;simp only[e1]at hj ⊢;exact hg.rel j hj
     have hap:=UG (P:=P) (w:=w) (T:=T) (U:=U) (ty:=o.type) (e:=e) (k:=k) (i:=i) (z:=z) ⟨gF he,z1,hsz,z2,z3,zb,zn,qX k4,s2⟩ (q:=kn) (m:=m) hc.2;have:=Cj (P:=P) (T:=T) (U:=U) (ty:=o.type) (cy:=.int kn m) hs (X k5) s2 hst fun _=>⟨_,hA,by simpa using hap⟩;rw[Ua g2,xG g3];have hkn':a.eval n=.int kn (m:Int):=hkn;rw[hkn'];exact this
    cases hst
   cases hok
  cases hok
 case h_47=>cases hst
 case h_48=>cases hok
end Go.AM
namespace Go.AM
variable {M:cZ} {w:World} {P:Program} {rs:Tmp→Option cP}
theorem Fp{c:cX}{env ls:List ap}{a:Act}(ht:lr M w c env ls rs a.tmps)(hg:iW M w c){xs:Array Operand}{xs':List cP}(h:vO M rs xs.toList xs'=true) :
  iX M w c (xs'.map (·.eval env ls)) (xs.map a.eval):=by
 obtain⟨h1,h2⟩:=Bs ht hg h;exact⟨by rw[h1];simp,h2⟩
theorem iX.append{c:cX}{xs ys:List ap}{A B:Array Value}(h:iX M w c xs A)(k:iX M w c ys B):iX M w c (xs++ys) (A++B):=by
 refine⟨by simp[h.1,k.1],fun i hi=>?_⟩;by_cases hl:i<xs.length
 ·obtain⟨x,h1,h2⟩:=h.2 i hl;refine⟨x,?_,by rw[bU hl];exact h2⟩;rw[dB (by rw[h.1];exact hl)];exact h1
 obtain⟨x,h1,h2⟩:=k.2 (i-xs.length) (by simp at hi;omega);refine⟨x,?_,by rw[cH (by omega)];exact h2⟩;rw[gE (by rw[h.1];omega),h.1];exact h1
theorem Fd{c:cX}{f:Nat}{first cap:List ap}{cx:Value}(h:R M w c (.fn f first cap) cx):∃fs cs,cx=.func (.func (M.fm f)) fs cs∧iX M w c first fs∧iX M w c cap cs:=by
 cases h with
 |fn g1 g2 h1 h2 h3 h4 h5 h6=>exact⟨_,_,rfl,⟨h1,fun i hi=>⟨g1 i,h3 i hi,h5 i hi⟩⟩,h2,fun i hi=>⟨g2 i,h4 i hi,h6 i hi⟩⟩
theorem WA{α β:Type}{f:α→β}{o:Option α}{b:β}(h:o.map f=some b):∃a,o=some a∧f a=b:=bF h
theorem akp{F:Fence}{n:Nat}{c:cX}{σ σ':ay}{env ls:List ap}{a:Act}{C:gn}{o:Oper}{ao:Ee}{v:ap}(hF:rk F)(hC:jP M P C)(hR:jE M P C)
  (hs:ei M w c σ) (ht:lr M w c env ls rs a.tmps) (hg:iW M w c) (hok:Ep M P rs o.op ao=true) (hst:bD C env ls σ ao=some (v,σ'))
  {K:Act→World→Prop} {Q:Exit→Act→World→Prop} (hK:∀cv w' c',ei M w' c' σ'→iD c w c' w'→R M w' c' v cv→K (a.put o.dst cv) w'):o.wpIn F n P a w K Q:=by
 have hdef:∀c,o.op≠.defer c:=by
  intro d e;rw[e]at hok;cases ao<;>simp[Ep]at hok;cases hst
 by_cases h1:∃f x m,ao=.call f x m
 ·obtain⟨f,args,mat,rfl⟩:=h1;cases hop:o.op with
  |call d=>
   rw[hop]at hok;simp only[Ep]at hok;split at hok
   ·rename_i g hg';simp only[aq,aP]at hok;obtain⟨h2,h3⟩:=hok;simp only[bD]at hst;obtain⟨⟨v0,σ0⟩,r1,he⟩:=WA hst;have hinv:∀n,oo F n P (M.fm f) (d.args.map a.eval) w (fU M c w σ0 v0):=fun n=>(hC f _ σ v0 σ0 r1 F n w c _ hF hs hg (Fp ht hg h3)).1;refine oo.wp hF hinv ?_ hdef fun cv w' hp=>?_
    ·unfold execOp;rw[hop];simp only[Go.resolve,hg',Act.eval,h2];show callFunc g (#[]++d.args.map a.eval++#[])=_;simp
    obtain⟨c',p1,p2,p3⟩:=hp.mater mat;rw[he]at p1 p3;exact hK cv w' c' p1 p2 p3
   cases hok
  |_=>rw[hop]at hok;simp[Ep]at hok
 by_cases h2:∃f x,ao=.callv f x
 ·obtain⟨f,args,rfl⟩:=h2;cases hop:o.op with
  |call d=>
   rw[hop]at hok;simp only[Ep]at hok;split at hok
   ·rename_i x hx;simp only[aq]at hok;obtain⟨h3,h4⟩:=hok;simp only[bD]at hst;obtain⟨⟨v0,σ0⟩,r1,he⟩:=WA hst;have hxR:=Hy ht hg h3;have hargs:=Fp ht hg h4;unfold qV at r1;split at r1
    ·rename_i g first cap hfe
     rw[hfe]at hxR;obtain⟨fs,cs,e1,e2,e3⟩:=Fd hxR;have hinv:∀n,oo F n P (M.fm g) (fs++d.args.map a.eval++cs) w (fU M c w σ0 v0):=fun n=>(hC g _ σ v0 σ0 r1 F n w c _ hF hs hg ((e2.append hargs).append e3)).1;refine oo.wp hF hinv ?_ hdef fun cv w' hp=>?_
     ·unfold execOp;rw[hop];simp only[Go.resolve,hx,e1];rfl
     obtain⟨c',p1,p2,p3⟩:=hp.mater false;rw[he]at p1 p3;exact hK cv w' c' p1 p2 p3
    ·rename_i l site env' hfe;split at r1
     ·rename_i hpd;rw[hfe]at hxR;obtain⟨b,tmps,w1,e1,e2,_⟩:=hR site l env' _ σ v0 σ0 r1 F n w c _ _ hF hs hg hargs hpd hxR;have hrun:(execOp a.eval o).run P w=.ok (.round b (c.loops l).fn tmps (c.loops l).assign (c.loops l).body) w1:=by
       rw[←e2];unfold execOp;rw[hop];simp only[Go.resolve,hx,e1];show (Instr.yield b (#[]++d.args.map a.eval)).run P w=_;simp
      refine⟨fun f _=>hF.fn f,?_⟩;rw[Oper.semAt_eq _ _ _ hdef,hrun];refine⟨fun hx=>absurd hx (by rw[hF.depth];simp),?_⟩;obtain⟨b',tmps',w1',e1',e2',e3'⟩:=hR site l env' _ σ v0 σ0 r1 F (n-1) w c _ _ hF hs hg hargs hpd hxR;rw[e1]at e1';cases e1';rw[e2]at e2';cases e2';refine e3'.mono fun e w' ⟨cv,hcv,hp⟩=>?_;subst hcv;obtain⟨c',p1,p2,p3⟩:=hp.mater false;rw[he]at p1 p3;exact hK cv w' c' p1 p2 p3
     cases r1
    cases r1
   cases hok
  |_=>rw[hop]at hok;simp[Ep]at hok
 exact (ZE hs ht hg hok hst (fun f x m e=>h1 ⟨f,x,m,e⟩) (fun f x e=>h2 ⟨f,x,e⟩)).wp hF hdef hK
end Go.AM
namespace Go.AM
mutual
theorem rP:∀{a b:ap},same a b=true→a=b
 |.agg a,b,h=>by
  cases b<;>simp only[same,bC]at h;rw[mq h]
 |.tup a,b,h=>by
  cases b<;>simp only[same,bC]at h;rw[mq h]
 |.aa _ a,b,h=>by
  cases b<;>simp only[same,bC,aq,aP]at h;rw[mq h.2,h.1]
 |.lst a,b,h=>by
  cases b<;>simp only[same,bC]at h;rw[mq h]
 |.cptr _ x _,b,h=>by
  cases b<;>simp only[same,bC,aq,aP]at h;obtain⟨⟨h1,h2⟩,h3⟩:=h;rw[rP h2,h1,h3]
 |.fn _ a c,b,h=>by
  cases b<;>simp only[same,bC,aq,aP]at h;obtain⟨⟨h1,h2⟩,h3⟩:=h;rw[mq h2,mq h3,h1]
 |.imap _ a,b,h=>by
  cases b<;>simp only[same,bC,aq,aP]at h;rw[Eo h.2,h.1]
 |.yld _ _ a,b,h=>by
  cases b<;>simp only[same,bC,aq,aP]at h;obtain⟨⟨h1,h2⟩,h3⟩:=h;rw[mq h3,h1,h2]
 |.frs _ a,b,h=>by
  cases b<;>simp only[same,bC,aq,aP]at h;rw[mq h.2,h.1]
 |.int ..,b,h=>by cases b<;>simp[same]at h<;>simp[h]
 |.bool _,b,h=>by cases b<;>simp[same]at h<;>simp[h]
 |.str _,b,h=>by cases b<;>simp[same]at h<;>simp[h]
 |.nilp,b,h=>by cases b<;>simp[same]at h<;>rfl
 |.nilf,b,h=>by cases b<;>simp[same]at h<;>rfl
 |.nilm,b,h=>by cases b<;>simp[same]at h<;>rfl
 |.aj,b,h=>by cases b<;>simp[same]at h<;>rfl
 |.sl ..,b,h=>by cases b<;>simp[same]at h<;>simp[h]
 |.ptr ..,b,h=>by cases b<;>simp[same]at h<;>simp[h]
 |.asl ..,b,h=>by cases b<;>simp[same]at h<;>simp[h]
 |.mp _,b,h=>by cases b<;>simp[same]at h<;>simp[h]
 |.emp _,b,h=>by cases b<;>simp[same]at h<;>simp[h]
 |.any,b,h=>by cases b<;>simp[same]at h<;>rfl
theorem mq:∀{a b:List ap},oB a b=true→a=b
 |[],[],_=>rfl
 |[],_::_,h=>by simp[oB]at h
 |_::_,[],h=>by simp[oB]at h
 |a::x,b::y,h=>by
  simp only[oB,aq]at h;rw[rP h.1,mq h.2]
theorem Eo:∀{a b:List (ap×ap)},w8 a b=true→a=b
 |[],[],_=>rfl
 |[],_::_,h=>by simp[w8]at h
 |_::_,[],h=>by simp[w8]at h
 |(a,b)::x,(a',b')::y,h=>by
  simp only[w8,aq]at h;obtain⟨⟨h1,h2⟩,h3⟩:=h;rw[rP h1,rP h2,Eo h3]
end
mutual
theorem pG:∀(a:ap),same a a=true
 |.agg a=>by simp only[same];exact iM a
 |.tup a=>by simp only[same];exact iM a
 |.aa _ a=>by simp only[same,fu,ew];exact iM a
 |.lst a=>by simp only[same];exact iM a
 |.cptr _ x _=>by simp only[same,fu,ew,Bool.and_true];exact pG x
 |.fn _ a c=>by simp only[same,fu,ew,aq];exact⟨iM a,iM c⟩
 |.imap _ a=>by simp only[same,fu,ew];exact xJ a
 |.yld _ _ a=>by simp only[same,fu,ew];exact iM a
 |.frs _ a=>by simp only[same,fu,ew];exact iM a
 |.int ..=>by simp[same]
 |.bool _=>by simp[same]
 |.str _=>by simp[same]
 |.nilp=>by simp[same]
 |.nilf=>by simp[same]
 |.nilm=>by simp[same]
 |.aj=>by simp[same]
 |.sl ..=>by simp[same]
 |.ptr ..=>by simp[same]
 |.asl ..=>by simp[same]
 |.mp _=>by simp[same]
 |.emp _=>by simp[same]
 |.any=>by simp[same]
theorem iM:∀(a:List ap),oB a a=true
 |[]=>by simp[oB]
 |a::x=>by simp only[oB,aq];exact⟨pG a,iM x⟩
theorem xJ:∀(a:List (ap×ap)),w8 a a=true
 |[]=>by simp[w8]
 |(a,b)::x=>by simp only[w8,aq];exact⟨⟨pG a,pG b⟩,xJ x⟩
end
theorem T3{a b:Obj}(h:Md a b=true):a=b:=by
 cases a<;>cases b<;>simp only[Md,bC,aq,aP,aL]at h
 ·obtain⟨⟨h1,h2⟩,h3⟩:=h;rw[h1,h2,mq h3]
 ·rw[Eo h]
 ·rw[h.1,h.2]
 rfl
theorem PG(a:Obj):Md a a=true:=by
 cases a<;>simp[Md,iM,xJ]
theorem Ed:∀{a b:ay},oZ a b=true→a=b
 |[],[],_=>rfl
 |[],_::_,h=>by simp[oZ]at h
 |_::_,[],h=>by simp[oZ]at h
 |a::x,b::y,h=>by
  simp only[oZ,aq]at h;rw[T3 h.1,Ed h.2]
theorem xv:∀(a:ay),oZ a a=true
 |[]=>by simp[oZ]
 |a::x=>by simp only[oZ,aq];exact⟨PG a,xv x⟩
end Go.AM
namespace Go.AM
variable {C:gn} {env:List ap}
structure xd (C:gn) (env:List ap) (ins:List cj) (ls:List ap) (s:Nat→ay):Prop where
 len:ls.length=ins.length
 step:∀n (h:n<ins.length) (h':n<ls.length),(wanted env (ls.take n) ins[n].guard=some true∧bD C env (ls.take n) (s n) ins[n].op=some (ls[n],s (n+1))) ∨
  (wanted env (ls.take n) ins[n].guard=some false∧ls[n]=.tup []∧s (n+1)=s n)
theorem xi:∀(ins:List cj) (l0:List ap) (σ:ay) (ls:List ap) (σ':ay),ku C env ins l0 σ=some (ls,σ') →
  ∃(l1:List ap) (s:Nat→ay),ls=l0++l1∧l1.length=ins.length∧s 0=σ∧s ins.length=σ' ∧
   ∀n (h:n<ins.length) (h':n<l1.length),(wanted env (l0++l1.take n) ins[n].guard=some true∧bD C env (l0++l1.take n) (s n) ins[n].op=some (l1[n],s (n+1))) ∨
    (wanted env (l0++l1.take n) ins[n].guard=some false∧l1[n]=.tup []∧s (n+1)=s n)
 |[],l0,σ,ls,σ',h=>by
  simp only[ku,aJ,dN]at h;obtain⟨rfl,rfl⟩:=h;exact⟨[],fun _=>σ,by simp,rfl,rfl,rfl,fun n h=>absurd h (by simp)⟩
 |i::r,l0,σ,ls,σ',h=>by
  simp only[ku]at h;have go:∀(x:ap) (σ1:ay),ku C env r (l0++[x]) σ1=some (ls,σ') →
    ((wanted env l0 i.guard=some true∧bD C env l0 σ i.op=some (x,σ1))∨(wanted env l0 i.guard=some false∧x=.tup []∧σ1=σ)) →
    ∃(l1:List ap) (s:Nat→ay),ls=l0++l1∧l1.length=(i::r).length∧s 0=σ∧s (i::r).length=σ' ∧
     ∀n (h:n<(i::r).length) (h':n<l1.length),(wanted env (l0++l1.take n) (i::r)[n].guard=some true∧bD C env (l0++l1.take n) (s n) (i::r)[n].op=some (l1[n],s (n+1))) ∨
      (wanted env (l0++l1.take n) (i::r)[n].guard=some false∧l1[n]=.tup []∧s (n+1)=s n):=fun x σ1 h1 h2=>by
   obtain⟨l1,s,e1,e2,e3,e4,e5⟩:=xi r (l0++[x]) σ1 ls σ' h1;refine⟨x::l1,fun n=>match n with|0=>σ|n+1=>s n,by rw[e1];simp,by simp[e2],rfl,by simpa using e4,fun n hn hn'=>?_⟩;cases n with
   |zero=>simpa [e3] using h2
   |succ n=>
    have:=e5 n (by simpa using hn) (by simpa using hn');simpa using this
  split at h
  ·rename_i hw;obtain⟨⟨x,σ1⟩,h1,h2⟩:=bI h;exact go x σ1 h2 (.inl ⟨hw,h1⟩)
  ·rename_i hw;exact go (.tup []) σ h (.inr ⟨hw,rfl,rfl⟩)
  cases h
theorem Le{ins:List cj}{σ σ':ay}{ls:List ap}(h:ku C env ins [] σ=some (ls,σ')):∃s,xd C env ins ls s∧s 0=σ∧s ins.length=σ':=by
 obtain⟨l1,s,e1,e2,e3,e4,e5⟩:=xi ins [] σ ls σ' h;simp only[b9]at e1 e5;subst e1;exact⟨s,⟨e2,e5⟩,e3,e4⟩
theorem Ce:∀(ins:List cj) (l0:List ap) (s0:List ay) (σ:ay) (ls:List ap) (ss:List ay) (σ':ay),pX C env ins l0 s0 σ=some (ls,ss,σ') →
  ∃(l1:List ap) (s:Nat→ay),ls=l0++l1∧l1.length=ins.length∧s 0=σ∧s ins.length=σ'∧ss++[σ']=s0++(List.range (ins.length+1)).map s ∧
   ∀n (h:n<ins.length) (h':n<l1.length),(wanted env (l0++l1.take n) ins[n].guard=some true∧bD C env (l0++l1.take n) (s n) ins[n].op=some (l1[n],s (n+1))) ∨
    (wanted env (l0++l1.take n) ins[n].guard=some false∧l1[n]=.tup []∧s (n+1)=s n)
 |[],l0,s0,σ,ls,ss,σ',h=>by
  simp only[pX,aJ,dN]at h;obtain⟨rfl,rfl,rfl⟩:=h;exact⟨[],fun _=>σ,by simp,rfl,rfl,rfl,by simp,fun n h=>absurd h (by simp)⟩
 |i::r,l0,s0,σ,ls,ss,σ',h=>by
  simp only[pX]at h;have go:∀(x:ap) (σ1:ay),pX C env r (l0++[x]) (s0++[σ]) σ1=some (ls,ss,σ') →
    ((wanted env l0 i.guard=some true∧bD C env l0 σ i.op=some (x,σ1))∨(wanted env l0 i.guard=some false∧x=.tup []∧σ1=σ)) →
    ∃(l1:List ap) (s:Nat→ay),ls=l0++l1∧l1.length=(i::r).length∧s 0=σ∧s (i::r).length=σ'∧ss++[σ']=s0++(List.range ((i::r).length+1)).map s ∧
     ∀n (h:n<(i::r).length) (h':n<l1.length),(wanted env (l0++l1.take n) (i::r)[n].guard=some true∧bD C env (l0++l1.take n) (s n) (i::r)[n].op=some (l1[n],s (n+1))) ∨
      (wanted env (l0++l1.take n) (i::r)[n].guard=some false∧l1[n]=.tup []∧s (n+1)=s n):=fun x σ1 h1 h2=>by
   obtain⟨l1,s,e1,e2,e3,e4,e6,e5⟩:=Ce r (l0++[x]) (s0++[σ]) σ1 ls ss σ' h1;refine⟨x::l1,fun n=>match n with|0=>σ|n+1=>s n,by rw[e1];simp,by simp[e2],rfl,by simpa using e4,?_,fun n hn hn'=>?_⟩
   ·rw[e6,bj,List.range_succ_eq_map (n:=r.length+1)];simp
   cases n with
   |zero=>simpa [e3] using h2
   |succ n=>
    have:=e5 n (by simpa using hn) (by simpa using hn');simpa using this
  split at h
  ·rename_i hw;obtain⟨⟨x,σ1⟩,h1,h2⟩:=bI h;exact go x σ1 h2 (.inl ⟨hw,h1⟩)
  ·rename_i hw;exact go (.tup []) σ h (.inr ⟨hw,rfl,rfl⟩)
  cases h
theorem Dy{ls:List ap}{ops:List cj}{ss:List ay}:∀{chk:List (Nat×Nat)},oa C env ls ops ss chk=some ()→∀n j,(n,j)∈chk→∃I τ,ops[n]?=some I∧ss[j]?=some τ∧bD C env (ls.take n) τ I.op=some (mK ls n,τ)
 |[],_,n,j,h=>by cases h
 |(n0,j0)::r,h,n,j,hm=>by
  simp only[oa]at h;split at h
  ·rename_i I τ e1 e2;obtain⟨q,h1,h2⟩:=bI h;split at h2
   ·rename_i hs;simp only[aq]at hs;rcases dz.1 hm with hm|hm
    ·cases hm;refine⟨I,τ,e1,e2,?_⟩;rw[h1,←rP hs.1,←Ed hs.2]
    exact Dy h2 n j hm
   cases h2
  cases h
theorem SG{ins:List cj}{σ σ':ay}{ls:List ap}{ss:List ay}{chk:List (Nat×Nat)}(h:pX C env ins [] [] σ=some (ls,ss,σ'))(hc:oa C env ls ins (ss++[σ']) chk=some ()) :
  ∃s,xd C env ins ls s∧s 0=σ∧s ins.length=σ'∧∀(n j:Nat) (I:cj),(n,j)∈chk→ins[n]?=some I→bD C env (ls.take n) (s j) I.op=some (mK ls n,s j):=by
 obtain⟨l1,s,e1,e2,e3,e4,e6,e5⟩:=Ce ins [] [] σ ls ss σ' h;simp only[b9]at e1 e5 e6;subst e1;refine⟨s,⟨e2,e5⟩,e3,e4,fun n j I hm hI=>?_⟩;obtain⟨I',τ,i1,i2,i3⟩:=Dy hc n j hm;rw[hI]at i1;cases i1;rw[e6,dp]at i2;obtain⟨j',j1,j2⟩:=bF i2;have:j'=j:=by
  obtain⟨_,hj⟩:=al.1 j1;simpa using hj.symm
 subst this;rw[j2];exact i3
def TZ(co:Nat→Bool):Ee→Nat
 |.mov _|.pick ..|.build ..|.mkl ..|.fldv ..|.idxv ..|.idxt ..|.bin ..|.eqb ..|.eqa ..|.isnil ..|.una ..|.conv ..|.slicet ..|.lent _|.cap _|.mins ..|.maxs ..|.mkfn ..|.ext ..|.bad=>0
 |.load ..|.nils ..|.fld ..|.idxs ..|.idxa ..|.nilck _|.slice ..|.slice0 _|.aslice ..|.len _|.look ..|.mlen _=>1
 |.call f _ mat=>if !mat&&co f then 1 else 2
 |_=>2
def sL(co:Nat→Bool)(C:gn):Prop:=∀f args σ v σ',co f=true→C f args σ=some (v,σ')→σ'=σ
theorem MC{v:ap}{σ:ay}:(mater false (v,σ)).2=σ:=by
 unfold mater sx;dsimp only;split
 ·split<;>rfl
 split<;>rfl
theorem aef{co:Nat→Bool}(hp:sL co C){ls:List ap}{o:Ee}(h:TZ co o≤1){σ σ':ay}{v:ap}(hs:bD C env ls σ o=some (v,σ')):σ'=σ:=by
 have m:∀{q:Option ap},q.map (·,σ)=some (v,σ')→σ'=σ:=fun {q} h=>by
  cases q with
  |none=>cases h
  |some a=>cases h;rfl
 have ite:∀{p:Prop} [Decidable p] {q:Option (ap×ay)},(if p then q else none)=some (v,σ')→q=some (v,σ'):=fun {p} _ {q} h=>by
  split at h
  ·exact h
  cases h
 cases o with
 |call f args mat=>
  simp only[TZ]at h;split at h
  ·rename_i hc;simp only[aq,cN]at hc;simp only[bD]at hs;obtain⟨⟨v0,σ0⟩,h1,h2⟩:=bF hs;have:=hp _ _ _ _ _ hc.2 h1;subst this;rw[hc.1]at h2;have e:=MC (v:=v0) (σ:=σ0);rw[h2]at e;exact e
  omega
 |mov x=>cases hs;rfl
 |mkl k xs=>simp only[bD]at hs;have:=ite hs;cases this;rfl
 |pick c x y=>exact m hs
 |build z ps=>simp only[bD]at hs;obtain⟨_,_,h2⟩:=bF hs;cases h2;rfl
 |fldv=>exact m hs
 |idxv=>simp only[bD]at hs;obtain⟨_,_,h2⟩:=bI hs;exact m (ite h2)
 |idxt=>simp only[bD]at hs;obtain⟨_,_,h2⟩:=bI hs;exact m h2
 |bin=>exact m hs
 |eqb=>exact m hs
 |eqa=>exact m hs
 |isnil=>exact m hs
 |una=>exact m hs
 |conv=>exact m hs
 |slicet=>
  simp only[bD]at hs;obtain⟨_,_,h2⟩:=bI hs;obtain⟨_,_,h3⟩:=bI h2;obtain⟨_,_,h4⟩:=bI h3;exact m h4
 |lent=>simp only[bD]at hs;obtain⟨_,_,h2⟩:=bF hs;cases h2;rfl
 |cap=>exact m hs
 |mins=>exact m hs
 |maxs=>exact m hs
 |mkfn=>cases hs;rfl
 |ext=>exact m hs
 |bad=>cases hs
 |load=>exact m hs
 |nils=>exact m hs
 |fld=>exact m hs
 |idxs=>simp only[bD]at hs;obtain⟨_,_,h2⟩:=bI hs;exact m h2
 |idxa=>simp only[bD]at hs;obtain⟨_,_,h2⟩:=bI hs;exact m (ite h2)
 |nilck=>exact m hs
 |slice=>
  simp only[bD]at hs;obtain⟨_,_,h2⟩:=bI hs;obtain⟨_,_,h3⟩:=bI h2;obtain⟨_,_,h4⟩:=bI h3;exact m h4
 |slice0=>simp only[bD]at hs;obtain⟨_,_,h2⟩:=bF hs;cases h2;rfl
 |aslice=>exact m hs
 |len=>simp only[bD]at hs;obtain⟨_,_,h2⟩:=bF hs;cases h2;rfl
 |look=>
  simp only[bD]at hs;obtain⟨_,_,h2⟩:=bI (ite hs);obtain⟨_,_,h3⟩:=bF h2;cases h3;rfl
 |mlen=>simp only[bD]at hs;obtain⟨_,_,h2⟩:=bF hs;cases h2;rfl
 |_=>simp[TZ]at h
theorem UZ{co:Nat→Bool}{ls:List ap}{o:Ee}(h:TZ co o=0){σ σ':ay}{v:ap}(hs:bD C env ls σ o=some (v,σ'))(τ:ay):bD C env ls τ o=some (v,τ):=by
 have m:∀{q:Option ap},q.map (·,σ)=some (v,σ')→q.map (·,τ)=some (v,τ):=fun {q} h=>by
  cases q with
  |none=>cases h
  |some a=>cases h;rfl
 cases o with
 |call f args mat=>simp only[TZ]at h;split at h<;>cases h
 |mov x=>cases hs;rfl
 |mkl k xs=>
  simp only[bD]at hs ⊢;split at hs
  ·rename_i hc;rw[if_pos hc];cases hs;rfl
  cases hs
 |pick c x y=>exact m hs
 |build z ps=>simp only[bD]at hs ⊢;obtain⟨_,h1,h2⟩:=bF hs;rw[h1];cases h2;rfl
 |fldv=>exact m hs
 |idxv=>
  simp only[bD]at hs ⊢;obtain⟨k,h1,h2⟩:=bI hs;rw[h1];simp only[bM];split at h2
  ·rename_i hc;rw[if_pos hc];exact m h2
  cases h2
 |idxt=>simp only[bD]at hs ⊢;obtain⟨k,h1,h2⟩:=bI hs;rw[h1];exact m h2
 |bin=>exact m hs
 |eqb=>exact m hs
 |eqa=>exact m hs
 |isnil=>exact m hs
 |una=>exact m hs
 |conv=>exact m hs
 |slicet=>
  simp only[bD]at hs ⊢;obtain⟨_,h1,h2⟩:=bI hs;obtain⟨_,h3,h4⟩:=bI h2;obtain⟨_,h5,h6⟩:=bI h4;rw[h1];simp only[bM];rw[h3];simp only[bM];rw[h5];exact m h6
 |lent=>simp only[bD]at hs ⊢;obtain⟨_,h1,h2⟩:=bF hs;rw[h1];cases h2;rfl
 |cap=>exact m hs
 |mins=>exact m hs
 |maxs=>exact m hs
 |mkfn=>cases hs;rfl
 |ext=>exact m hs
 |bad=>cases hs
 |_=>simp[TZ]at h
end Go.AM
namespace Go.AM
variable {M:cZ} {P:Program}
abbrev C8:=List (cP×Option Nat)
def o6(its:C8)(k:Nat):cP:=((its[k]?).map (·.1)).getD (.val .any)
def eA(its:C8)(k:Nat):Option Nat:=(its[k]?).bind (·.2)
def Oa(ops:List Oper)(t:Tmp):Option Nat:=ops.findIdx? fun o=>o.dst==some t
def Gk(ops:List Oper)(em:List Tmp)(its:C8)(bef:Nat→Nat)(i:Nat)(t:Tmp):Option cP:=
 match Oa ops t with
 |none=>(em.idxOf? t).map .env
 |some k=>if (bef i).testBit k then some (o6 its k) else if k==i ||(bef k).testBit i then (em.idxOf? t).map .env else none
def Re:Value→Option ap
 |.int k n=>some (.int k n)
 |.bool b=>some (.bool b)
 |.string s=>some (.str s.data.toList)
 |.pointer none=>some .nilp
 |.nilFunc=>some .nilf
 |.map none=>some .nilm
 |_=>none
theorem agL{w:World}{c:cX}{v:Value}{a:ap}(h:Re v=some a):R M w c a v:=by
 unfold Re at h;split at h<;>first|(cases h;done)|(cases h;first|exact .int|exact .bool|exact .str rfl|exact .nilp|exact .nilf|exact .nilm)
def Sm:Op→Option Operand
 |.move x=>some x
 |.assign x=>some x
 |_=>none
def jI(co:Nat→Bool)(ins:List cj)(chk:List (Nat×Nat))(n:Nat):Bool:=match ins[n]? with
 |some I=>TZ co I.op==2&&!chk.contains (n,n)
 |none=>false
def wx(its:C8)(bef:Nat→Nat)(ops:List Oper)(i:Nat):Option (Nat×Bool)→Option (cP×Bool)→Bool
 |none,none=>true
 |some (j,b),some (x,b')=>b==b'&&(bef i).testBit j&&B0 (o6 its j) x&&((ops[j]?).bind (·.dst)).isSome
 |_,_=>false
def OD(ops:List Oper)(em:List Tmp)(its:C8)(bef:Nat→Nat)(i:Nat)(o:Oper):Bool:=o.guard.isNone&&(match Sm o.op with
 |some (.tmp t)=>(match Gk ops em its bef i t with
  |some x=>B0 x (o6 its i)
  |none=>false)
 |some (.const v)=>(match Re v with
  |some a=>B0 (.val a) (o6 its i)
  |none=>false)
 |_=>false)
structure uE (M:cZ) (P:Program) (co:Nat→Bool) (ops:Array Oper) (ins:List cj) (em:List Tmp) (its:C8) (bef:Nat→Nat) (chk:List (Nat×Nat)) (late:Option Nat) (nt:Nat):Prop where
 size:its.length=ops.size
 dst:∀(i:Nat) (o:Oper) (d:Tmp),ops[i]?=some o→o.dst=some d→d<nt
 uniq:∀(i k:Nat) (oi ok:Oper) (d:Tmp),ops[i]?=some oi→ops[k]?=some ok→oi.dst=some d→ok.dst=some d→i=k
 low:∀i k,(bef i).testBit k=true→k<i
 mono:∀k i n m,eA its k=some n→eA its i=some m→k<i→n<m
 onto:∀n,n<ins.length→∃k,eA its k=some n∧k<ops.size
 bound:∀k n,eA its k=some n→n<ins.length
 item:∀(i:Nat) (o:Oper),ops[i]?=some o→(eA its i=none∧OD ops.toList em its bef i o=true) ∨
  ∃n I,eA its i=some n∧ins[n]?=some I∧o6 its i=.loc n∧Ep M P (Gk ops.toList em its bef i) o.op I.op=true∧wx its bef ops.toList i o.guard I.guard=true ∧
   (jI co ins chk n=true→late≠some i→∀k m,k<i→eA its k=some m→jI co ins chk m=true→(bef i).testBit k=true) ∧
   (jI co ins chk n=false→TZ co I.op=0 ∨
    ((∃k m,eA its k=some m∧jI co ins chk m=true∧(bef i).testBit k=true)∨(∀k m,eA its k=some m→jI co ins chk m=true→¬m<n)∨(n,0)∈chk) ∧
    ∀k m,eA its k=some m→jI co ins chk m=true→(bef k).testBit i=true∨(∃k' m',eA its k'=some m'∧jI co ins chk m'=true∧m<m'∧(bef i).testBit k'=true) ∨
     (m<n∧∀k' m',eA its k'=some m'→jI co ins chk m'=true→m<m'→¬m' < n)∨(n,m+1)∈chk)
 lateOk:∀d,late=some d→bef d=0∧∃o T t n kk z,ops[d]?=some o∧o.op=.alloc T∧o.guard=none∧o.dst=some t∧eA its d=some n∧ins[n]?=some ⟨.box kk (.val z),none⟩∧jI co ins chk n=true ∧
  (∀j,(bef j).testBit d=true→∀k m,eA its k=some m→jI co ins chk m=true→m<n→(bef j).testBit k=true)∧∀j,j<ops.size→j≠d→Gk ops.toList em its bef j t≠none→(bef j).testBit d=true
 guards:∀(n j:Nat) (I:cj),(n,j)∈chk→ins[n]?=some I→I.guard=none
theorem Hg{ops:Array Oper}{t:Tmp}(h:Oa ops.toList t=none){k:Nat}{o:Oper}(ho:ops[k]?=some o):o.dst≠some t:=by
 unfold Oa at h;rw[List.findIdx?_eq_none_iff]at h;have hm:o∈ops.toList:=by
  rw[dt];exact⟨k,by simpa using ho⟩
 have:=h o hm;simpa using this
theorem GL{ops:Array Oper}{t:Tmp}{k:Nat}(h:Oa ops.toList t=some k):∃o,ops[k]?=some o∧o.dst=some t:=by
 unfold Oa at h;rw[dn]at h;obtain⟨hk,h1,_⟩:=h;exact⟨ops[k]'(by simpa using hk),by simp,by simpa using h1⟩
theorem R.undef{w:World}{c:cX}:R M w c (.tup []) undef:=.tup (fun _=>.nilFunc) rfl (fun i h=>absurd h (by simp)) (fun i h=>absurd h (by simp))
theorem As{env ls:List ap}{x:cP}(n:Nat):x.eval env (ls.take n)=x.eval env ls∨x.eval env (ls.take n)=.any:=by
 cases x with
 |env i=>exact .inl rfl
 |val v=>exact .inl rfl
 |loc j=>
  simp only[cP.eval,mK,df];by_cases h:j<n
  ·simp[h]
  simp[h]
theorem R.take{w:World}{c:cX}{env ls:List ap}{x:cP}{v:Value}(h:R M w c (x.eval env ls) v)(n:Nat):R M w c (x.eval env (ls.take n)) v:=by
 rcases As (env:=env) (ls:=ls) (x:=x) n with e|e
 ·rw[e];exact h
 rw[e];exact .any
section
variable {co:Nat→Bool} {ops:Array Oper} {ins:List cj} {em:List Tmp} {its:C8} {bef:Nat→Nat} {chk:List (Nat×Nat)} {env ls:List ap} {s:Nat→ay} {C:gn} {w0:World} {c0:cX} {a0:Act}
def Cut(co:Nat→Bool)(ins:List cj)(its:C8)(chk:List (Nat×Nat))(S:Nat→Prop)(p:Nat):Prop:=
 (p=0∨∃k n,S k∧eA its k=some n∧jI co ins chk n=true∧p=n+1) ∧
 ∀k n,eA its k=some n→jI co ins chk n=true→(S k↔n<p)
def uL(M:cZ)(co:Nat→Bool)(ops:Array Oper)(ins:List cj)(its:C8)(bef:Nat→Nat)(chk:List (Nat×Nat))(env ls:List ap)(s:Nat→ay)(c0:cX)(w0:World)(a0:Act)(x:Option (Tmp×Nat×Go.Obj))(S:Nat→Prop)(a:Act)(w:World):Prop:=
 (∀i k,S i→(bef i).testBit k=true→S k)∧(∀i,S i→i<ops.size)∧∃c p,ei M w c (s p)∧iD c0 w0 c w∧Cut co ins its chk S p ∧
  (∀(i:Nat) (o:Oper) (d:Tmp),S i→ops[i]?=some o→o.dst=some d→R M w c ((o6 its i).eval env ls) (a.tmps.getD d undef)) ∧
  (∀t,(∀(i:Nat) (o:Oper),S i→ops[i]?=some o→o.dst≠some t)→(∀b ob,x≠some (t,b,ob))→a.tmps.getD t undef=a0.tmps.getD t undef)∧a.tmps.size=a0.tmps.size∧a.defers=a0.defers ∧
  ∀t b ob,x=some (t,b,ob)→a.tmps.getD t undef=.pointer (some ⟨b,0,none⟩)∧w0.heap.size≤b∧w.heap[b]?=some ob∧¬c.bor b∧∀id,c.H id≠.dead→c.place id≠some b
theorem xI(hT:xd C env ins ls s)(hp:sL co C)(hchk:∀(n j:Nat) (I:cj),(n,j)∈chk→ins[n]?=some I→bD C env (ls.take n) (s j) I.op=some (mK ls n,s j))(hgd:∀(n j:Nat) (I:cj),(n,j)∈chk→ins[n]?=some I→I.guard=none)
  {p n:Nat} (hpn:p≤n) (hn:n≤ins.length) (h:∀m,p≤m→m<n→jI co ins chk m=false):s n=s p:=by
 induction n with
 |zero=>rw[show p=0 by omega]
 |succ n ih=>
  by_cases e:p=n+1
  ·rw[e]
  rw[←ih (by omega) (by omega) (fun m h1 h2=>h m h1 (by omega))];have hn':n<ins.length:=by omega
  have hnw:=h n (by omega) (by omega);have hl:=hT.len;rcases hT.step n hn' (by omega) with⟨h1,h2⟩|⟨_,_,h3⟩
  ·unfold jI at hnw;rw[am hn']at hnw;simp only[Bool.and_eq_false_iff,gm,gv,gQ]at hnw;rcases hnw with h4|h4
   ·have:TZ co ins[n].op≤1:=by
     have:TZ co ins[n].op≤2:=by
      cases ins[n].op<;>simp[TZ];split<;>omega
     omega
    exact aef hp this h2
   have h5:=hchk n n ins[n] h4 (am hn');rw[h5]at h2;simp only[aJ,dN]at h2;exact h2.2.symm
  exact h3
theorem Al(hT:xd C env ins ls s)(hp:sL co C)(hchk:∀(n j:Nat) (I:cj),(n,j)∈chk→ins[n]?=some I→bD C env (ls.take n) (s j) I.op=some (mK ls n,s j))(hgd:∀(n j:Nat) (I:cj),(n,j)∈chk→ins[n]?=some I→I.guard=none)
  (onto:∀n,n<ins.length→∃k,eA its k=some n∧k<ops.size) {p n:Nat} (hpl:p≤ins.length) (hn:n≤ins.length)
  (h:∀k m,eA its k=some m→jI co ins chk m=true→(m<p↔m<n)):s p=s n:=by
 have nw:∀m,m<ins.length→jI co ins chk m=true→(m<p↔m<n):=fun m hm hw=>by
  obtain⟨k,hk,_⟩:=onto m hm;exact h k m hk hw
 by_cases hle:p≤n
 ·refine (xI hT hp hchk hgd hle hn fun m h1 h2=>?_).symm;cases e:jI co ins chk m with
  |false=>rfl
  |true=>exact absurd ((nw m (by omega) e).2 h2) (by omega)
 refine xI hT hp hchk hgd (by omega) hpl fun m h1 h2=>?_;cases e:jI co ins chk m with
 |false=>rfl
 |true=>exact absurd ((nw m (by omega) e).1 h2) (by omega)
theorem QQ{w:World}{c:cX}{a:Act}{i n:Nat}{o:Oper}{g:Option (cP×Bool)}{t:Bool}(h:wx its bef ops.toList i o.guard g=true)(hw:wanted env (ls.take n) g=some t)
  (hv:∀(j:Nat) (oj:Oper) (d:Tmp),(bef i).testBit j=true→ops[j]?=some oj→oj.dst=some d→R M w c ((o6 its j).eval env ls) (a.tmps.getD d undef)):Region.wanted o (yielded ops a.tmps)=t:=by
 unfold Region.wanted;cases hg:o.guard with
 |none=>
  rw[hg]at h;cases g with
  |none=>simp only[wanted,aJ]at hw;exact hw
  |some x=>simp[wx]at h
 |some jb=>
  obtain⟨j,b⟩:=jb;rw[hg]at h;cases g with
  |none=>simp[wx]at h
  |some xb=>
   obtain⟨x,b'⟩:=xb;simp only[wx,aq,aP]at h;obtain⟨⟨⟨rfl,h2⟩,h3⟩,h4⟩:=h;have hx:=sJ h3;obtain⟨d,hd⟩:=eg.1 h4;obtain⟨oj,hj,hjd⟩:=bI hd;have hj':ops[j]?=some oj:=by simpa using hj
   have hr:=hv j oj d h2 hj' hjd;rw[hx]at hr;simp only[wanted]at hw;split at hw
   ·rename_i t0 ht0;simp only[aJ]at hw;have he:x.eval env ls=.bool t0:=by
     rcases As (env:=env) (ls:=ls) (x:=x) n with e|e
     ·rw[←e];exact ht0
     rw[e]at ht0;cases ht0
    rw[he]at hr;have hval:a.tmps[d]?=some (.bool t0):=by
     rw[bJ]at hr;cases hq:a.tmps[d]? with
     |none=>rw[hq]at hr;simp[undef]at hr;cases hr
     |some v=>rw[hq]at hr;simp at hr;cases hr;rfl
    have hy:yielded ops a.tmps j=some t0:=by
     unfold yielded;simp[hj',hjd,hval]
    show (yielded ops a.tmps j==some b)=t;rw[hy,←hw];cases t0<;>cases b<;>rfl
   ·rename_i ht0;simp only[aJ]at hw;have he:x.eval env ls=.tup []:=by
     rcases As (env:=env) (ls:=ls) (x:=x) n with e|e
     ·rw[←e];exact ht0
     rw[e]at ht0;cases ht0
    rw[he]at hr;show (yielded ops a.tmps j==some b)=t;have hy:yielded ops a.tmps j=none:=by
     unfold yielded;rw[bJ]at hr;simp only[hj',bM,hjd];cases hq:a.tmps[d]? with
     |none=>rfl
     |some v=>
      rw[hq]at hr;simp only[cJ]at hr;cases hr;rfl
    rw[hy,←hw];cases b<;>rfl
   cases hw
end
end Go.AM
namespace Go.AM
variable {M:cZ} {P:Program}
variable {co:Nat→Bool} {ops:Array Oper} {ins:List cj} {em:List Tmp} {its:C8} {bef:Nat→Nat} {chk:List (Nat×Nat)} {late:Option Nat} {nt:Nat} {env ls:List ap} {s:Nat→ay} {C:gn} {w0:World} {c0:cX} {a0:Act}
theorem JE{ls:List ap}{n:Nat}(h:n<ls.length):mK ls n=ls[n]:=by
 unfold mK;rw[am h];rfl
theorem Ko(hok:uE M P co ops ins em its bef chk late nt)(hT:xd C env ins ls s)(hp:sL co C)(hchk:∀(n j:Nat) (I:cj),(n,j)∈chk→ins[n]?=some I→bD C env (ls.take n) (s j) I.op=some (mK ls n,s j))
  (hC:jP M P C) (hR:jE M P C) {F:Fence} {n0:Nat} (hF:rk F) (hg:iW M w0 c0) (ht0:lr M w0 c0 env [] (fun t=>(em.idxOf? t).map .env) a0.tmps) (hsz:nt≤a0.tmps.size)
  {Q:Exit→Act→World→Prop} {i:Nat} {o:Oper} (ho:ops[i]?=some o) {x:Option (Tmp×Nat×Go.Obj)} (hxr:∀t b ob,x=some (t,b,ob)→Gk ops.toList em its bef i t=none∧o.dst≠some t) {S:Nat→Prop} (hi:¬S i) (hall:∀n,eA its i=some n→jI co ins chk n=true→∀k m,k<i→eA its k=some m→jI co ins chk m=true→S k) (hb:∀k,(bef i).testBit k=true→S k) {a:Act} {w:World}
  (hinv:uL M co ops ins its bef chk env ls s c0 w0 a0 x S a w) :
  wpOpIn F n0 P ops Q i (uL M co ops ins its bef chk env ls s c0 w0 a0 x fun j=>S j∨j=i) a w:=by
 obtain⟨cl,lt,c,p,hs,hst,hcut,hv,hun,hts,hdf,hhid⟩:=hinv;have hio:i<ops.size:=(bH.1 ho).1;have hg':iW M w c:=hg.ext hst.toExt
 have hT1:lr M w c env ls (Gk ops.toList em its bef i) a.tmps:=by
  intro t x' hx;have hxt:∀b ob,x≠some (t,b,ob):=fun b ob e=>by rw[(hxr t b ob e).1]at hx;cases hx
  unfold Gk at hx;have base:(em.idxOf? t).map cP.env=some x'→(∀(i:Nat) (o:Oper),S i→ops[i]?=some o→o.dst≠some t)→R M w c (x'.eval env ls) (a.tmps.getD t undef):=fun h1 h2=>by
   rw[hun t h2 hxt];have:=(ht0 t x' h1).ext hst.toExt;obtain⟨j,_,rfl⟩:=bF h1;exact this
  split at hx
  ·rename_i hw;exact base hx fun k ok _ hk=>Hg hw hk
  rename_i k hw;obtain⟨ok,hk,hkd⟩:=GL hw;split at hx
  ·rename_i hbk;cases hx;exact hv k ok t (hb k hbk) hk hkd
  split at hx
  ·rename_i hc;refine base hx fun k' ok' hS hk' hd'=>?_;have:=hok.uniq k' k ok' ok t hk' hk hd' hkd;subst this;simp only[cK,aP]at hc;rcases hc with rfl|hc
   ·exact hi hS
   exact hi (cl _ _ hS hc)
  cases hx
 have hT2:∀n,lr M w c env (ls.take n) (Gk ops.toList em its bef i) a.tmps:=fun n t x hx=>(hT1 t x hx).take n
 have upd:∀(cv:Value) (w':World) (c':cX) (p':Nat),ei M w' c' (s p')→iD c w c' w'→Cut co ins its chk (fun j=>S j∨j=i) p'→R M w' c' ((o6 its i).eval env ls) cv →
   uL M co ops ins its bef chk env ls s c0 w0 a0 x (fun j=>S j∨j=i) (a.put o.dst cv) w':=fun cv w' c' p' h1 h2 h3 h4=>by
  refine⟨fun j k hj hk=>?_,fun j hj=>?_,c',p',h1,hst.trans h2,h3,fun j oj d hj hoj hd=>?_,fun t ht hxt=>?_,?_,?_,fun t b ob e=>?_⟩
  ·rcases hj with hj|rfl
   ·exact .inl (cl j k hj hk)
   exact .inl (hb k hk)
  ·rcases hj with hj|rfl
   ·exact lt j hj
   exact hio
  ·by_cases e:j=i
   ·subst e;rw[ho]at hoj;cases hoj;rw[hd,qD (by rw[hts];exact bd (hok.dst _ _ _ ho hd) hsz),if_pos rfl];exact h4
   have hSj:S j:=hj.resolve_right e;have:=(hv j oj d hSj hoj hd).ext h2.toExt;cases hod:o.dst with
   |none=>exact this
   |some d'=>
    have hne:¬d=d':=fun e2=>by
     subst e2;exact e (hok.uniq _ _ _ _ _ hoj ho hd hod)
    rw[qD (by rw[hts];exact bd (hok.dst _ _ _ ho hod) hsz),if_neg hne];exact this
  ·have hne:o.dst≠some t:=ht i o (.inr rfl) ho;have:=hun t (fun j oj hj=>ht j oj (.inl hj)) hxt;cases hod:o.dst with
   |none=>exact this
   |some d'=>
    have hne':¬t=d':=fun e2=>hne (by rw[hod,e2]);rw[qD (by rw[hts];exact bd (hok.dst _ _ _ ho hod) hsz),if_neg hne'];exact this
  ·cases hod:o.dst with
   |none=>exact hts
   |some d=>simp[Act.put,hts]
  ·cases hod:o.dst with
   |none=>exact hdf
   |some d=>exact hdf
  obtain⟨y1,y2,y3,y4,y5⟩:=hhid t b ob e;have hne:=(hxr t b ob e).2;have hbl:b<w.heap.size:=(bH.1 y3).1;refine⟨?_,y2,by rw[h2.frame b hbl y5];exact y3,fun hb=>?_,fun id z1 z2=>?_⟩
  ·cases hod:o.dst with
   |none=>exact y1
   |some d'=>
    have hne':¬t=d':=fun e2=>hne (by rw[hod,e2]);rw[qD (by rw[hts];exact bd (hok.dst _ _ _ ho hod) hsz),if_neg hne'];exact y1
  ·rcases h2.oldb b hb hbl with hb|⟨q,q1,q2⟩
   ·exact y4 hb
   exact y5 q q1 q2
  obtain⟨q,q1,q2⟩:=h2.liv id b z1 z2 hbl;exact y5 q q1 q2
 have hpl:p≤ins.length:=by
  rcases hcut.1 with rfl|⟨k,n,_,hk,_,rfl⟩
  ·exact bP _
  exact hok.bound k n hk
 unfold wpOpIn;rw[ho];simp only;rcases hok.item i o ho with⟨hn,hel⟩|⟨n,I,hn,hI,hval,hop,hgo,hnw,hx⟩
 ·
  unfold OD at hel;simp only[aq,hY]at hel;obtain⟨hgn,hel⟩:=hel;have hw:Region.wanted o (yielded ops a.tmps)=true:=by unfold Region.wanted;rw[hgn]
  rw[if_pos hw];have hcut':Cut co ins its chk (fun j=>S j∨j=i) p:=by
   refine⟨hcut.1.imp id fun ⟨k,n,h1,h2⟩=>⟨k,n,.inl h1,h2⟩,fun k n hk hnw=>?_⟩;rw[←hcut.2 k n hk hnw];refine⟨fun h=>h.resolve_right fun e=>?_,.inl⟩;rw[e,hn]at hk;cases hk
  have fin:∀y,Sm o.op=some y→R M w c ((o6 its i).eval env ls) (a.eval y)→o.wpIn F n0 P a w (uL M co ops ins its bef chk env ls s c0 w0 a0 x fun j=>S j∨j=i) Q:=fun y hm hr=>by
   refine⟨fun f _=>hF.fn f,?_⟩;have hex:(execOp a.eval o)=pure (.value (a.eval y)):=by
    unfold execOp;cases hopp:o.op<;>rw[hopp]at hm<;>simp only[Sm]at hm<;>first|(cases hm;done)|(cases hm;rfl)
   rw[Oper.semAt_eq _ _ _ (fun d e=>by rw[e]at hm;cases hm),hex];exact upd _ w c p hs (.refl c w) hcut' hr
  split at hel
  ·rename_i t hm;split at hel
   ·rename_i x hx;refine fin _ hm ?_;have:=hT1 t x hx;rw[sJ hel]at this;exact this
   cases hel
  ·rename_i v hm;split at hel
   ·rename_i x hx;refine fin _ hm ?_;rw[←sJ hel];exact agL hx
   cases hel
  cases hel
 obtain⟨hnl,hIe⟩:=al.1 hI;have hnl':n<ls.length:=by rw[hT.len];exact hnl
 have hvR:∀(j:Nat) (oj:Oper) (d:Tmp),(bef i).testBit j=true→ops[j]?=some oj→oj.dst=some d→R M w c ((o6 its j).eval env ls) (a.tmps.getD d undef):=fun j oj d hj=>hv j oj d (hb j hj);have hvaln:(o6 its i).eval env ls=ls[n]:=by
  rw[hval];exact JE hnl'
 have hcutN:jI co ins chk n=true→s p=s n:=fun hw=>by
  refine Al hT hp hchk hok.guards hok.onto hpl (by omega) fun k m hk hm=>?_;rw[←hcut.2 k m hk hm];rcases eY k i with h|h|h
  ·exact⟨fun _=>hok.mono _ _ _ _ hk hn h,fun _=>hall n hn hw k m h hk hm⟩
  ·subst h;rw[hn]at hk;cases hk;exact⟨fun h=>absurd h hi,fun h=>absurd h (dr _)⟩
  have hnm:=hok.mono _ _ _ _ hn hk h;refine⟨fun hS=>absurd ((hcut.2 i n hn hw).2 (by have:=(hcut.2 k m hk hm).1 hS;omega)) hi,fun h2=>?_⟩;omega
 have cutN:jI co ins chk n=true→Cut co ins its chk (fun j=>S j∨j=i) (n+1):=fun hw=>by
  refine⟨.inr ⟨i,n,.inr rfl,hn,hw,rfl⟩,fun k m hk hm=>?_⟩;rcases eY k i with h|h|h
  ·have:=hok.mono _ _ _ _ hk hn h;exact⟨fun _=>by omega,fun _=>.inl (hall n hn hw k m h hk hm)⟩
  ·subst h;rw[hn]at hk;cases hk;exact⟨fun _=>by omega,fun _=>.inr rfl⟩
  have:=hok.mono _ _ _ _ hn hk h;refine⟨fun hS=>?_,fun h2=>by omega⟩;rcases hS with hS|rfl
  ·exact absurd ((hcut.2 i n hn hw).2 (by have:=(hcut.2 k m hk hm).1 hS;omega)) hi
  exact absurd h (dr _)
 have cutX:jI co ins chk n=false→Cut co ins its chk (fun j=>S j∨j=i) p:=fun hw=>by
  refine⟨hcut.1.imp id fun ⟨k,n,h1,h2⟩=>⟨k,n,.inl h1,h2⟩,fun k m hk hm=>?_⟩;rw[←hcut.2 k m hk hm];refine⟨fun h=>h.resolve_right fun e=>?_,.inl⟩;rw[e,hn]at hk;cases hk;rw[hw]at hm;cases hm
 rcases hT.step n hnl hnl' with⟨h1,h2⟩|⟨h1,h2,h3⟩
 ·
  rw[hIe]at h1 h2;have hw:Region.wanted o (yielded ops a.tmps)=true:=QQ hgo h1 hvR;rw[if_pos hw];have run:∀p',bD C env (ls.take n) (s p) I.op=some (ls[n],s p')→Cut co ins its chk (fun j=>S j∨j=i) p'→o.wpIn F n0 P a w (uL M co ops ins its bef chk env ls s c0 w0 a0 x fun j=>S j∨j=i) Q:=fun p' hstep hc'=>
   akp hF hC hR hs (hT2 n) hg' hop hstep fun cv w' c' b1 b2 b3=>upd cv w' c' p' b1 b2 hc' (by rw[hvaln];exact b3)
  cases hw2:jI co ins chk n with
  |true=>
   refine run (n+1) ?_ (cutN hw2);rw[hcutN hw2];exact h2
  |false=>
   refine run p ?_ (cutX hw2);have hsn:s (n+1)=s n:=xI hT hp hchk hok.guards (dJ n) hnl fun m a1 a2=>by
    have:m=n:=by omega
    rw[this];exact hw2
   rw[hsn]at h2;have same:(∀k m,eA its k=some m→jI co ins chk m=true→(m<p↔m<n))→bD C env (ls.take n) (s p) I.op=some (ls[n],s p):=fun h=>by
    rw[Al hT hp hchk hok.guards hok.onto hpl (by omega) h];exact h2
   have byChk:(n,p)∈chk→bD C env (ls.take n) (s p) I.op=some (ls[n],s p):=fun h=>by
    rw[hchk n p I h hI,JE hnl']
   rcases hx hw2 with h0|⟨hz,hk⟩
   ·exact UZ h0 h2 (s p)
   rcases hcut.1 with rfl|⟨k,m,hS,hkm,hmw,rfl⟩
   ·rcases hz with⟨k,m,b1,b2,b3⟩|hz|hz
    ·have:=(hcut.2 k m b1 b2).1 (hb k b3);omega
    ·exact same fun k m b1 b2=>⟨fun h=>by omega,fun h=>absurd h (hz k m b1 b2)⟩
    exact byChk hz
   rcases hk k m hkm hmw with h|⟨k',m',b1,b2,b3,b4⟩|⟨b1,b2⟩|h
   ·exact absurd (cl k i hS h) hi
   ·have:=(hcut.2 k' m' b1 b2).1 (hb k' b4);omega
   ·exact same fun k' m' e1 e2=>⟨fun h=>by omega,fun h=>by
     by_cases e:m<m'
     ·exact absurd h (b2 k' m' e1 e2 e)
     omega⟩
   exact byChk h
 rw[hIe]at h1;have hw:Region.wanted o (yielded ops a.tmps)=false:=QQ hgo h1 hvR;rw[if_neg (by rw[hw];simp)];refine⟨fun f _=>hF.fn f,?_⟩;have hany:R M w c ((o6 its i).eval env ls) undef:=by rw[hvaln,h2];exact R.undef
 cases hw2:jI co ins chk n with
 |true=>exact upd _ w c (n+1) (by rw[h3,←hcutN hw2];exact hs) (.refl c w) (cutN hw2) hany
 |false=>exact upd _ w c p hs (.refl c w) (cutX hw2) hany
end Go.AM
namespace Go.AM
variable {M:cZ} {P:Program} {w w':World} {c c':cX} {σ:ay}
theorem ei.over(hs:ei M w c σ)(h:∀b,b<w.heap.size→(c.bor b∨∃id,c.H id≠.dead∧c.place id=some b)→w'.heap[b]?=w.heap[b]?)(hz:w.heap.size≤w'.heap.size):ei M w' c σ∧Ext c w c w':=by
 have hext:Ext c w c w':=⟨fun _ h=>h,fun _ h=>h,fun b hb=>h b (hs.low b (hb.elim (fun h=>h) (hs.sb b))) (.inl (hb.elim (fun h=>h) (hs.sb b))),aM _,fun _ _=>.inl rfl,fun _ _ _ _=>⟨rfl,rfl,rfl⟩⟩;refine⟨⟨hs.H,hs.N,hs.sb,fun b hb=>bd (hs.low b hb) hz,fun id b h1 h2=>?_,hs.inj,fun id o ho=>?_⟩,hext⟩
 ·obtain⟨p1,p2⟩:=hs.plow id b h1 h2;exact⟨bd p1 hz,p2⟩
 refine (hs.obj id o ho).ext hext (fun _=>⟨rfl,rfl,rfl⟩) fun hnd b hb=>?_;have hd:c.H id≠.dead:=by rw[hs.H];exact fun h=>hnd ((ou ho).1 h)
 exact h b (hs.plow id b hd hb).1 (.inr ⟨id,hd,hb⟩)
end Go.AM
