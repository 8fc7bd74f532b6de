/- Part of the proof. -/
import Derived.Test.YtchifcbclnonbaaGreatDoorAm03
import Derived.Laws.BytesArg
import Derived.OrdersIn
set_option linter.unusedVariables false
set_option linter.unusedSimpArgs false
set_option linter.unusedSectionVars false
namespace Go.AM
variable {M:cO} {w:World} {P:Program}
theorem UW{c:cJ}{op:BinOp}{T:TypeId}{a b:ByteArray}{v:ap}(h:ej op a.data.toList b.data.toList=some v) :
  ∃cv,(binOp op T (.string a) (.string b)).run P w=.ok cv w∧R M w c v cv:=by
 have hb:∀op,(binOp op T (.string a) (.string b))=Op.stringOp op a b:=fun op=>by cases op<;>rfl
 rw[hb];have e1:a.toList=a.data.toList:=ByteArray.toList_eq ..;have e2:b.toList=b.data.toList:=ByteArray.toList_eq ..;have hm:aV=68719476736:=rfl;cases op<;>simp only[ej]at h<;>first|(cases h;done)|skip
 case add=>
  split at h
  ·rename_i hl;cases h;have hn:¬(((a.size+b.size:Nat):Int)>IntKind.i64.max):=by
    have ha:a.data.toList.length=a.size:=by rw[cw];rfl
    have hb':b.data.toList.length=b.size:=by rw[cw];rfl
    have:IntKind.i64.max=9223372036854775807:=by decide
    rw[this];omega
   refine⟨.string (a++b),?_,.str (by simp[ByteArray.data_append])⟩;simp only[Op.stringOp,hn,bQ];rfl
  cases h
 all_goals
  cases h;refine⟨.bool _,?_,.bool⟩;simp only[Op.stringOp,e1,e2];rfl
theorem TZ{c:cJ}{x v:ap}{cx:Value}(hx:R M w c x cx){n l h:Nat}(hn:G4 x=some n){lo hi:Option Value}(hlo:(lo=none∧l=0)∨∃k,lo=some (.int k (l:Int)))
  (hhi:(hi=none∧h=n)∨∃k,hi=some (.int k (h:Int))) (hv:Ea x l h=some v) {T:TypeId} (hT:P.underlying T=some .string) :
  ∃cv,(Instr.sliceAt T cx lo hi none).run P w=.ok cv w∧R M w c v cv:=by
 obtain⟨s,t,rfl,rfl,hs,hz⟩:=W2 hx hn;simp only[Ea]at hv;split at hv
 ·rename_i hc;cases hv;have hl:s.length=t.size:=by rw[←hs,cw];rfl
  refine⟨.string (t.extract l h),?_,.str (by rw[ByteArray.data_extract,Array.toList_extract,hs])⟩;have hb:=ud (P:=P) (w:=w) (len:=t.size) (cap:=t.size) (isS:=false) hlo (by rw[hz];exact hhi) hc.1 (by omega);simp[Instr.sliceAt,run_underlying hT,Instr.slice,hb]
 cases hv
theorem aeg{c:cJ}{x v:ap}{cx ci:Value}(hx:R M w c x cx){n:Nat}(hi:∃k,ci=.int k (n:Int))(h:Mf n x=some v){T:TypeId}(hT:P.underlying T=some .string) :
  ∃cv,(Instr.index T cx ci).run P w=.ok cv w∧R M w c v cv:=by
 obtain⟨k,rfl⟩:=hi;unfold Mf at h;split at h
 ·cases hx with|@str _ s t ht=>
  simp only[aK]at h;obtain⟨b,h1,rfl⟩:=h;have h2:t[n]?=some b:=by
   rw[←ht]at h1;have h3:t.data[n]?=some b:=by simpa using h1
   obtain⟨h4,h5⟩:=bd.1 h3;have h6:n<t.size:=h4;rw[getElem?_pos t n h6];exact congrArg some h5
  refine⟨_,?_,.int⟩;simp[Instr.index,asIntOf,run_underlying hT,h2]
 cases h
theorem Fj{c:cJ}(lt:Bool):∀(ys:List ap) (cys:List Value) (x v:ap) (cx:Value),R M w c x cx→cys.length=ys.length→(∀i (h:i<ys.length) (h':i<cys.length),R M w c ys[i] cys[i])→uQ lt x ys=some v →
  ∃cv,(cys.foldlM (if lt then Builtin.min2 else Builtin.max2) cx).run P w=.ok cv w∧R M w c v cv
 |[],[],x,v,cx,hx,_,_,h=>by simp only[uQ,az]at h;subst h;exact⟨cx,rfl,hx⟩
 |[],_::_,_,_,_,_,h,_,_=>by simp at h
 |_::_,[],_,_,_,_,h,_,_=>by simp at h
 |y::ys,cy::cys,x,v,cx,hx,hl,hr,h=>by
  have hy:=hr 0 (by simp) (by simp);simp only[cC]at hy;unfold uQ at h;split at h
  ·rename_i he;cases he
  ·rename_i k a k' b r he1;injection he1 with e1 e2;subst e1 e2;split at h
   ·rename_i hk;subst hk;cases hx;cases hy;obtain⟨cv,h1,h2⟩:=Fj lt ys cys _ v _ (.int (M:=M) (w:=w) (c:=c)) (by simpa using hl) (fun i hi hi'=>by have:=hr (i+1) (by simpa using hi) (by simpa using hi');simpa using this) h;refine⟨cv,?_,h2⟩;rw[List.foldlM_cons,Sem.run_bind];cases lt
    ·have e:((if false=true then Builtin.min2 else Builtin.max2) (.int k a) (.int k b)).run P w=.ok (.int k (if b>a then b else a)) w:=rfl;rw[e];simpa using h1
    have e:((if true=true then Builtin.min2 else Builtin.max2) (.int k a) (.int k b)).run P w=.ok (.int k (if b<a then b else a)) w:=rfl;rw[e];simpa using h1
   cases h
  cases h
theorem UA{c:cJ}{σ:aw}(hs:ek M w c σ){x v:ap}{cx:Value}(hx:R M w c x cx){n:Nat}(h:V8 σ n x=some v){T e:TypeId}(hT:P.underlying T=some (.array n e))(hk:(P.info? e).map (·.size)=some 1)(hn:n≠0) :
  ∃cv,(Instr.sliceAt T cx none none none).run P w=.ok cv w∧R M w c v cv:=by
 unfold V8 at h;split at h
 ·split at h
  ·rename_i id ep i o hf;cases h;obtain⟨k,b,h1,h2,h3,rfl⟩:=w8 hs hx hf;refine⟨_,?_,.asl h1 h2 h3⟩;have hb:=ud (P:=P) (w:=w) (len:=n) (cap:=n) (isS:=false) (l:=0) (h:=n) (lo:=none) (hi:=none) (.inl ⟨rfl,rfl⟩) (.inl ⟨rfl,rfl⟩) (cd _) (aB _);simp[Instr.sliceAt,run_underlying hT,Instr.sureAddr,hb,fj hk,hn,ja]
  cases h
 ·split at h
  ·rename_i cs hc;obtain⟨rfl,hall⟩:=hc;cases h;have hq:∀x∈cs,aC x=1∧isAgg x=false:=fun x hx=>by
    have:=aI.1 hall x hx;simpa using this
   cases hx with
   |@cptr _ _ _ _ o blk f h1 h2 h3 h4=>
    refine⟨.slice (some ⟨blk,o,none⟩) cs.length cs.length,?_,?_⟩
    ·have hb:=ud (P:=P) (w:=w) (len:=cs.length) (cap:=cs.length) (isS:=false) (l:=0) (h:=cs.length) (lo:=none) (hi:=none) (.inl ⟨rfl,rfl⟩) (.inl ⟨rfl,rfl⟩) (cd _) (aB _);simp[Instr.sliceAt,run_underlying hT,Instr.sureAddr,hb,fj hk,hn,ja]
    refine .aa 1 (fun i _=>f i) (by simpa using h1) rfl (aB _) (by omega) (fun x hx=>(hq x hx).1) (fun i j hi hj=>?_) (fun i hi j hj=>?_)
    ·have:j=0:=by omega
     subst this;have:=h3 i hi;simpa using this
    have e:=pn (hq _ (aO hi)).2;simp only[e,cn,cK]at hj ⊢;have:j=0:=by omega
    subst this;exact h4 i hi
  cases h
 cases h
theorem ek.setRow{c:cJ}{σ:aw}{w':World}(hs:ek M w c σ){id k ep b:Nat}{es es':List ap}(ho:σ[id]?=some (.arr k ep es))(hb:c.place id=some b){cs cs':Array Value}{T:TypeId}(hcs:w.heap[b]?=some (.cells cs T (0,0)))
  (hw:rF w w' b (.cells cs' T (0,0))) (hz:cs'.size=cs.size) (hroom:c.room id=cs.size) (hk:k≠0) (hall:∀x∈es',aC x=k) (hlen:es'.length*k≤cs.size) (f:Nat→Nat→Value)
  (hc:∀i j,i<es'.length→j<k→cs'[i*k+j]?=some (f i j)∧(f i j).oneCell'=true) (hr:∀i (hi:i<es'.length) j (hj:j<(cellsOf es'[i]).length),R M w c (cellsOf es'[i])[j] (f i j)) :
  ek M w' c (σ.set id (.arr k ep es'))∧gG c w c w':=by
 have hlive:c.H id≠.dead:=by rw[hs.H,dV ho];simp
 have hbn:=hs.plow id b hlive hb;have hext:Ext c w c w':=⟨fun _ h=>h,fun _ h=>h,fun y hy=>by rw[hw.get _ hbn.1,if_neg (fun e=>by subst e;exact hbn.2 (hy.elim (fun h=>h) (hs.sb _)))],aB _,fun _ _=>.inl rfl,fun _ _ _ _=>⟨rfl,rfl,rfl⟩⟩
 have hobj:rz M w' c id (.arr k ep es'):=⟨hk,hall,fun hn=>(by rw[hb]at hn;cases hn),fun b' hb'=>by
  rw[hb]at hb';cases hb';exact⟨cs',T,f,by rw[hw.get _ hbn.1,if_pos rfl],by omega,by rw[hz];exact hroom,hc,fun i hi j hj=>(hr i hi j hj).ext hext⟩⟩
 exact⟨(hs.setObj ho hb hw hobj).1,gG.setB hs hlive hb hw hext⟩
theorem sl_inv{c:cJ}{σ:aw}(hs:ek M w c σ){id ep off n:Nat}{cx:Value}(hx:R M w c (.sl id ep off n) cx){k:Nat}{es:List ap}(ho:σ[id]?=some (.arr k ep es)) :
  (n=0∧∃a cap,cx=.slice a 0 cap)∨∃b cap,c.place id=some b∧cx=.slice (some ⟨b,off*k,none⟩) n cap:=by
 have hH:c.H id=.arr k ep:=by rw[hs.H,dV ho]
 cases hx with
 |sl h1 h2 h3 h4 h5=>rw[hH]at h2;cases h2;exact .inr ⟨_,_,h3,rfl⟩
 |sl0=>exact .inl ⟨rfl,_,_,rfl⟩
 |slOld h0 h1 h2=>exact absurd (h2 _ _ hH) (dn _)
theorem OU{α:Type}{p:α→Prop}{es ys:List α}{a b:Nat}(h1:∀x∈es,p x)(h2:∀x∈ys,p x):∀x∈es.take a++ys++es.drop b,p x:=fun x hx=>by
 rcases cq.1 hx with hx|hx
 ·rcases cq.1 hx with hx|hx
  ·exact h1 x (cN hx)
  exact h2 x hx
 exact h1 x (dC hx)
theorem ek.lay{c:cJ}{σ:aw}(hs:ek M w c σ){id k ep b off:Nat}{es ys:List ap}(ho:σ[id]?=some (.arr k ep es))(hb:c.place id=some b){A:Array Value}(hA:mW M w c k ys A)(hall:∀x∈ys,aC x=k)(hfit:off+ys.length≤es.length) :
  ∃w',(storeCells ⟨b,off*k,none⟩ A.toList).run P w=.ok () w'∧ek M w' c (σ.set id (.arr k ep (es.take off++ys++es.drop (off+ys.length))))∧gG c w c w':=by
 obtain⟨o1,o2,o3,o4⟩:=hs.obj id _ ho;obtain⟨cs,T,F,q1,q2,q3,q4,q5⟩:=o4 b hb;obtain⟨a1,g,a2,a3⟩:=hA;have hm:(off+ys.length)*k≤es.length*k:=bO k hfit;rw[dy]at hm
 obtain⟨w',cs',hr,hw,hz,hj⟩:=lO (P:=P) b (off*k) T A.toList 0 cs w q1 (by simp[a1];omega) (fun v hv=>by
  obtain⟨p,hp,rfl⟩:=bP.1 hv;simp only[cw,a1]at hp;have hk:0<k:=fF o1;have h1:p/k<ys.length:=(jo hk).2 hp;have h2:p%k<k:=pC _ hk;have:=a2 _ _ h1 h2;have e:p/k*k+p%k=p:=by have:=mZ p k;rw[gm]at this;omega
  rw[e]at this;rw[bW (by omega)]at this;simp only[gJ];rw[dz this.1];exact this.2)
 have hlen:(es.take off++ys++es.drop (off+ys.length)).length=es.length:=by simp;omega
 have hcs':∀p,cs'[p]?=if off*k≤p∧p<off*k+ys.length*k then A[p-off*k]? else cs[p]?:=fun p=>by
  rw[hj p];simp only[eF,cw,a1,eB]
 refine⟨w',hr,hs.setRow ho hb q1 hw hz q3 o1 (OU o2 hall) (by rw[hlen];omega) (fun i j=>if off≤i∧i<off+ys.length then g (i-off) j else F i j) (fun i j hi hj=>?_) (fun i hi j hj=>?_)⟩
 ·rw[hlen]at hi;rw[hcs'];by_cases hc:off≤i∧i<off+ys.length
  ·rw[if_pos hc];have e1:i*k+j-off*k=(i-off)*k+j:=by rw[Nat.sub_mul];have:=bO k hc.1;omega
   have e2:=oX (i:=i-off) (j:=j) (k:=k) (n:=ys.length) (by omega) hj;have e3:=bO k hc.1;rw[if_pos ⟨by omega,by omega⟩,e1];exact a2 (i-off) j (by omega) hj
  rw[if_neg hc,if_neg]
  ·exact q4 i j hi hj
  rintro⟨b1,b2⟩;rw[←Nat.add_mul]at b2;apply hc;constructor
  ·by_cases h:off≤i
   ·exact h
   have:(i+1)*k≤off*k:=bO k (by omega);rw[dy]at this;omega
  by_cases h:i<off+ys.length
  ·exact h
  have:(off+ys.length)*k≤i*k:=bO k (by omega);omega
 rw[hlen]at hi;by_cases h1:i<off
 ·have e:(es.take off++ys++es.drop (off+ys.length))[i]'(by rw[hlen];exact hi)=es[i]:=by
   rw[bH (by simp;omega),bH (by simp;omega),dB]
  simp only[e]at hj ⊢;rw[if_neg (by omega)];exact q5 i hi j hj
 by_cases h2:i<off+ys.length
 ·have e:(es.take off++ys++es.drop (off+ys.length))[i]'(by rw[hlen];exact hi)=ys[i-off]'(by omega):=by
   rw[bH (by simp;omega),ct (by simp;omega)];have:i-(es.take off).length=i-off:=by rw[cz,ec (by omega)]
   simp only[this]
  simp only[e]at hj ⊢;rw[if_pos ⟨by omega,h2⟩];exact a3 (i-off) (by omega) j hj
 have e:(es.take off++ys++es.drop (off+ys.length))[i]'(by rw[hlen];exact hi)=es[i]:=by
  rw[ct (by simp;omega)];simp only[dY];congr 1;simp;omega
 simp only[e]at hj ⊢;rw[if_neg (by omega)];exact q5 i hi j hj
theorem ajE{c:cJ}{σ σ':aw}(hs:ek M w c σ){x zero:ap}{cx:Value}(hx:R M w c x cx)(h:WS σ zero x=some σ'){T ty e:TypeId}(hT:P.underlying T=some (.slice e))(hz:pt M P e zero=true) :
  ∃cv w',(Builtin.clear_ #[T] ty #[cx]).run P w=.ok cv w'∧ek M w' c σ'∧gG c w c w':=by
 obtain⟨i,z,_,_,z3,z4⟩:=pU hz;have hzR:R M w c zero z:=qH z4;unfold WS at h;split at h
 ·rename_i id ep off n;split at h
  ·rename_i k e' es ho;split at h
   ·rename_i hc;obtain⟨rfl,hfit,hzk⟩:=hc;cases h;obtain⟨o1,_⟩:=hs.obj id _ ho;rcases sl_inv hs hx ho with⟨rfl,a,cap,rfl⟩|⟨b,cap,hb,rfl⟩
    ·have e1:es.take off++List.replicate 0 zero++es.drop (off+0)=es:=by simp
     have e2:σ.set id (.arr k e' es)=σ:=by
      apply fp;intro j;rw[dc];split
      ·rename_i hj;subst hj;split
       ·exact ho.symm
       rename_i hlt;rw[eC (by omega)]
      rfl
     rw[e1,e2];refine⟨.tuple #[],w,?_,hs,.refl c w⟩;cases a<;>simp[Builtin.clear_,run_underlying hT]
    by_cases hn:n=0
    ·subst hn;have e1:es.take off++List.replicate 0 zero++es.drop (off+0)=es:=by simp
     have e2:σ.set id (.arr k e' es)=σ:=by
      apply fp;intro j;rw[dc];split
      ·rename_i hj;subst hj;split
       ·exact ho.symm
       rename_i hlt;rw[eC (by omega)]
      rfl
     rw[e1,e2];refine⟨.tuple #[],w,?_,hs,.refl c w⟩;simp[Builtin.clear_,run_underlying hT]
    obtain⟨g,hg,hgs,hgc⟩:=qP hzR (by omega);have hA:mW M w c k (List.replicate n zero) (Builtin.zeroCells z.cells n):=by
     have hsz:z.cells.size=k:=by omega
     refine⟨by simp[Builtin.zeroCells,hsz],fun _ j=>g j,fun i j hi hj=>?_,fun i hi j hj=>?_⟩
     ·have hi':i<n:=by simpa using hi
      have hlt:=oX hi' hj;have e1:(i*k+j)%k=j:=by rw[gm,kp,jx hj]
      have e2:=hgc j (by omega);have e3:z.cells[j]! = g j:=by rw[getElem!_def,e2]
      refine⟨?_,hg.one j (by omega)⟩;simp[Builtin.zeroCells,hsz,hlt,e1,e3]
     have e1:(List.replicate n zero)[i]=zero:=iB ..;simp only[e1]at hj ⊢;exact hg.rel j hj
    obtain⟨w',h1,h2,h3⟩:=hs.lay (P:=P) (off:=off) ho hb hA (fun x hx=>by rw[(List.mem_replicate.1 hx).2];exact hzk) (by simpa using hfit);simp only[List.length_replicate]at h2;refine⟨.tuple #[],w',?_,h2,h3⟩;obtain⟨m,rfl⟩:=Nat.exists_eq_succ_of_ne_zero hn;simp[Builtin.clear_,run_underlying hT,z3,h1]
   cases h
  cases h
 ·cases h;cases hx with|@ai _ a=>
  refine⟨.tuple #[],w,?_,hs,.refl c w⟩;cases a<;>simp[Builtin.clear_,run_underlying hT]
 cases h
theorem Tl{a:Addr}{v:Value}{w1:World}(h:(load a).run P w=.ok v w1):w1=w:=by
 rw[run_load]at h;split at h
 ·cases h;rfl
 split at h<;>cases h;rfl
theorem Ct(a:Addr):∀(n i:Nat) (acc arr:Array Value) (w':World),(loadCellsFrom a i n acc).run P w=.ok arr w' →
  ∃l:List Value,l.length=n∧arr=acc++l.toArray∧∀j v,l[j]?=some v→(load (a.add (i+j))).run P w=.ok v w
 |0,i,acc,arr,w',h=>by
  simp[loadCellsFrom]at h;exact⟨[],rfl,by simp[h.1],by simp⟩
 |n+1,i,acc,arr,w',h=>by
  unfold loadCellsFrom at h;rw[Sem.run_bind]at h;cases hr:(load (a.add i)).run P w with
  |halt hh w1=>
   rw[hr]at h;cases h
  |ok v w1=>
   have e:w1=w:=Tl hr;rw[e]at hr;rw[hr]at h;obtain⟨l,hl,harr,hall⟩:=Ct a n (i+1) (acc.push v) arr w' h;refine⟨v::l,by simp[hl],by simp[harr],?_⟩;intro j u hj;cases j with
   |zero=>
    simp at hj;subst hj;simpa using hr
   |succ j=>
    have:=hall j u (by simpa using hj);rw[show i+(j+1)=i+1+j by omega];exact this
theorem WF{a:Addr}{n m:Nat}(hm:m≤n){A:Array Value}{w':World}(h:(loadCells a n).run P w=.ok A w'):(loadCells a m).run P w=.ok (A.extract 0 m) w:=by
 obtain⟨l,hl,hA,hall⟩:=Ct a n 0 #[] A w' h;have e:A.extract 0 m=(l.take m).toArray:=by
  rw[hA];apply Array.ext';simp
 rw[e];have hlen:(l.take m).length=m:=by rw[cz];omega
 have key:∀(q i:Nat) (acc:Array Value) (l':List Value),l'.length=q→(∀j v,l'[j]?=some v→(load (a.add (i+j))).run P w=.ok v w)→(loadCellsFrom a i q acc).run P w=.ok (acc++l'.toArray) w:=by
  intro q;induction q with
  |zero=>intro i acc l' h1 _;simp[loadCellsFrom,bM h1]
  |succ q ih=>
   intro i acc l' h1 h2
   match l',h1 with
   |v::r,h1=>
    have h3:=h2 0 v rfl;simp only[eF]at h3;simp only[loadCellsFrom,Sem.run_bind,h3,Result.andThen]
    rw[ih (i+1) (acc.push v) r (by simpa using h1) (fun j u hj=>by
     have:=h2 (j+1) u (by simpa using hj)
     rwa [show i+(j+1)=i+1+j by omega]at this)]
    congr 1;apply Array.ext';simp
 have:=key m 0 #[] (l.take m) hlen (fun j v hj=>hall j v (by
  rw[dO]at hj;split at hj
  ·exact hj
  cases hj))
 simpa [loadCells] using this
theorem QV{c:cJ}{σ:aw}(hs:ek M w c σ){y:ap}{cy:Value}(hy:R M w c y cy){n:Nat}{ys:List ap}(h:HI σ n y=some ys)(hle:ys.length≤n){k:Nat}(hk:k≠0)(hall:∀x∈ys,aC x=k) :
  ∃L,Nat.min L n=ys.length∧(∀w',(Builtin.lenOf cy).run P w'=.ok L w')∧∃A,mW M w c k ys A∧∀w',w'.heap=w.heap→(Builtin.firstCells k ys.length cy).run P w'=.ok A w':=by
 unfold HI at h;split at h
 ·rename_i id ep off len;obtain⟨l,hl,rfl⟩:=aK.1 h;have hl':=hl;simp only[rd,sliceAt]at hl';split at hl'
  ·rename_i k' e es ho;split at hl'
   ·rename_i hc;obtain⟨rfl,hfit⟩:=hc;cases hl';have hll:((es.drop off).take len).length=len:=by simp;omega
    rcases sl_inv hs hy ho with⟨rfl,a,cap,rfl⟩|⟨b,cap,hb,rfl⟩
    ·refine⟨0,by simp,fun w'=>rfl,#[],by simpa using mW.nil,fun w' _=>?_⟩;cases a<;>simp[Builtin.firstCells,loadCells,loadCellsFrom]
    refine⟨len,by rw[cz,hll];exact Nat.min_comm ..,fun w'=>rfl,?_⟩;by_cases h0:((es.drop off).take len).take n=[]
    ·rw[h0];exact⟨#[],mW.nil,fun w' _=>by simp[Builtin.firstCells,loadCells,loadCellsFrom]⟩
    obtain⟨_,o2,_⟩:=hs.obj id _ ho;have hkk:k'=k:=by
     obtain⟨x,hx⟩:=fJ _ h0;rw[←hall x hx];exact (o2 x (dC (cN (cN hx)))).symm
    subst hkk;obtain⟨_,A,⟨a1,f,a2,a3⟩,r3⟩:=Zb (P:=P) hs hy hl hk (fun x hx=>o2 x (dC (cN hx)));have hmle:(((es.drop off).take len).take n).length≤len:=by simp only[cz,gk];omega
    rw[hll]at a1 a2 r3;have hmk:(((es.drop off).take len).take n).length*k'≤len*k':=bO k' hmle;refine⟨A.extract 0 ((((es.drop off).take len).take n).length*k'),⟨by rw[Array.size_extract];omega,f,fun i j hi hj=>?_,fun i hi j hj=>?_⟩,fun w' hw=>WF hmk (r3 w' hw)⟩
    ·have hlt:=oX (n:=(((es.drop off).take len).take n).length) hi hj;have:=a2 i j (by omega) hj;refine⟨?_,this.2⟩;rw[mg,if_pos (by omega),cu];exact this.1
    have e1:(((es.drop off).take len).take n)[i]=((es.drop off).take len)[i]'(by omega):=dB ..;simp only[e1]at hj ⊢;exact a3 i (by omega) j hj
   cases hl'
  cases hl'
 obtain⟨r1,A,hA,r3⟩:=Zb (P:=P) hs hy h hk hall;exact⟨ys.length,ec hle,r1,A,hA,r3⟩
theorem Ed{T U ty e:TypeId}{k:Nat}(hT:P.underlying T=some (.slice e))(hk:(P.info? e).map (·.size)=some k){a:Option Addr}{n cap L m:Nat}{cy:Value}{A:Array Value}{w':World}(hl:(Builtin.lenOf cy).run P w=.ok L w)(hm:Nat.min L n=m)(hf:(Builtin.firstCells k m cy).run P w=.ok A w)
  (hst:∀b,a=some b→(storeCells b A.toList).run P w=.ok () w') (hn:a=none→w'=w):(Builtin.copy_ #[T,U] ty #[.slice a n cap,cy]).run P w=.ok (.int .i64 m) w':=by
 cases a with
 |none=>obtain rfl:=hn rfl;simp[Builtin.copy_,run_underlying hT,hl,hm,fj hk,hf,goInt]
 |some b=>have:=hst b rfl;simp[Builtin.copy_,run_underlying hT,hl,hm,fj hk,hf,this,goInt]
theorem acH{c:cJ}{σ σ':aw}(hs:ek M w c σ){x y:ap}{cx cy:Value}(hx:R M w c x cx)(hy:R M w c y cy){ys:List ap}(hrd:HI σ (ZS x) y=some ys){k:Nat}(h:Mx σ k ys x=some σ'){T U ty e:TypeId}(hT:P.underlying T=some (.slice e))(hk:(P.info? e).map (·.size)=some k) :
  ∃w',(Builtin.copy_ #[T,U] ty #[cx,cy]).run P w=.ok (.int .i64 (ys.length:Int)) w'∧ek M w' c σ'∧gG c w c w':=by
 unfold Mx at h;split at h
 ·rename_i id ep i off n;split at h
  ·rename_i k' e' es ho;split at h
   ·rename_i hc;obtain⟨rfl,rfl,hle,hall⟩:=hc;simp only[aA]at h;obtain⟨x0,hx0,h⟩:=h;split at h
    ·rename_i hc2;obtain⟨hagg,hfit⟩:=hc2;cases h;have hH:c.H id=.arr k' e':=by rw[hs.H,dV ho]
     obtain⟨b,hb,rfl⟩:∃b,c.place id=some b∧cx=.slice (some ⟨b,i*k'+off,none⟩) n n:=by
      cases hx with
      |asl h1 h2 h3=>rw[hH]at h2;cases h2;exact⟨_,h3,rfl⟩
      |aslOld h1 h2=>exact absurd (h2 _ _ hH) (dn _)
     have hall1:∀y∈ys,aC y=1∧isAgg y=false:=fun y hy=>by
      have:=aI.1 hall y hy;simpa using this
     obtain⟨L,hL,r1,A,⟨a1,g,a2,a3⟩,r3⟩:=QV (P:=P) hs hy hrd hle (k:=1) (by omega) (fun y hy=>(hall1 y hy).1);obtain⟨o1,o2,o3,o4⟩:=hs.obj id _ ho;obtain⟨cs,T',F,q1,q2,q3,q4,q5⟩:=o4 b hb;obtain⟨hi,hxe⟩:=ak.1 hx0;have hnx:aC x0=k':=by rw[←hxe];exact o2 _ (aO _)
     have hcl:=nz (v:=x0) (by omega);have hrow:i*k'+k'≤es.length*k':=by have:(i+1)*k'≤es.length*k':=bO k' hi;rwa [dy,Nat.one_mul]at this
     obtain⟨w',cs',hr,hw,hz,hj⟩:=lO (P:=P) b (i*k'+off) T' A.toList 0 cs w q1 (by simp[a1];omega) (fun v hv=>by
      obtain⟨p,hp,rfl⟩:=bP.1 hv;simp only[cw,a1,im]at hp;have:=a2 p 0 hp (by omega);rw[im,eF,bW (by omega)]at this;simp only[gJ];rw[dz this.1];exact this.2)
     have hcs':∀p,cs'[p]?=if i*k'+off≤p∧p<i*k'+off+ys.length then A[p-(i*k'+off)]? else cs[p]?:=fun p=>by
      rw[hj p];simp only[eF,cw,a1,eB,im]
     have hnl:((cellsOf x0).take off++ys++(cellsOf x0).drop (off+ys.length)).length=k':=by simp;omega
     have hset:=hs.setRow (es':=es.set i (.agg ((cellsOf x0).take off++ys++(cellsOf x0).drop (off+ys.length)))) ho hb q1 hw hz q3 o1 (fun y hy=>by
       rcases ev hy with h|h
       ·exact o2 y h
       ·rw[h];exact hnl) (by simpa using q2) (fun i' j=>if i'=i∧off≤j∧j<off+ys.length then g (j-off) 0 else F i' j) (fun i' j hi' hj'=>by
       simp only[gy]at hi';rw[hcs'];by_cases hii:i'=i
       ·subst hii;by_cases hcc:off≤j∧j<off+ys.length
        ·rw[if_pos ⟨by omega,by omega⟩,if_pos ⟨rfl,hcc⟩];have e1:i' * k'+j-(i' * k'+off)=(j-off)*1+0:=by omega
         rw[e1];exact a2 (j-off) 0 (by omega) (by omega)
        rw[if_neg (by omega),if_neg (fun h=>hcc h.2)];exact q4 i' j hi' hj'
       have hno:¬(i*k'+off≤i' * k'+j∧i' * k'+j<i*k'+off+ys.length):=by
        rintro⟨b1,b2⟩;rcases Nat.lt_or_gt_of_ne hii with h|h
        ·have:(i'+1)*k'≤i*k':=bO k' h;rw[dy]at this;omega
        have:(i+1)*k'≤i' * k':=bO k' h;rw[dy]at this;omega
       rw[if_neg hno,if_neg (fun h=>hii h.1)];exact q4 i' j hi' hj')
      (fun i' hi' j hj'=>by
       have hi2:i' < es.length:=by simpa using hi'
       by_cases hii:i'=i
       ·subst hii;have e0:∀L,cellsOf (.agg L)=L:=fun _=>rfl;simp only[gF,e0]at hj' ⊢;rw[hnl]at hj';have hold:∀(h:j<(cellsOf x0).length),R M w c (cellsOf x0)[j] (F i' j):=fun h=>by
         have:=q5 i' hi j (by rw[hxe];exact h);simp only[hxe]at this;exact this
        by_cases h1:j<off
        ·rw[if_neg (by omega),bH (by simp;omega),bH (by simp;omega),dB];exact hold (by omega)
        by_cases h2:j<off+ys.length
        ·rw[if_pos ⟨trivial,by omega,h2⟩,bH (by simp;omega),ct (by simp;omega)];have e1:j-((cellsOf x0).take off).length=j-off:=by rw[cz,ec (by omega)]
         simp only[e1];have hy1:=hall1 _ (aO (show j-off<ys.length by omega));have:=a3 (j-off) (by omega) 0 (by rw[pn hy1.2];simp);simpa [pn hy1.2] using this
        rw[if_neg (by omega),ct (by simp;omega)];simp only[dY];have e1:off+ys.length+(j-((cellsOf x0).take off++ys).length)=j:=by simp;omega
        simp only[e1];exact hold (by omega)
       have e1:(es.set i (.agg ((cellsOf x0).take off++ys++(cellsOf x0).drop (off+ys.length))))[i']=es[i']:=by rw[gi (fun h=>hii h.symm)]
       simp only[e1]at hj' ⊢;rw[if_neg (fun h=>hii h.1)];exact q5 i' hi2 j hj')
     exact⟨w',Ed hT hk (r1 w) hL (r3 w rfl) (fun b' hb'=>by cases hb';exact hr) (fun h=>by cases h),hset.1,hset.2⟩
    cases h
   cases h
  cases h
 ·rename_i id ep off n;split at h
  ·rename_i k' e' es ho;split at h
   ·rename_i hc;obtain⟨rfl,rfl,hle,hfit,hall⟩:=hc;cases h;obtain⟨o1,_⟩:=hs.obj id _ ho;have hall':∀y∈ys,aC y=k':=fun y hy=>by simpa using aI.1 hall y hy
    obtain⟨L,hL,r1,A,hA,r3⟩:=QV (P:=P) hs hy hrd hle o1 hall';rcases sl_inv hs hx ho with⟨rfl,a,cap,rfl⟩|⟨b,cap,hb,rfl⟩
    ·have hy0:ys=[]:=bM (by omega);subst hy0;have e1:es.take off++[]++es.drop (off+([]:List ap).length)=es:=by simp
     have e2:σ.set id (.arr k' e' es)=σ:=by
      apply fp;intro j;rw[dc];split
      ·rename_i hj;subst hj;split
       ·exact ho.symm
       rename_i hlt;rw[eC (by omega)]
      rfl
     rw[e1,e2];have hA0:A=#[]:=by have:=hA.1;simp at this;exact this
     subst hA0;exact⟨w,Ed hT hk (r1 w) hL (r3 w rfl) (fun b' hb'=>by simp[storeCells]) (fun _=>rfl),hs,.refl c w⟩
    obtain⟨w',h1,h2,h3⟩:=hs.lay (P:=P) (off:=off) ho hb hA hall' (by omega);exact⟨w',Ed hT hk (r1 w) hL (r3 w rfl) (fun b' hb'=>by cases hb';exact h1) (fun h=>by cases h),h2,h3⟩
   cases h
  cases h
 cases h
end Go.AM
namespace Go.AM
variable {M:cO} {w:World} {P:Program}
theorem Ek:∀{ks:List Nat} {a b:List ap},d7 ks a b=some true→a.length=ks.length→b.length=ks.length→a=b
 |[],[],[],_,_,_=>rfl
 |[],_::_,_,_,h,_=>by simp at h
 |[],[],_::_,_,_,h=>by simp at h
 |k::ks,[],_,_,h,_=>by simp at h
 |k::ks,_::_,[],_,_,h=>by simp at h
 |k::ks,x::a,y::b,h,h1,h2=>by
  simp only[d7]at h;split at h
  ·cases hc:lE x y with
   |none=>rw[hc]at h;cases h
   |some t=>
    rw[hc]at h;cases t with
    |false=>simp at h
    |true=>
     simp only[dk,bU]at h;rw[Ce hc,Ek h (by simpa using h1) (by simpa using h2)]
  cases h
theorem wg{ks:List Nat}{k:ap}(h:gW ks k=true):kg k=true:=by
 cases k<;>simp_all[gW,kg]
theorem Ib{ks:List Nat}{k e:ap}(hk:gW ks k=true)(h:uf ks k e=some true):k=e:=by
 unfold uf at h;split at h
 ·rename_i he;split at h
  ·simp only[az,aG]at h;rw[h]
  ·rename_i a b;simp only[gW,am,aG]at hk he;rw[Ek h (by rw[←hk.1.2];simp) (by rw[←he.1.2];simp)]
  cases h
 cases h
theorem Bn{c:cJ}{k:ap}{x y:Value}(hx:R M w c k x)(hy:R M w c k y)(h:me k=true):x=y:=by
 cases k<;>simp[me]at h<;>cases hx<;>cases hy
 ·rfl
 ·rfl
 rename_i t h1 t' h2;have:t.data=t'.data:=by apply mw.1;rw[h1,h2]
 have:t=t':=by cases t;cases t';simp_all
 rw[this]
theorem Ql{c:cJ}{k:ap}{x y:Value}(hx:R M w c k x)(hy:R M w c k y)(h:kg k=true):x=y:=by
 cases k with
 |int=>exact Bn hx hy rfl
 |str=>exact Bn hx hy rfl
 |agg cs=>
  simp only[kg,aI]at h;cases hx with|agg f h1 h2 h3 h4=>cases hy with|agg g g1 g2 g3 g4=>
  congr 1;apply eg;intro i;by_cases hi:i<cs.length
  ·rw[(h2 i hi).1,(g2 i hi).1,Bn (h4 i hi) (g4 i hi) (h _ (aO hi))]
  rw[cU (by omega),cU (by omega)]
 |_=>simp[kg]at h
theorem yk{c:cJ}{k:ap}{x:Value}(hx:R M w c k x)(h:me k=true)(n:Nat):Instr.sameBits n x x=true:=by
 cases k<;>simp[me]at h<;>cases hx<;>cases n<;>first|(simp[Instr.sameBits];done)|(simp only[Instr.sameBits];rw[HV];simp)
theorem Ug{c:cJ}{k:ap}{x:Value}(hx:R M w c k x)(h:kg k=true):Instr.sameBits 10000 x x=true:=by
 cases k with
 |int=>exact yk hx rfl _
 |str=>exact yk hx rfl _
 |agg cs=>
  simp only[kg,aI]at h;cases hx with|@agg _ _ vs f h1 h2 h3 h4=>
  simp only[Instr.sameBits,fA,cG,aI];rintro⟨p,q⟩ hp;obtain⟨i,hi,hpi⟩:=bP.1 hp;simp only[List.getElem_zip,dx]at hpi;obtain⟨rfl,rfl⟩:=hpi;have hi':i<cs.length:=by simp at hi;omega
  have e:=(h2 i hi').1;rw[bW (by omega)]at e;have e':vs.toList[i]'(by simp;omega)=f i:=by simpa using e
  rw[e'];exact yk (h4 i hi') (h _ (aO hi')) _
 |_=>simp[kg]at h
def oO(P:Program)(T:TypeId)(ks:List Nat):Bool:=match ks with
 |[]=>(match P.underlying T with|some .string=>true|_=>false)
 |ks=>(match P.underlying T with|some (.struct fs)=>!P.stoodInHeld T&&lK P 0 fs.toList ks|_=>false)
theorem Oa{e:Bool}{n:Nat}{T:TypeId}{k:Nat}(h:pv P T k=true)(v:Value):(Instr.checkKey e (n+1) T v).run P w=.ok () w:=by
 unfold pv at h;simp only[am]at h;have h2:=h.2;unfold Instr.checkKey;cases hd:P.underlying T with
 |none=>rw[hd]at h2;cases h2
 |some d=>
  simp only[Sem.run_bind,run_underlying hd,Result.andThen_ok];rw[hd]at h2;cases d<;>first|(simp at h2;done)|(cases v<;>rfl)
theorem Cg{c:cJ}{e:Bool}{n:Nat}{cs:Array Value}:∀{fs:List Field} {ks:List Nat} {i:Nat} {x:List ap},lK P i fs ks=true→fu M w c i x cs→x.length=ks.length →
  (forIn (m:=Sem) fs PUnit.unit fun f _=>(if f.name ≠ "_" then do (Instr.checkKey e (n+1) f.type (← part f.type cs f.offset));pure (.yield PUnit.unit) else pure (.yield PUnit.unit))).run P w=.ok PUnit.unit w
 |[],[],_,_,_,_,_=>rfl
 |[],_::_,_,_,h,_,_=>by simp[lK]at h
 |_::_,[],_,_,h,_,_=>by simp[lK]at h
 |f::fs,k::ks,i,[],_,_,h=>by simp at h
 |f::fs,k::ks,i,a::x,h,hx,hl=>by
  simp only[lK,am,fV,aG]at h;obtain⟨⟨⟨f1,f2⟩,f3⟩,f4⟩:=h;have hty:rr P f.type false 1=true:=by unfold pv at f3;simp only[am]at f3;exact f3.1
  obtain⟨v1,p1,r1⟩:=hx.head;subst f2;simp only[List.forIn_cons,ne_eq,f1,iP,bU,Sem.run_bind,pl hty p1,Result.andThen_ok,Oa f3,Sem.run_pure];exact Cg f4 hx.tail (by simpa using hl)
theorem xX{c:cJ}{ks:List Nat}{k:ap}{ck:Value}(hk:R M w c k ck)(hf:gW ks k=true){T:TypeId}(hT:oO P T ks=true)(e:Bool):(Instr.checkKey e 10000 T ck).run P w=.ok () w:=by
 cases k with
 |str s=>
  have hks:ks=[]:=by simpa [gW] using hf
  subst hks;unfold oO at hT;simp only at hT;cases hd:P.underlying T with
  |none=>rw[hd]at hT;cases hT
  |some d=>
   rw[hd]at hT;cases hk;unfold Instr.checkKey;simp only[Sem.run_bind,run_underlying hd,Result.andThen_ok];cases d<;>first|(simp at hT;done)|rfl
 |agg cs=>
  simp only[gW,am,fV,aG]at hf;obtain⟨⟨f1,f2⟩,f3⟩:=hf;unfold oO at hT;split at hT
  ·exact absurd rfl f1
  split at hT
  ·rename_i fs hfs;simp only[am]at hT;cases hk with|@agg _ _ vs f h1 h2 h3 h4=>
   have hR:lB M w c cs vs:=R.rcells (.agg f h1 h2 h3 h4);have:=Cg (P:=P) (M:=M) (w:=w) (e:=e) (n:=9998) hT.2 hR.from (by rw[←f2];simp);unfold Instr.checkKey;simp only[Sem.run_bind,run_underlying hfs,Result.andThen_ok];rw[←Array.forIn_toList]
   first|exact this|(simp only[Sem.run_bind,this,Result.andThen_ok];rfl)
  cases hT
 |_=>simp[gW]at hf
theorem sC{c:cJ}{ks:List Nat}{k e:ap}{ck ce:Value}(hk:R M w c k ck)(he:R M w c e ce){t:Bool}(h:uf ks k e=some t)(hn:ks≠[]){T:TypeId}(hT:oO P T ks=true):(Op.equal T ck ce).run P w=.ok t w:=by
 unfold uf at h;split at h
 ·rename_i hf;split at h
  ·simp[gW]at hf;exact absurd hf hn
  ·rename_i a b;unfold oO at hT;split at hT
   ·exact absurd rfl hn
   split at hT
   ·rename_i fs hfs;simp only[am]at hT;have hst:P.stoodInHeld T=false:=by simpa using hT.1
    have hff:P.fieldsOf T=fs:=by unfold Program.fieldsOf;rw[hfs]
    cases hk with|@agg _ _ xs f1 a1 a2 a3 a4=>cases he with|@agg _ _ ys g1 b1 b2 b3 b4=>
    have hxs:lB M w c a xs:=R.rcells (.agg f1 a1 a2 a3 a4);have hys:lB M w c b ys:=R.rcells (.agg g1 b1 b2 b3 b4);show (Op.equalIn 10000 T (.agg xs) (.agg ys)).run P w=_;rw[run_equalIn_struct w 9999 T xs ys (by rw[hff];exact hfs) hst,hff];exact yN 9998 _ fs.toList 0 a b t hT.2 hxs.from hys.from h
   cases hT
  cases h
 cases h
theorem um{c:cJ}{k e:ap}{ck ce:Value}(hk:R M w c k ck)(he:R M w c e ce){t:Bool}(h:uf [] k e=some t):Instr.sameNow .string ck ce=some t:=by
 unfold uf at h;split at h
 ·rename_i hf;split at h
  ·cases hk with|str h1=>cases he with|str h2=>
   cases h;simp only[Instr.sameNow];rw[HV,h1,h2]
  ·simp[gW]at hf
  cases h
 cases h
theorem Co{c:cJ}{k:ap}{ck:Value}(hk:R M w c k ck):∀{es:List (ap×ap)} {en:List MapEntry} (n:Nat) {r:Option ap},iU M w c es en→lV [] k es=some r →
  (r=none∧Instr.findNow .string ck en n=some none)∨∃v i cv,r=some v∧Instr.findNow .string ck en n=some (some (i,cv))∧R M w c v cv
 |[],[],n,r,_,h=>by simp only[lV,az]at h;exact .inl ⟨h.symm,rfl⟩
 |[],_::_,_,_,h,_=>by simp[iU]at h
 |_::_,[],_,_,h,_=>by simp[iU]at h
 |x::es,e::en,n,r,he,h=>by
  obtain⟨_,h2,h3⟩:=he.head;simp only[lV]at h;split at h
  ·rename_i hq;have a1:=um hk h2 hq;cases h;exact .inr ⟨_,n,_,rfl,by simp[Instr.findNow,a1],h3⟩
  ·rename_i hq;have a1:=um hk h2 hq;rcases Co hk (n+1) he.tail h with⟨b1,b2⟩|⟨v,i,cv,b1,b2,b3⟩
   ·exact .inl ⟨b1,by simp[Instr.findNow,a1,b2]⟩
   exact .inr ⟨v,i,cv,b1,by simp[Instr.findNow,a1,b2],b3⟩
  cases h
theorem Cy{c:cJ}{ks:List Nat}(hn:ks≠[]){T:TypeId}(hT:oO P T ks=true){k:ap}{ck:Value}(hk:R M w c k ck):∀{es:List (ap×ap)} {en:List MapEntry} (n:Nat) {r:Option ap},iU M w c es en→lV ks k es=some r →
  (r=none∧(Instr.findAsking T ck en n).run P w=.ok none w)∨∃v i cv,r=some v∧(Instr.findAsking T ck en n).run P w=.ok (some (i,cv)) w∧R M w c v cv
 |[],[],n,r,_,h=>by simp only[lV,az]at h;exact .inl ⟨h.symm,rfl⟩
 |[],_::_,_,_,h,_=>by simp[iU]at h
 |_::_,[],_,_,h,_=>by simp[iU]at h
 |x::es,e::en,n,r,he,h=>by
  obtain⟨_,h2,h3⟩:=he.head;simp only[lV]at h;split at h
  ·rename_i hq;have a1:=sC hk h2 hq hn hT;cases h;exact .inr ⟨_,n,_,rfl,by simp[Instr.findAsking,a1],h3⟩
  ·rename_i hq;have a1:=sC hk h2 hq hn hT;rcases Cy hn hT hk (n+1) he.tail h with⟨b1,b2⟩|⟨v,i,cv,b1,b2,b3⟩
   ·exact .inl ⟨b1,by simp[Instr.findAsking,a1,b2]⟩
   exact .inr ⟨v,i,cv,b1,by simp[Instr.findAsking,a1,b2],b3⟩
  cases h
theorem xD{T:TypeId}(hT:oO P T []=true):P.underlying T=some .string:=by
 unfold oO at hT;simp only at hT;split at hT
 ·assumption
 cases hT
theorem sH{ks:List Nat}(hn:ks≠[]){T:TypeId}(hT:oO P T ks=true){ck:Value}{en:List MapEntry}{q:Option (Nat×Value)}(h:(Instr.findAsking T ck en 0).run P w=.ok q w):(Instr.findKey T ck en).run P w=.ok q w:=by
 unfold oO at hT;split at hT
 ·exact absurd rfl hn
 split at hT
 ·rename_i fs hfs;cases en with
  |nil=>
   simp only[Instr.findAsking,Sem.run_pure]at h;simp[Instr.findKey,run_underlying hfs,Instr.findNow,h]
  |cons e en=>
   have:Instr.findNow (.struct fs) ck (e::en) 0=none:=by
    unfold Instr.findNow;have:Instr.sameNow (.struct fs) ck e.key=none:=by cases ck<;>rfl
    rw[this]
   simp[Instr.findKey,run_underlying hfs,this,h]
 cases hT
theorem Hn{c:cJ}{ks:List Nat}{T:TypeId}(hT:oO P T ks=true){k:ap}{ck:Value}(hk:R M w c k ck){es:List (ap×ap)}{en:List MapEntry}{r:Option ap}(he:iU M w c es en)(h:lV ks k es=some r) :
  (r=none∧(Instr.findKey T ck en).run P w=.ok none w)∨∃v i cv,r=some v∧(Instr.findKey T ck en).run P w=.ok (some (i,cv)) w∧R M w c v cv:=by
 by_cases hn:ks=[]
 ·subst hn;rcases Co hk 0 he h with⟨a1,a2⟩|⟨v,i,cv,a1,a2,a3⟩
  ·exact .inl ⟨a1,jg (xD hT) a2⟩
  exact .inr ⟨v,i,cv,a1,jg (xD hT) a2,a3⟩
 rcases Cy hn hT hk 0 he h with⟨a1,a2⟩|⟨v,i,cv,a1,a2,a3⟩
 ·exact .inl ⟨a1,sH hn hT a2⟩
 exact .inr ⟨v,i,cv,a1,sH hn hT a2,a3⟩
theorem X7{c:cJ}{σ:aw}(hs:ek M w c σ){ks:List Nat}{m k:ap}{cm ck:Value}(hm:R M w c m cm)(hk:R M w c k ck)(hkk:gW ks k=true){es:List (ap×ap)}(h:wj σ m=some es){r:Option ap}(hl:lV ks k es=some r)
  {T kt et:TypeId} (hT:P.underlying T=some (.map kt et)) (hkt:oO P kt ks=true) {zero:ap} (hz:pt M P et zero=true) (ok:Bool) :
  ∃cv,(Instr.lookup T cm ck ok).run P w=.ok cv w∧R M w c (if ok then .tup [r.getD zero,.bool r.isSome] else r.getD zero) cv:=by
 obtain⟨i,z,_,_,z3,z4⟩:=pU hz;have hzR:R M w c zero z:=qH z4;have fin:∀(x:ap) (cx:Value) (t:Bool),R M w c x cx→R M w c (if ok then .tup [x,.bool t] else x) (if ok then .tuple #[cx,.bool t] else cx):=fun x cx t hx=>by
  cases ok with
  |false=>exact hx
  |true=>
   refine .tup (fun i=>if i=0 then cx else .bool t) rfl (fun i hi=>?_) (fun i hi=>?_)
   ·simp at hi;have:i=0∨i=1:=by omega
    rcases this with rfl|rfl<;>rfl
   simp at hi;have:i=0∨i=1:=by omega
   rcases this with rfl|rfl
   ·exact hx
   exact .bool
 have hck:=fun e=>xX (P:=P) hk hkk hkt e;rcases R1 hs hm h with⟨rfl,rfl⟩|⟨b,en,cl,rfl,hb,he⟩
 ·simp only[lV,az]at hl;subst hl;have hf:(Instr.findKey kt ck []).run P w=.ok none w:=by
   rcases Hn (es:=[]) (en:=[]) (r:=none) hkt hk ⟨rfl,fun i hi=>absurd hi (by simp)⟩ rfl with⟨_,h2⟩|⟨_,_,_,h2,_⟩
   ·exact h2
   cases h2
  refine⟨_,?_,fin zero z false hzR⟩;simp[Instr.lookup,run_underlying hT,hck,hf,z3]
 rcases Hn hkt hk he hl with⟨rfl,h2⟩|⟨v,i,cv,rfl,h2,h3⟩
 ·refine⟨_,?_,fin zero z false hzR⟩;simp[Instr.lookup,run_underlying hT,lG hb,hck,h2,z3]
 refine⟨_,?_,fin v cv true h3⟩;simp[Instr.lookup,run_underlying hT,lG hb,hck,h2]
theorem Ie{c:cJ}{k v:ap}{ck cv:Value}(hk:R M w c k ck)(hv:R M w c v cv)(hkk:gW [] k=true)(clock:Nat):∀{es:List (ap×ap)} {en:List MapEntry} (n:Nat) {es':List (ap×ap)},iU M w c es en→xQ [] k v es=some es' →
  (Instr.findNow .string ck en n=some none∧iU M w c es' (en++[{ key:=ck,val:=cv,born:=clock }])) ∨
  ∃i e cv0,Instr.findNow .string ck en n=some (some (n+i,cv0))∧en[i]?=some e∧e.key=ck∧iU M w c es' (en.set i { e with key:=ck,val:=cv })
 |[],[],n,_,_,h=>by
  simp only[xQ,az]at h;subst h;refine .inl ⟨rfl,rfl,fun i hi=>?_⟩;have:i=0:=by simp at hi;exact hi
  subst this;exact⟨_,rfl,wg hkk,hk,hv⟩
 |[],_::_,_,_,h,_=>by simp[iU]at h
 |_::_,[],_,_,h,_=>by simp[iU]at h
 |x::es,e::en,n,es',he,h=>by
  obtain⟨h1,h2,h3⟩:=he.head;simp only[xQ]at h;split at h
  ·rename_i hq;have a1:=um hk h2 hq;cases h;have hx:=Ib hkk hq;have hkey:e.key=ck:=Ql h2 (hx▸hk) h1;refine .inr ⟨0,e,e.val,by simp[Instr.findNow,a1],rfl,hkey,by simpa using he.1,fun i hi=>?_⟩;cases i with
   |zero=>exact⟨_,rfl,h1,hx▸hk,hv⟩
   |succ i=>
    have:=he.2 (i+1) (by simpa using hi);simpa only [kX,er,ea] using this
  ·rename_i hq;have a1:=um hk h2 hq;simp only[aK]at h;obtain⟨es1,hes,rfl⟩:=h
   have cons:∀{en'},iU M w c es1 en'→iU M w c (x::es1) (e::en'):=fun {en'} hh=>⟨by simpa using hh.1,fun i hi=>by
    cases i with
    |zero=>exact⟨_,rfl,h1,h2,h3⟩
    |succ i=>
     have:=hh.2 i (by simpa using hi);simpa only [er,ea] using this⟩
   rcases Ie hk hv hkk clock (n+1) he.tail hes with⟨b1,b2⟩|⟨i,e',cv0,b1,b2,b3,b4⟩
   ·exact .inl ⟨by simp[Instr.findNow,a1,b1],cons b2⟩
   exact .inr ⟨i+1,e',cv0,by simp[Instr.findNow,a1,b1];omega,by simpa using b2,b3,by simpa using cons b4⟩
  cases h
theorem G7{c:cJ}{ks:List Nat}(hn:ks≠[]){T:TypeId}(hT:oO P T ks=true){k v:ap}{ck cv:Value}(hk:R M w c k ck)(hv:R M w c v cv)(hkk:gW ks k=true)(clock:Nat):∀{es:List (ap×ap)} {en:List MapEntry} (n:Nat) {es':List (ap×ap)},iU M w c es en→xQ ks k v es=some es' →
  ((Instr.findAsking T ck en n).run P w=.ok none w∧iU M w c es' (en++[{ key:=ck,val:=cv,born:=clock }])) ∨
  ∃i e cv0,(Instr.findAsking T ck en n).run P w=.ok (some (n+i,cv0)) w∧en[i]?=some e∧e.key=ck∧iU M w c es' (en.set i { e with key:=ck,val:=cv })
 |[],[],n,_,_,h=>by
  simp only[xQ,az]at h;subst h;refine .inl ⟨rfl,rfl,fun i hi=>?_⟩;have:i=0:=by simp at hi;exact hi
  subst this;exact⟨_,rfl,wg hkk,hk,hv⟩
 |[],_::_,_,_,h,_=>by simp[iU]at h
 |_::_,[],_,_,h,_=>by simp[iU]at h
 |x::es,e::en,n,es',he,h=>by
  obtain⟨h1,h2,h3⟩:=he.head;simp only[xQ]at h;split at h
  ·rename_i hq;have a1:=sC hk h2 hq hn hT;cases h;have hx:=Ib hkk hq;have hkey:e.key=ck:=Ql h2 (hx▸hk) h1;refine .inr ⟨0,e,e.val,by simp[Instr.findAsking,a1],rfl,hkey,by simpa using he.1,fun i hi=>?_⟩;cases i with
   |zero=>exact⟨_,rfl,h1,hx▸hk,hv⟩
   |succ i=>
    have:=he.2 (i+1) (by simpa using hi);simpa only [kX,er,ea] using this
  ·rename_i hq;have a1:=sC hk h2 hq hn hT;simp only[aK]at h;obtain⟨es1,hes,rfl⟩:=h
   have cons:∀{en'},iU M w c es1 en'→iU M w c (x::es1) (e::en'):=fun {en'} hh=>⟨by simpa using hh.1,fun i hi=>by
    cases i with
    |zero=>exact⟨_,rfl,h1,h2,h3⟩
    |succ i=>
     have:=hh.2 i (by simpa using hi);simpa only [er,ea] using this⟩
   rcases G7 hn hT hk hv hkk clock (n+1) he.tail hes with⟨b1,b2⟩|⟨i,e',cv0,b1,b2,b3,b4⟩
   ·exact .inl ⟨by simp[Instr.findAsking,a1,b1],cons b2⟩
   exact .inr ⟨i+1,e',cv0,by simp[Instr.findAsking,a1,b1];omega,by simpa using b2,b3,by simpa using cons b4⟩
  cases h
theorem ZD{c:cJ}{ks:List Nat}{T:TypeId}(hT:oO P T ks=true){k v:ap}{ck cv:Value}(hk:R M w c k ck)(hv:R M w c v cv)(hkk:gW ks k=true)(clock:Nat){es:List (ap×ap)}{en:List MapEntry}{es':List (ap×ap)}(he:iU M w c es en)(h:xQ ks k v es=some es') :
  ((Instr.findKey T ck en).run P w=.ok none w∧iU M w c es' (en++[{ key:=ck,val:=cv,born:=clock }])) ∨
  ∃i e cv0,(Instr.findKey T ck en).run P w=.ok (some (i,cv0)) w∧en[i]?=some e∧e.key=ck∧iU M w c es' (en.set i { e with key:=ck,val:=cv }):=by
 by_cases hn:ks=[]
 ·subst hn;rcases Ie hk hv hkk clock 0 he h with⟨a1,a2⟩|⟨i,e,cv0,a1,a2,a3,a4⟩
  ·exact .inl ⟨jg (xD hT) a1,a2⟩
  exact .inr ⟨i,e,cv0,jg (xD hT) (by simpa using a1),a2,a3,a4⟩
 rcases G7 hn hT hk hv hkk clock 0 he h with⟨a1,a2⟩|⟨i,e,cv0,a1,a2,a3,a4⟩
 ·exact .inl ⟨sH hn hT a1,a2⟩
 exact .inr ⟨i,e,cv0,sH hn hT (by simpa using a1),a2,a3,a4⟩
theorem Qx{c:cJ}{σ σ':aw}(hs:ek M w c σ){ks:List Nat}{m k v:ap}{cm ck cv:Value}(hm:R M w c m cm)(hk:R M w c k ck)(hv:R M w c v cv)(h:FB ks σ k v m=some σ')
  {T kt et:TypeId} (hT:P.underlying T=some (.map kt et)) (hkt:oO P kt ks=true) :
  ∃w',(Instr.mapUpdate T cm ck cv).run P w=.ok () w'∧ek M w' c σ'∧gG c w c w':=by
 unfold FB at h;split at h
 ·rename_i id;simp only[aA]at h;obtain⟨es,h1,h2⟩:=h;split at h2
  ·rename_i hkk;simp only[aK]at h2;obtain⟨es',h3,rfl⟩:=h2;unfold gj at h1;split at h1
   ·rename_i es0 ho;cases h1;obtain⟨b,cl,en,f,g,q1,q2,q3,q4,q5,q6⟩:=hs.obj id _ ho;have hH:c.H id=.map:=by rw[hs.H,dV ho]
    have he:iU M w c es en.toList:=⟨by simpa using q3,fun i hi=>by
     obtain⟨e,e1,e2,e3,e4⟩:=q4 i hi;exact⟨e,by simpa using e1,e4.1,e2▸q5 i hi,e3▸q6 i hi⟩⟩
    have hB:∀e∈en.toList,e.born<cl:=fun e he=>by
     obtain⟨i,hi,rfl⟩:=bP.1 he;obtain⟨e',e1,_,_,_,e5⟩:=q4 i (by simpa [q3] using hi);rw[bW (by simpa using hi)]at e1;cases e1;simpa using e5
    have hcm:cm=.map (some b):=by
     cases hm with
     |mp a1 a2 a3=>rw[q1]at a3;cases a3;rfl
     |mpOld a0 a1 a2=>rw[hH]at a2;cases a2
    subst hcm;have hlt:=(ak.1 ho).1;have fin:∀(en':Array MapEntry) (cl':Nat),iU M w c es' en'.toList→(∀e∈en'.toList,e.born<cl')→(Instr.mapUpdate T (.map (some b)) ck cv).run P w=.ok () { w with heap:=w.heap.setIfInBounds b (.map en' cl') } →
      ∃w',(Instr.mapUpdate T (.map (some b)) ck cv).run P w=.ok () w'∧ek M w' c (σ.set id (.map es'))∧gG c w c w':=fun en' cl' he' hb' hrun=>by
     have hset:rF w { w with heap:=w.heap.setIfInBounds b (.map en' cl') } b (.map en' cl'):=⟨⟨rfl,rfl,rfl,aB _⟩,rfl⟩;have hlive:c.H id≠.dead:=by rw[hH];simp
     have hbn:=hs.plow id b hlive q1;have hext:Ext c w c { w with heap:=w.heap.setIfInBounds b (.map en' cl') }:=⟨fun _ h=>h,fun _ h=>h,fun y hy=>by rw[hset.get _ hbn.1,if_neg (fun e=>by subst e;exact hbn.2 (hy.elim (fun h=>h) (hs.sb _)))],aB _,fun _ _=>.inl rfl,fun _ _ _ _=>⟨rfl,rfl,rfl⟩⟩;have hobj:rz M { w with heap:=w.heap.setIfInBounds b (.map en' cl') } c id (.map es'):=by
      refine⟨b,cl',en',fun i=>((en'[i]?).map (·.key)).getD undef,fun i=>((en'[i]?).map (·.val)).getD undef,q1,by rw[hset.get _ hbn.1,if_pos rfl],by simpa using he'.1,fun i hi=>?_,fun i hi=>?_,fun i hi=>?_⟩
      ·obtain⟨e,e1,e2,e3,e4⟩:=he'.2 i hi;have e1':en'[i]?=some e:=by simpa using e1
       exact⟨e,e1',by dsimp only;rw[e1'];rfl,by dsimp only;rw[e1'];rfl,e2,hb' e (aD (by simpa using e1'))⟩
      ·obtain⟨e,e1,e2,e3,e4⟩:=he'.2 i hi;have e1':en'[i]?=some e:=by simpa using e1
       dsimp only;rw[e1'];exact e3.ext hext
      obtain⟨e,e1,e2,e3,e4⟩:=he'.2 i hi;have e1':en'[i]?=some e:=by simpa using e1
      dsimp only;rw[e1'];exact e4.ext hext
     obtain⟨hsim,_⟩:=hs.setObj' ho (by simp) (by rw[dV (cr hlt),dV ho]) q1 hset hobj;exact⟨_,hrun,hsim,gG.setB hs hlive q1 hset hext⟩
    have hck:=fun e=>xX (P:=P) hk hkk hkt e;rcases ZD hkt hk hv hkk cl he h3 with⟨b1,b2⟩|⟨i,e,cv0,b1,b2,b3,b4⟩
    ·refine fin (en.push { key:=ck,val:=cv,born:=cl }) (cl+1) (by simpa using b2) (fun e he=>by
      simp only[Array.toList_push,cq,cg]at he;rcases he with he|rfl
      ·exact lJ (hB e he)
      exact mx _) ?_
     simp[Instr.mapUpdate,run_underlying hT,lG q2,hck,b1,uK _ q2]
    have b2':en[i]?=some e:=by simpa using b2
    have hi:i<en.size:=(bd.1 b2').1;have hei:en[i]=e:=(bd.1 b2').2;have hmod:(en.modify i fun e=>{ e with key:=ck,val:=cv }).toList=en.toList.set i { e with key:=ck,val:=cv }:=by
     apply fp;intro j;simp only[eB,fH,dc];by_cases hij:i=j
     ·subst hij;simp[hi,hei]
     simp[hij]
    refine fin (en.modify i fun e=>{ e with key:=ck,val:=cv }) cl ?_ (fun x hx=>by
     rw[hmod]at hx;rcases ev hx with hx|rfl
     ·exact hB x hx
     exact hB e (aD b2)) ?_
    ·rw[hmod];exact b4
    have hkeep:(Instr.keyThatStays ck ck).run P w=.ok ck w:=by simp[Instr.keyThatStays,Ug hk (wg hkk)]
    simp[Instr.mapUpdate,run_underlying hT,lG q2,hck,b1,b2',b3,hkeep,uK _ q2]
   cases h1
  cases h2
 cases h
end Go.AM
namespace Go.AM
variable {M:cO} {w:World} {P:Program}
theorem Cd:∀{ys:List ap} {bs:List UInt8},wR ys=some bs→∃ns:List Int,ys=ns.map (ap.int .u8)∧bs=ns.map fun n=>UInt8.ofNat n.toNat
 |[],bs,h=>by
  simp only[wR,az]at h;exact⟨[],rfl,h.symm⟩
 |x::r,bs,h=>by
  unfold wR at h;split at h
  ·rename_i hx;cases hx
  ·rename_i n r' hx;cases hx;obtain⟨b0,h1,rfl⟩:=aK.1 h;obtain⟨ns,rfl,rfl⟩:=Cd h1;exact⟨n::ns,rfl,rfl⟩
  cases h
theorem CN:∀(ns:List Int) (s:ByteArray),(ns.foldl (fun r n=>r.push (UInt8.ofNat n.toNat)) s).data.toList=s.data.toList++ns.map fun n=>UInt8.ofNat n.toNat
 |[],s=>by simp
 |n::ns,s=>by
  rw[dh,CN ns];have:(s.push (UInt8.ofNat n.toNat)).data.toList=s.data.toList++[UInt8.ofNat n.toNat]:=by
   show (s.data.push _).toList=_;simp
  rw[this];simp
theorem age{c:cJ}{σ:aw}(hs:ek M w c σ){x v:ap}{cx:Value}(hx:R M w c x cx)(h:SY σ x=some v){S T e:TypeId}(hS:P.underlying S=some (.slice e))(he:P.underlying e=some (.int .u8))(hT:P.underlying T=some .string) :
  ∃cv,(convert S T cx).run P w=.ok cv w∧R M w c v cv:=by
 unfold SY at h;split at h
 ·cases h
 rename_i hns;obtain⟨ys,h1,h2⟩:=aA.1 h;obtain⟨bs,h3,rfl⟩:=aK.1 h2;obtain⟨ns,rfl,rfl⟩:=Cd h3;obtain⟨l1,A,hA,hrun⟩:=Zb (P:=P) hs hx h1 (k:=1) (by omega) (fun y hy=>by obtain⟨n,_,rfl⟩:=bK.1 hy;rfl);have hlen:=l1 w;have hr:=hrun w rfl;obtain⟨hsz,f,hf,hR⟩:=hA;cases cx with
 |slice a len cap=>
  have hl:len=ns.length:=by simpa [Builtin.lenOf] using hlen
  subst hl;cases a with
  |none=>
   simp only[Builtin.firstCells,Sem.run_pure,Result.ok.injEq,and_true]at hr;subst hr;have hn:ns=[]:=by
    apply bM;simpa using hsz.symm
   subst hn;exact⟨.string ByteArray.empty,run_convert_bytes_nil w S e hS he _ _ _ hT,.str rfl⟩
  |some a=>
   have hl:(loadCells a ns.length).run P w=.ok (ns.map (Value.int .u8)).toArray w:=by
    have hA:A=(ns.map (Value.int .u8)).toArray:=by
     apply eg;intro i;by_cases hi:i<ns.length
     ·have e1:=(hf i 0 (by simpa using hi) (by omega)).1;rw[im,eF]at e1;rw[e1];have r1:=hR i (by simpa using hi) 0 (by simp[cellsOf]);simp only[cP,cellsOf,cC]at r1;generalize f i 0=q at r1;cases r1;simp[hi]
     have hz:A.size=ns.length:=by simpa using hsz
     rw[cU (by omega),cU (by simp;omega)]
    rw[←hA];simpa [Builtin.firstCells] using hr
   refine⟨_,(run_convert_bytes_string w S T e (some a) _ cap hS he hT).trans (run_bytesToString w a _ cap ns hl),.str ?_⟩;rw[CN];rfl
 |string t=>
  exfalso;cases hx with
  |any=>simp[rd]at h1
  |str h=>exact hns _ rfl
  |slOld a0 a1 a2=>
   simp only[rd]at h1;unfold sliceAt at h1;split at h1
   ·rename_i ho;split at h1
    ·rename_i hc;have:=a2 _ _ (by rw[hs.H,dV ho]);omega
    cases h1
   cases h1
  |ptrOld=>simp[rd]at h1
  |aslOld=>simp[rd]at h1
  |mpOld=>simp[rd]at h1
  |yldOld=>simp[rd]at h1
  |itOld=>simp[rd]at h1
 |_=>simp[Builtin.lenOf,stuck]at hlen
end Go.AM
namespace Go.AM
section
variable (M:cO) (P:Program) (rs:Tmp→Option cB)
def Gk(o:Op)(ao:F4):Bool:=
 match o,ao with
 |.move x,.mov x'=>jv M rs x x'
 |.assign x,.mov x'=>jv M rs x x'
 |.assign (.const (.slice none 0 0)),.mknil k=>k != 0
 |.pick c a b,.pick c' a' b'=>jv M rs c c'&&jv M rs a a'&&jv M rs b b'
 |.alloc T,.box k (.val z)=>As P T k&&pt M P T z
 |.box T x,.box k x'=>As P T k&&jv M rs x x'
 |.build T parts,.build zero parts'=>pt M P T (.agg zero)&&(match P.underlying T with
   |some (.struct fs)=>(match fs.toList.mapM (fun f=>(P.info? f.type).map fun i=>(f.offset,i.size)) with
    |some places=>sT M rs (places.toArray[·]?) parts.toList parts'
    |none=>false)
   |some (.array _ e)=>(match P.info? e with
    |some ie=>sT M rs (fun i=>some (i*ie.size,ie.size)) parts.toList parts'
    |none=>false)
   |_=>false)
 |.buildSlice T len parts,.mkl k xs=>(match lM P T with
   |some e=>As P e k&&pE P e k&&decide (len*k≤2^24)&&len != 0&&((parts.toList.map (·.1))==List.range len)&&vk M rs (parts.toList.map (·.2)) xs
   |none=>false)
 |.buildSlice T 0 parts,.mknil k=>(match lM P T with
   |some e=>As P e k&&parts.size==0
   |none=>false)
 |.makeSlice T l n,.make k zero l' n'=>(match lM P T with
   |some e=>As P e k&&pE P e k&&pt M P e zero&&jv M rs l l'&&jv M rs n n'
   |none=>false)
 |.makeMap _ none,.mkmap=>true
 |.lookup T m k ok,.look zero ok' m' k'=>(match P.underlying T with
   |some (.map kt et)=>zc P kt&&pt M P et zero&&ok==ok'&&jv M rs m m'&&jv M rs k k'
   |_=>false)
 |.mapUpdate T m k v,.mput m' k' v'=>(match P.underlying T with
   |some (.map kt _)=>zc P kt&&jv M rs m m'&&jv M rs k k'&&jv M rs v v'
   |_=>false)
 |.insert T m k v,.mput m' k' v'=>(match P.underlying T with
   |some (.map kt _)=>zc P kt&&jv M rs m m'&&jv M rs k k'&&jv M rs v v'
   |_=>false)
 |.load T x,.load a s x'=>rr P T a s&&jv M rs x x'
 |.store T x v,.store s x' v'=>As P T s&&jv M rs x x'&&jv M rs v v'
 |.fieldAddr S x i,.fld off x'=>(match DD P S i with
   |some f=>f.offset==off&&(match (P.info? f.type).map (·.size) with|some n=>n != 0|none=>false)&&jv M rs x x'
   |none=>false)
 |.field S x i,.fldv a s off x'=>(match DD P S i with
   |some f=>f.offset==off&&rr P f.type a s&&jv M rs x x'
   |none=>false)
 |.indexAddr T x i,.idxs k x' i'=>(match lM P T with
   |some e=>As P e k&&jv M rs x x'&&jv M rs i i'
   |none=>false)
 |.indexAddr T x i,.idxa m s x' i'=>(match P.underlying T with
   |some (.array m' e)=>m==m'&&(P.info? e).map (·.size)==some s&&jv M rs x x'&&jv M rs i i'
   |_=>false)
 |.index T x i,.idxv a m s x' i'=>(match P.underlying T with
   |some (.array m' e)=>m==m'&&rr P e a s&&jv M rs x x'&&jv M rs i i'
   |_=>false)
 |.index T x i,.idxt x' i'=>EQ P T&&jv M rs x x'&&jv M rs i i'
 |.binOp op T x y _,.eqb n x' y'=>(op==if n then .neq else .eql)&&(match P.underlying T with|some .bool=>true|_=>false)&&jv M rs x x'&&jv M rs y y'
 |.binOp op T x y _,.eqa n ks x' y'=>(op==if n then .neq else .eql)&&Vv P T ks&&jv M rs x x'&&jv M rs y y'
 |.binOp op _ x y _,.bin op' x' y'=>op==op'&&jv M rs x x'&&jv M rs y y'
 |.unOp op _ x,.una op' x'=>op==op'&&jv M rs x x'
 |.convert S T x,.conv k x'=>zc P S&&Qs P T k&&jv M rs x x'
 |.slice T x lo hi none,.slice k x' lo' hi'=>(match lM P T with
   |some e=>As P e k&&jv M rs x x'&&CI M rs lo lo'&&CI M rs hi hi'
   |none=>false)
 |.slice T x lo hi none,.slicet x' lo' hi'=>EQ P T&&jv M rs x x'&&CI M rs lo lo'&&CI M rs hi hi'
 |.slice T x none none none,.aslice n x'=>(match P.underlying T with
   |some (.array m e)=>m==n&&n != 0&&(P.info? e).map (·.size)==some 1&&jv M rs x x'
   |_=>false)
 |.extract x i,.ext i' x'=>i==i'&&jv M rs x x'
 |.makeFunc (.func f) first cap,.mkfn n first' cap'=>M.fm n==f&&vk M rs first.toList first'&&vk M rs cap.toList cap'
 |.nilCheck x,.nilck x'=>jv M rs x x'
 |.call c,.len x'=>(match c.callee,c.args.toList,c.argTypes.toList with
   |.builtin .len,[x],[T]=>(lM P T).isSome&&jv M rs x x'
   |_,_,_=>false)
 |.call c,.lent x'=>(match c.callee,c.args.toList,c.argTypes.toList with
   |.builtin .len,[x],[T]=>EQ P T&&jv M rs x x'
   |_,_,_=>false)
 |.call c,.app k x' y'=>(match c.callee,c.args.toList,c.argTypes.toList with
   |.builtin .append,[x,y],[T,U]=>(match lM P T with
    |some e=>As P e k&&pE P e k&&UY P U&&jv M rs x x'&&jv M rs y y'
    |none=>false)
   |_,_,_=>false)
 |.call c,.cap x'=>(match c.callee,c.args.toList,c.argTypes.toList with
   |.builtin .cap,[x],[T]=>(lM P T).isSome&&jv M rs x x'
   |_,_,_=>false)
 |.call c,.clr zero x'=>(match c.callee,c.args.toList,c.argTypes.toList with
   |.builtin .clear,[x],[T]=>(match lM P T with
    |some e=>pt M P e zero&&jv M rs x x'
    |none=>false)
   |_,_,_=>false)
 |.call c,.copy k x' y'=>(match c.callee,c.args.toList,c.argTypes.toList with
   |.builtin .copy,[x,y],[T,_]=>(match lM P T with
    |some e=>As P e k&&jv M rs x x'&&jv M rs y y'
    |none=>false)
   |_,_,_=>false)
 |.call c,.mins x' xs'=>(match c.callee,c.args.toList with
   |.builtin .min,x::xs=>jv M rs x x'&&vk M rs xs xs'
   |_,_=>false)
 |.call c,.maxs x' xs'=>(match c.callee,c.args.toList with
   |.builtin .max,x::xs=>jv M rs x x'&&vk M rs xs xs'
   |_,_=>false)
 |.call c,.call n args _=>(match c.callee with
   |.value (.func f)=>M.fm n==f&&vk M rs c.args.toList args
   |_=>false)
 |.call c,.callv x' args=>(match c.callee with
   |.value x=>jv M rs x x'&&vk M rs c.args.toList args
   |_=>false)
 |.binOp op T x (.const (.slice none 0 0)) _,.nils n x'=>(op==if n then .neq else .eql)&&(lM P T).isSome&&jv M rs x x'
 |.buildSlice T 0 parts,.mov (.val .ai)=>(match lM P T with
   |some e=>(P.info? e).isSome&&parts.size==0
   |none=>false)
 |.call c,.appz k zero x' n'=>(match c.callee,c.args.toList,c.argTypes.toList with
   |.builtin .append,[x,n],[T,U]=>(match lM P T with
    |some e=>As P e k&&pE P e k&&pt M P e zero&&zc P U&&jv M rs x x'&&jv M rs n n'
    |none=>false)
   |_,_,_=>false)
 |.range T x,.rngs x'=>EQ P T&&jv M rs x x'
 |.next x true,.nexts x'=>jv M rs x x'
 |.lookup T m k ok,.lookk ks zero ok' m' k'=>(match P.underlying T with
   |some (.map kt et)=>oO P kt ks&&pt M P et zero&&ok==ok'&&jv M rs m m'&&jv M rs k k'
   |_=>false)
 |.mapUpdate T m k v,.mputk ks m' k' v'=>(match P.underlying T with
   |some (.map kt _)=>oO P kt ks&&jv M rs m m'&&jv M rs k k'&&jv M rs v v'
   |_=>false)
 |.insert T m k v,.mputk ks m' k' v'=>(match P.underlying T with
   |some (.map kt _)=>oO P kt ks&&jv M rs m m'&&jv M rs k k'&&jv M rs v v'
   |_=>false)
 |.convert S T x,.b2s x'=>(match lM P S with
   |some e=>Qs P e .u8&&EQ P T&&jv M rs x x'
   |none=>false)
 |.binOp op T x (.const .nilFunc) _,.isnil true n x'=>(op==if n then .neq else .eql)&&(match P.underlying T with|some (.func ..)=>true|_=>false)&&jv M rs x x'
 |.binOp op T x (.const (.pointer none)) _,.isnil false n x'=>(op==if n then .neq else .eql)&&(match P.underlying T with|some (.pointer _)=>true|_=>false)&&jv M rs x x'
 |.range T x,.rngm x'=>(match P.underlying T with
   |some (.map _ _)=>jv M rs x x'
   |_=>false)
 |.entry x,.entry x'=>jv M rs x x'
 |.buildSlice T len parts,.mksl k xs=>(match lM P T with
   |some e=>As P e k&&pE P e k&&decide (len*k≤2^24)&&len != 0&&((parts.toList.map (·.1))==List.range len)&&vk M rs (parts.toList.map (·.2)) xs
   |none=>false)
 |_,.bad=>true
 |_,_=>false
end
variable {M:cO} {w:World} {P:Program} {rs:Tmp→Option cB}
theorem HB{c:cJ}{env ls:List ap}{a:Act}(ht:lc M w c env ls rs a.tmps)(hg:iR M w c){place:Nat→Option (Nat×Nat)}:∀{ps:List (Nat×Operand)} {qs:List (Nat×Nat×cB)},sT M rs place ps qs=true →
  ps.length=qs.length∧∀i (h:i<ps.length) (h':i<qs.length),place ps[i].1=some (qs[i].1,qs[i].2.1)∧R M w c (qs[i].2.2.eval env ls) (a.eval ps[i].2)
 |[],[],_=>⟨rfl,fun i h=>absurd h (by simp)⟩
 |[],_::_,h=>by simp[sT]at h
 |_::_,[],h=>by simp[sT]at h
 |(i,x)::ps,(off,s,x')::qs,h=>by
  simp only[sT,am,aG]at h;obtain⟨⟨h1,h2⟩,h3⟩:=h;obtain⟨h4,h5⟩:=HB ht hg h3;refine⟨by simp[h4],fun j hj hj'=>?_⟩;cases j with
  |zero=>exact⟨h1,Ha ht hg h2⟩
  |succ j=>simpa using h5 j (by simpa using hj) (by simpa using hj')
theorem zM{c:cJ}{env ls:List ap}{a:Act}(ht:lc M w c env ls rs a.tmps)(hg:iR M w c){xs:List Operand}{xs':List cB}(h:vk M rs xs xs'=true) :
  xs.length=xs'.length∧∀i (h:i<xs'.length),∃x,(xs.map a.eval)[i]?=some x∧R M w c (xs'[i].eval env ls) x:=by
 simp only[vk,am,aG]at h;exact⟨h.1,VC ht hg h.1 h.2⟩
theorem Qj{c:cJ}{env ls:List ap}{a:Act}(ht:lc M w c env ls rs a.tmps)(hg:iR M w c){x:Option Operand}{x':Option cB}(h:CI M rs x x'=true){d n:Nat}(hn:We env ls d x'=some n) :
  (x.map a.eval=none∧n=d)∨∃k,x.map a.eval=some (.int k (n:Int)):=by
 cases x with
 |none=>cases x' with
  |none=>simp only[We,az]at hn;exact .inl ⟨rfl,hn.symm⟩
  |some _=>simp[CI]at h
 |some x=>cases x' with
  |none=>simp[CI]at h
  |some x'=>
   simp only[CI]at h;obtain⟨k,hk⟩:=sW (Ha ht hg h) hn;exact .inr ⟨k,by rw[cL,hk]⟩
theorem gR{ρ:Operand→Value}{c:Call}{ty:TypeId}{b:Builtin}(h:c.callee=.builtin b):(do let d ←Go.resolve ρ c ty;invoke d.target d.args:Sem Next)=builtin b c.argTypes ty (c.args.map fun|.const _=>true|_=>false) (c.args.map ρ):=by
 unfold Go.resolve;rw[h];rfl
theorem QW{ρ:Operand→Value}{xs:Array Operand}{x:Operand}(h:xs.toList=[x]):xs.map ρ=#[ρ x]:=by
 cases xs with|mk l=>simp at h;subst h;simp
theorem T5{ρ:Operand→Value}{xs:Array Operand}{x y:Operand}(h:xs.toList=[x,y]):xs.map ρ=#[ρ x,ρ y]:=by
 cases xs with|mk l=>simp at h;subst h;simp
theorem yH{α:Type}{xs:Array α}{l:List α}(h:xs.toList=l):xs=l.toArray:=by
 cases xs with|mk l=>simp at h;subst h;rfl
theorem ag4{c:cJ}{x y v:ap}{cx cy:Value}(hx:R M w c x cx)(hy:R M w c y cy){op:BinOp}(h:bin op x y=some v){T:TypeId}(ox oy:Operand) :
  ∃cv,(do eqGuard op T ox oy cx cy;binOp op T cx cy:Sem Value).run P w=.ok cv w∧R M w c v cv:=by
 unfold bin at h;split at h
 ·rename_i k a k' b;cases hx;cases hy;simp only[Sem.run_bind,sP op T ox oy (.inl ⟨k,a,rfl⟩),Result.andThen_ok];split at h
  ·exact HP h
  ·exact HP h
  rename_i n1 n2;split at h
  ·rename_i hk;subst hk;exact O8 ⟨fun e=>n1 e,fun e=>n2 e⟩ h
  cases h
 ·rename_i a b;cases hx with|str h1=>cases hy with|str h2=>
  simp only[Sem.run_bind,sP op T ox oy (.inr (.inl ⟨_,rfl⟩)),Result.andThen_ok];exact UW (by rw[h1,h2];exact h)
 cases h
theorem nD.ex{c:cJ}{σ:aw}{s:Sem Value}{v:ap}(hs:ek M w c σ)(h:∃cv,s.run P w=.ok cv w∧R M w c v cv):nD M P c w (do pure (.value (←s))) v σ:=
 let ⟨_,h1,h2⟩:=h
 .quiet hs h1 h2
theorem nD.unit{c:cJ}{σ':aw}{s:Sem Unit}(h:∃w',s.run P w=.ok () w'∧ek M w' c σ'∧gG c w c w'):nD M P c w (do s;pure .skip) .any σ':=by
 obtain⟨w',h1,h2,h3⟩:=h;exact⟨.skip,w',c,undef,by simp[h1],.inr ⟨rfl,rfl⟩,h2,h3,.any⟩
theorem nD.any{c:cJ}{σ':aw}{s:Sem Value}(h:∃cv w',s.run P w=.ok cv w'∧ek M w' c σ'∧gG c w c w'):nD M P c w (do pure (.value (←s))) .any σ':=by
 obtain⟨cv,w',h1,h2,h3⟩:=h;exact .of h1 h2 h3 .any
theorem rI{T:TypeId}(h:zc P T=true):∃q,P.underlying T=some (.int q):=by
 unfold zc at h;split at h
 ·exact⟨_,by assumption⟩
 cases h
theorem Ho{T:TypeId}{k:IntKind}(h:Qs P T k=true):P.underlying T=some (.int k):=by
 unfold Qs at h;split at h
 ·rename_i j hj;have:j=k:=by simpa using h
  rw[←this];exact hj
 cases h
theorem tN{T:TypeId}(h:EQ P T=true):P.underlying T=some .string:=by
 unfold EQ at h;split at h
 ·assumption
 cases h
theorem aX{α β:Type}{f:α→β}{o:Option α}{b:β}(h:o.map f=some b):∃a,o=some a∧f a=b:=by
 cases o with
 |none=>cases h
 |some a=>exact⟨a,rfl,dz h⟩
theorem bv{α β:Type}{f:α→Option β}{o:Option α}{b:β}(h:o.bind f=some b):∃a,o=some a∧f a=some b:=by
 cases o with
 |none=>cases h
 |some a=>exact⟨a,rfl,h⟩
theorem aim{c:cJ}{i:Nat}{x v:ap}{cx:Value}(hx:R M w c x cx)(h:Uu i x=some v):∃cv,(Instr.extract cx i).run P w=.ok cv w∧R M w c v cv:=by
 unfold Uu at h;split at h
 ·rename_i vs;cases hx with|@tup _ _ cvs f h1 h2 h3=>
  obtain⟨hi,rfl⟩:=ak.1 h;refine⟨f i,?_,h3 i hi⟩;simp[Instr.extract,h2 i hi]
 cases h
theorem Cr{S:TypeId}{i:Nat}{f:Field}(h:DD P S i=some f):∃fs,P.underlying S=some (.struct fs)∧fs[i]?=some f:=by
 unfold DD at h;split at h
 ·exact⟨_,by assumption,h⟩
 cases h
theorem P0{c:cJ}{a:Bool}{s off:Nat}{x v:ap}{cx:Value}(hx:R M w c x cx)(h:Fw a s off x=some v){T:TypeId}(ht:rr P T a s=true):∃A cv,cx=.agg A∧(part T A off).run P w=.ok cv w∧R M w c v cv:=by
 unfold Fw at h;split at h
 ·rename_i hc;exact aci hx hc.1 hc.2 ht h
 cases h
theorem Bg{c:cJ}{env ls:List ap}{a:Act}(ht:lc M w c env ls rs a.tmps)(hg:iR M w c){xs:Array Operand}{xs':List cB}(h:vk M rs xs.toList xs'=true) :
  (xs.map a.eval).size=xs'.length∧∀i (hi:i<(xs'.map (·.eval env ls)).length),∃x,(xs.map a.eval)[i]?=some x∧R M w c (xs'.map (·.eval env ls))[i] x:=by
 obtain⟨h1,h2⟩:=zM ht hg h;refine⟨by simpa using h1,fun i hi=>?_⟩;obtain⟨x,h3,h4⟩:=h2 i (by simpa using hi);exact⟨x,by simpa using h3,by simpa using h4⟩
theorem ZY{c:cJ}{σ σ':aw}{env ls:List ap}{a:Act}{C:gl}{o:Oper}{ao:F4}{v:ap}(hs:ek M w c σ)(ht:lc M w c env ls rs a.tmps)(hg:iR M w c)
  (hok:Gk M P rs o.op ao=true) (hst:aY C env ls σ ao=some (v,σ')) (hn1:∀f x m,ao≠.call f x m) (hn2:∀f x,ao≠.callv f x):nD M P c w (execOp a.eval o) v σ':=by
 have X:∀{x:Operand} {x':cB},jv M rs x x'=true→R M w c (x'.eval env ls) (a.eval x):=fun h=>Ha ht hg h;unfold Gk at hok;unfold execOp;split at hok<;>rename_i hop<;>(try simp only[hop])
 case h_1=>cases hst;exact .now hs (X hok)
 case h_2=>cases hst;exact .now hs (X hok)
 case h_3 k=>
  cases hst;obtain⟨c',h1,h2,h3⟩:=DT hs (show k≠0 by simpa using hok) none;exact⟨_,w,c',_,rfl,.inl rfl,h1,h2,h3⟩
 case h_4 x y z x' y' z'=>
  simp only[am]at hok;obtain⟨⟨h1,h2⟩,h3⟩:=hok;simp only[aY]at hst;obtain⟨r,hr,he⟩:=aX hst;cases he;unfold QY at hr;have hc:=X h1;split at hr
  ·rename_i t ht';rw[ht']at hc;cases hr;generalize a.eval x=cx at hc;cases hc;refine⟨.value (if t then a.eval y else a.eval z),w,c,_,by simp[asBool],.inl rfl,hs,.refl c w,?_⟩;cases t
   ·exact X h3
   exact X h2
  cases hr
 case h_5 T k z=>
  simp only[am]at hok;obtain⟨h1,h2⟩:=hok;obtain⟨h3,h4⟩:=jD h1;obtain⟨i,v0,i1,i2,i3,i4⟩:=pU h2;have hst':(if aC z=k then some (ap.ptr σ.length 0 0 0,σ++[.arr k 0 [z]]) else none)=some (v,σ'):=hst;split at hst'
  ·rename_i hk;cases hst';obtain⟨nx,w',c',cv,b1,b2,b3,b4,b5⟩:=aba (P:=P) hs (qH (M:=M) (w:=w) (c:=c) i4) (T:=T) hk h4;refine⟨nx,w',c',cv,?_,b2,b3,b4,b5⟩;rw[←b1];simp[Instr.alloc,Instr.box,i3]
  cases hst'
 case h_6 T x k x'=>
  simp only[am]at hok;obtain⟨h1,h2⟩:=hok;obtain⟨h3,h4⟩:=jD h1;simp only[aY]at hst;split at hst
  ·rename_i hk;cases hst;exact aba hs (X h2) hk h4
  cases hst
 case h_7 T parts zero parts'=>
  simp only[am]at hok;obtain⟨h1,h2⟩:=hok;obtain⟨i,v0,i1,i2,i3,i4⟩:=pU h1;simp only[aY]at hst;obtain⟨cs,hf,he⟩:=aX hst;cases he;have hz:R M w c (.agg zero) v0:=qH i4;obtain⟨A,rfl⟩:∃A,v0=.agg A:=by cases hz;exact⟨_,rfl⟩
  have hzr:=hz.rcells;have key:∀place,sT M rs place parts.toList parts'=true→∃B,Instr.fill place A ((parts.map fun (i,x)=>(i,a.eval x)).toList)=some B∧lB M w c cs B:=fun place hp=>by
   obtain⟨p1,p2⟩:=HB ht hg hp;refine Xl place _ (parts'.map fun p=>(p.1,p.2.1,p.2.2.eval env ls)) zero cs A hzr (by simp;simpa using p1) (fun i hi hi'=>?_) hf;have:=p2 i (by simpa using hi) (by simpa using hi');simpa using this
  have hbuilt:∃B,P.built T ((parts.map fun (i,x)=>(i,a.eval x)).toList)=some B∧lB M w c cs B:=by
   split at h2
   ·rename_i fs hfs;split at h2
    ·rename_i places hpl;obtain⟨B,b1,b2⟩:=key _ h2;exact⟨B,by unfold Program.built;rw[i1,hfs];simp only[i2,hpl];exact b1,b2⟩
    cases h2
   ·rename_i n e hfs;split at h2
    ·rename_i ie hie;obtain⟨B,b1,b2⟩:=key _ h2;exact⟨B,by unfold Program.built;rw[i1,hfs];simp only[i2,hie];exact b1,b2⟩
    cases h2
   cases h2
  obtain⟨B,b1,b2⟩:=hbuilt;exact .quiet hs (run_build w T _ B b1) b2.agg
 case h_8 T len parts k xs=>
  split at hok
  ·rename_i e he;simp only[am,aG,fV,aR]at hok;obtain⟨⟨⟨⟨⟨h1,h2⟩,h3⟩,h4⟩,h5⟩,h6⟩:=hok;obtain⟨s1,s2⟩:=jD h1;simp only[aY]at hst;split at hst
   ·rename_i hall;cases hst;obtain⟨p1,p2⟩:=zM ht hg h6;have hlen:parts.toList.length=len:=by rw[←List.length_map (f:=(·.1)),h5,List.length_range]
    refine I1 (cvs:=(parts.toList.map (·.2)).map a.eval) hs (fL he) s1 s2 h2 h3 ?_ ?_ ?_ ?_ h4 ?_
    ·rw[cR,←p1,cR,hlen]
    ·rw[cR,cR,hlen]
    ·intro i hi hi';obtain⟨x,x1,x2⟩:=p2 i (by simpa using hi);rw[aq hi']at x1;cases x1;simpa using x2
    ·intro v hv;simpa using aI.1 hall v hv
    rw[←h5];simp[List.zip_map',Function.comp_def]
   cases hst
  cases hok
 case h_9 T parts k=>
  split at hok
  ·rename_i e he;simp only[am,aG]at hok;obtain⟨h1,h2⟩:=hok;obtain⟨s1,s2⟩:=jD h1;cases hst;have hp:parts=#[]:=iy h2;subst hp;obtain⟨h3,h4⟩:=hs.addStill (.cells #[] e (0,0));obtain⟨c',b1,b2,b3⟩:=DT h3 s2 (some ⟨w.heap.size,0,none⟩);refine⟨.value (.slice (some ⟨w.heap.size,0,none⟩) 0 0),iw w (.cells #[] e (0,0)),c',_,?_,.inl rfl,b1,h4.trans b2,b3⟩;simp[Instr.buildSlice,run_underlying (fL he),fj s1,newRow,Instr.fill,Array.range_zero'];rfl
  cases hok
 case h_10 T l n k zero l' n'=>
  split at hok
  ·rename_i e he;simp only[am]at hok;obtain⟨⟨⟨⟨h1,h2⟩,h3⟩,h4⟩,h5⟩:=hok;obtain⟨s1,s2⟩:=jD h1;simp only[aY]at hst;obtain⟨m,m1,hst⟩:=bv hst;obtain⟨d,d1,hst⟩:=bv hst;split at hst
   ·rename_i hc;obtain⟨rfl,hk,hm⟩:=hc;cases hst;obtain⟨k1,e1⟩:=sW (X h4) m1;obtain⟨k2,e2⟩:=sW (X h5) d1;rw[e1,e2];exact acG hs (fL he) s2 h2 h3 hk hm s1
   cases hst
  cases hok
 case h_11 T=>cases hst;exact Zo hs T
 case h_12 T m k ok zero ok' m' k'=>
  split at hok
  ·rename_i kt et hT;simp only[am,aG]at hok;obtain⟨⟨⟨⟨h1,h2⟩,rfl⟩,h4⟩,h5⟩:=hok;obtain⟨q,hq⟩:=rI h1;simp only[aY]at hst;split at hst
   ·rename_i hk;obtain⟨es,e1,hst⟩:=bv hst;obtain⟨r,r1,he⟩:=aX hst;cases he;exact .ex hs (adW hs (X h4) (X h5) hk e1 r1 hT hq h2 ok)
   cases hst
  cases hok
 case h_13 T m k v m' k' v'=>
  split at hok
  ·rename_i kt et hT;simp only[am]at hok;obtain⟨⟨⟨h1,h2⟩,h3⟩,h4⟩:=hok;obtain⟨q,hq⟩:=rI h1;simp only[aY]at hst;obtain⟨σ1,r1,he⟩:=aX hst;cases he;exact .unit (TV hs (X h2) (X h3) (X h4) r1 hT hq)
  cases hok
 case h_14 T m k v m' k' v'=>
  split at hok
  ·rename_i kt et hT;simp only[am]at hok;obtain⟨⟨⟨h1,h2⟩,h3⟩,h4⟩:=hok;obtain⟨q,hq⟩:=rI h1;simp only[aY]at hst;obtain⟨σ1,r1,he⟩:=aX hst;cases he;exact .unit (TV hs (X h2) (X h3) (X h4) r1 hT hq)
  cases hok
 case h_15 T x b s x'=>
  simp only[am]at hok;simp only[aY]at hst;obtain⟨r,hr,he⟩:=aX hst;cases he;exact .ex hs (VE hs (X hok.2) hok.1 hr)
 case h_16 T x y s x' y'=>
  simp only[am]at hok;obtain⟨⟨h1,h2⟩,h3⟩:=hok;obtain⟨s1,s2⟩:=jD h1;simp only[aY]at hst;obtain⟨r,hr,he⟩:=aX hst;cases he;exact .unit (Zf hs (X h2) (X h3) s1 s2 hr)
 case h_17 S x i off x'=>
  split at hok
  ·rename_i f hf;simp only[am,aG]at hok;obtain⟨⟨h1,h2⟩,h3⟩:=hok;obtain⟨fs,f1,f2⟩:=Cr hf;split at h2
   ·rename_i n hn;simp only[aY]at hst;obtain⟨r,hr,he⟩:=aX hst;cases he;exact .ex hs (agQ hs (X h3) f1 f2 h1 hn (by simpa using h2) hr)
   cases h2
  cases hok
 case h_18 S x i b s off x'=>
  split at hok
  ·rename_i f hf;simp only[am,aG]at hok;obtain⟨⟨h1,h2⟩,h3⟩:=hok;obtain⟨fs,f1,f2⟩:=Cr hf;simp only[aY]at hst;obtain⟨r,hr,he⟩:=aX hst;cases he;obtain⟨A,cv,a1,a2,a3⟩:=P0 (P:=P) (X h3) hr h2;refine .quiet hs ?_ a3;subst h1;simp[Instr.field,run_underlying f1,f2,a1,asAgg,a2]
  cases hok
 case h_19 T x i k x' i'=>
  split at hok
  ·rename_i e he;simp only[am]at hok;obtain⟨⟨h1,h2⟩,h3⟩:=hok;obtain⟨s1,s2⟩:=jD h1;simp only[aY]at hst;obtain⟨n,n1,hst⟩:=bv hst;obtain⟨r,hr,he'⟩:=aX hst;cases he';exact .ex hs (ac0 hs (X h2) (sW (X h3) n1) (fL he) s1 s2 hr)
  cases hok
 case h_20 T x i m s x' i'=>
  split at hok
  ·rename_i m' e he;simp only[am,aG]at hok;obtain⟨⟨⟨rfl,h2⟩,h3⟩,h4⟩:=hok;simp only[aY]at hst;obtain⟨n,n1,hst⟩:=bv hst;split at hst
   ·rename_i hn;obtain⟨r,hr,he'⟩:=aX hst;cases he';exact .ex hs (ade hs (X h3) (sW (X h4) n1) he h2 hn hr)
   cases hst
  cases hok
 case h_21 T x i b m s x' i'=>
  split at hok
  ·rename_i m' e he;simp only[am,aG]at hok;obtain⟨⟨⟨rfl,h2⟩,h3⟩,h4⟩:=hok;simp only[aY]at hst;obtain⟨n,n1,hst⟩:=bv hst;split at hst
   ·rename_i hn;obtain⟨r,hr,he'⟩:=aX hst;cases he';obtain⟨A,cv,a1,a2,a3⟩:=P0 (P:=P) (X h3) hr h2;obtain⟨k,hk⟩:=sW (X h4) n1;refine .quiet hs ?_ a3;simp[Instr.index,hk,asIntOf,run_underlying he,a1,hn,fj (tT h2),a2]
   cases hst
  cases hok
 case h_22 T x i x' i'=>
  simp only[am]at hok;obtain⟨⟨h1,h2⟩,h3⟩:=hok;simp only[aY]at hst;obtain⟨n,n1,hst⟩:=bv hst;obtain⟨r,hr,he'⟩:=aX hst;cases he';exact .ex hs (aeg (X h2) (sW (X h3) n1) hr (tN h1))
 case h_23 op T x y _ n x' y'=>
  simp only[am,aG]at hok;obtain⟨⟨⟨h1,h2⟩,h3⟩,h4⟩:=hok;simp only[aY]at hst;obtain⟨r,hr,he'⟩:=aX hst;cases he';split at h2
  ·rename_i hT;exact .ex hs (aiV (X h3) (X h4) hr hT h1 x y)
  cases h2
 case h_24 op T x y _ n ks x' y'=>
  simp only[am,aG]at hok;obtain⟨⟨⟨h1,h2⟩,h3⟩,h4⟩:=hok;simp only[aY]at hst;obtain⟨r,hr,he'⟩:=aX hst;cases he';exact .ex hs (aeQ (X h3) (X h4) hr h2 h1 x y)
 case h_25 op T x y _ op' x' y'=>
  simp only[am,aG]at hok;obtain⟨⟨rfl,h2⟩,h3⟩:=hok;simp only[aY]at hst;obtain⟨r,hr,he'⟩:=aX hst;cases he';exact .ex hs (ag4 (X h2) (X h3) hr x y)
 case h_26 op _ x op' x'=>
  simp only[am,aG]at hok;obtain⟨rfl,h2⟩:=hok;simp only[aY]at hst;obtain⟨r,hr,he'⟩:=aX hst;cases he';exact .ex hs (Yb (X h2) hr)
 case h_27 S T x k x'=>
  simp only[am]at hok;obtain⟨⟨h1,h2⟩,h3⟩:=hok;simp only[aY]at hst;obtain⟨r,hr,he'⟩:=aX hst;cases he';have hx:=X h3;unfold P2 at hr;split at hr
  ·rename_i k' n hx';rw[hx']at hx;cases hr;obtain⟨q,hq⟩:=rI h1;generalize a.eval x=cx at hx;cases hx;exact .quiet hs (Ua (c:=c) hq (Ho h2) ⟨q,rfl⟩) .int
  cases hr
 case h_28 T x lo hi k x' lo' hi'=>
  split at hok
  ·rename_i e he;simp only[am]at hok;obtain⟨⟨⟨h1,h2⟩,h3⟩,h4⟩:=hok;simp only[aY]at hst;obtain⟨n,n1,hst⟩:=bv hst;obtain⟨l,l1,hst⟩:=bv hst;obtain⟨h,hh,hst⟩:=bv hst;obtain⟨r,hr,he'⟩:=aX hst;cases he';exact .ex hs (X3 hs (X h2) n1 (Qj ht hg h3 l1) (Qj ht hg h4 hh) hr (fL he) (jD h1).1)
  cases hok
 case h_29 T x lo hi x' lo' hi'=>
  simp only[am]at hok;obtain⟨⟨⟨h1,h2⟩,h3⟩,h4⟩:=hok;simp only[aY]at hst;obtain⟨n,n1,hst⟩:=bv hst;obtain⟨l,l1,hst⟩:=bv hst;obtain⟨h,hh,hst⟩:=bv hst;obtain⟨r,hr,he'⟩:=aX hst;cases he';exact .ex hs (TZ (X h2) n1 (Qj ht hg h3 l1) (Qj ht hg h4 hh) hr (tN h1))
 case h_30 T x n x'=>
  split at hok
  ·rename_i m e he;simp only[am,aG,fV]at hok;obtain⟨⟨⟨rfl,h2⟩,h3⟩,h4⟩:=hok;simp only[aY]at hst;obtain⟨r,hr,he'⟩:=aX hst;cases he';exact .ex hs (UA hs (X h4) hr he h3 h2)
  cases hok
 case h_31 x i i' x'=>
  simp only[am,aG]at hok;obtain⟨rfl,h2⟩:=hok;simp only[aY]at hst;obtain⟨r,hr,he'⟩:=aX hst;cases he';exact .ex hs (aim (X h2) hr)
 case h_32 f first cap n first' cap'=>
  simp only[am,aG]at hok;obtain⟨⟨h1,h2⟩,h3⟩:=hok;cases hst;obtain⟨a1,a2⟩:=Bg ht hg h2;obtain⟨b1,b2⟩:=Bg ht hg h3;refine .quiet hs rfl ?_;subst h1;refine .fn (fun i=>(first.map a.eval).getD i undef) (fun i=>(cap.map a.eval).getD i undef) (by rw[a1];simp) (by rw[b1];simp) (fun i hi=>?_) (fun i hi=>?_) (fun i hi=>?_) (fun i hi=>?_)
  ·obtain⟨x,x1,_⟩:=a2 i hi;simp only[bA,x1,dl]
  ·obtain⟨x,x1,_⟩:=b2 i hi;simp only[bA,x1,dl]
  ·obtain⟨x,x1,x2⟩:=a2 i hi;simp only[bA,x1,dl];exact x2
  obtain⟨x,x1,x2⟩:=b2 i hi;simp only[bA,x1,dl];exact x2
 case h_33 x x'=>
  simp only[aY]at hst;obtain⟨r,hr,he'⟩:=aX hst;cases he';have hx:=X hok;unfold Jc at hr;split at hr
  ·rename_i id ep i o' hx';rw[hx']at hx;split at hr
   ·rename_i hf;cases hr;obtain⟨k,b,h1,h2,h3,h4⟩:=w8 hs hx hf;rw[h4]at hx ⊢;exact .now hs hx
   cases hr
  ·rename_i b y o' hx';rw[hx']at hx;cases hr;generalize a.eval x=cx at hx;have:∃ad,cx=.pointer (some ad):=by cases hx;exact⟨_,rfl⟩
   obtain⟨ad,rfl⟩:=this;exact .now hs hx
  ·rename_i f p q hx';rw[hx']at hx;cases hr;generalize a.eval x=cx at hx;have:∃fi fs cs,cx=.func (.func fi) fs cs:=by cases hx;exact⟨_,_,_,rfl⟩
   obtain⟨fi,fs,cs,rfl⟩:=this;exact .now hs hx
  cases hr
 case h_34 c' x'=>
  split at hok
  ·rename_i x T h1 h2 h3;simp only[am]at hok;obtain⟨k1,k2⟩:=hok;obtain⟨e,he⟩:=dF.1 k1;simp only[aY]at hst;obtain⟨r,hr,he'⟩:=aX hst;cases he';rw[gR h1,QW h2,yH h3];exact .ex hs ⟨_,ajk hs (X k2) hr (fL he),.int⟩
  cases hok
 case h_35 c' x'=>
  split at hok
  ·rename_i x T h1 h2 h3;simp only[am]at hok;obtain⟨k1,k2⟩:=hok;simp only[aY]at hst;obtain⟨r,hr,he'⟩:=aX hst;cases he';rw[gR h1,QW h2,yH h3];exact .ex hs ⟨_,aco (X k2) hr (tN k1),.int⟩
  cases hok
 case h_36 c' k x' y'=>
  split at hok
  ·rename_i x y T U h1 h2 h3;split at hok
   ·rename_i e he;simp only[am]at hok;obtain⟨⟨⟨⟨k1,k2⟩,k3⟩,k4⟩,k5⟩:=hok;obtain⟨s1,s2⟩:=jD k1;simp only[aY]at hst;obtain⟨ys,y1,hst⟩:=bv hst;rw[gR h1,T5 h2,yH h3];obtain⟨i,z,z1,z2,z3,z4,z5,_⟩:=pL k2;have hsz:i.size=k:=by rw[z1]at s1;simpa using s1
    have hU:∃d,P.underlying U=some d∧∀q,d≠.int q:=by
     unfold UY at k3;split at k3
     ·cases k3
     ·rename_i d hd hn;exact⟨d,hn,fun q e=>hd q e⟩
     cases k3
    obtain⟨d,d1,d2⟩:=hU;exact VJ hs (X k4) (X k5) y1 hst ⟨⟨e,i,z,d,fL he,z1,hsz,z2,z3,z4,z5,d1,d2⟩,s2⟩
   cases hok
  cases hok
 case h_37 c' x'=>
  split at hok
  ·rename_i x T h1 h2 h3;simp only[am]at hok;obtain⟨k1,k2⟩:=hok;obtain⟨e,he⟩:=dF.1 k1;simp only[aY]at hst;obtain⟨r,hr,he'⟩:=aX hst;cases he';rw[gR h1,QW h2,yH h3];have hx:=X k2;unfold ZN at hr;split at hr
   ·rename_i hx';rw[hx']at hx;cases hr;generalize a.eval x=cx at hx;cases hx;refine .ex hs ⟨_,?_,.int⟩;simp[Builtin.cap_,run_underlying (fL he),goInt]
   cases hr
  cases hok
 case h_38 c' zero x'=>
  split at hok
  ·rename_i x T h1 h2 h3;split at hok
   ·rename_i e he;simp only[am]at hok;obtain⟨k1,k2⟩:=hok;simp only[aY]at hst;obtain⟨r,hr,he'⟩:=aX hst;cases he';rw[gR h1,QW h2,yH h3];exact .any (ajE hs (X k2) hr (fL he) k1)
   cases hok
  cases hok
 case h_39 c' k x' y'=>
  split at hok
  ·rename_i x y T U h1 h2 h3;split at hok
   ·rename_i e he;simp only[am]at hok;obtain⟨⟨k1,k2⟩,k3⟩:=hok;simp only[aY]at hst;obtain⟨ys,y1,hst⟩:=bv hst;obtain⟨r,hr,he'⟩:=aX hst;cases he';rw[gR h1,T5 h2,yH h3];obtain⟨w',c1,c2,c3⟩:=acH hs (X k2) (X k3) y1 hr (fL he) (jD k1).1;exact .of c1 c2 c3 .int
   cases hok
  cases hok
 case h_40 c' x' xs'=>
  split at hok
  ·rename_i x xs h1 h2;simp only[am]at hok;obtain⟨k1,k2⟩:=hok;simp only[aY]at hst;obtain⟨r,hr,he'⟩:=aX hst;cases he';rw[gR h1];obtain⟨p1,p2⟩:=zM ht hg k2;have hargs:(c'.args.map a.eval).toList=a.eval x::xs.map a.eval:=by simp[h2]
   obtain⟨cv,r1,r2⟩:=Fj (P:=P) true _ (xs.map a.eval) _ _ _ (X k1) (by simpa using p1) (fun i hi hi'=>by
    obtain⟨y,y1,y2⟩:=p2 i (by simpa using hi);rw[aq hi']at y1;cases y1;simpa using y2) hr
   refine .ex hs ⟨cv,?_,r2⟩;unfold Builtin.min_;rw[hargs];exact r1
  cases hok
 case h_41 c' x' xs'=>
  split at hok
  ·rename_i x xs h1 h2;simp only[am]at hok;obtain⟨k1,k2⟩:=hok;simp only[aY]at hst;obtain⟨r,hr,he'⟩:=aX hst;cases he';rw[gR h1];obtain⟨p1,p2⟩:=zM ht hg k2;have hargs:(c'.args.map a.eval).toList=a.eval x::xs.map a.eval:=by simp[h2]
   obtain⟨cv,r1,r2⟩:=Fj (P:=P) false _ (xs.map a.eval) _ _ _ (X k1) (by simpa using p1) (fun i hi hi'=>by
    obtain⟨y,y1,y2⟩:=p2 i (by simpa using hi);rw[aq hi']at y1;cases y1;simpa using y2) hr
   refine .ex hs ⟨cv,?_,r2⟩;unfold Builtin.max_;rw[hargs];exact r1
  cases hok
 case h_42=>exact absurd rfl (hn1 _ _ _)
 case h_43=>exact absurd rfl (hn2 _ _)
 case h_44 op T x q n x'=>
  simp only[am,aG]at hok;obtain⟨⟨h1,h2⟩,h3⟩:=hok;obtain⟨e,he⟩:=dF.1 h2;simp only[aY]at hst;obtain⟨r,hr,he'⟩:=aX hst;cases he';exact .ex hs (adz hs (X h3) hr (fL he) h1 _ _)
 case h_45 T parts=>
  split at hok
  ·rename_i e he;simp only[am,aG]at hok;obtain⟨h1,h2⟩:=hok;obtain⟨i,hi⟩:=dF.1 h1;have s1:(P.info? e).map (·.size)=some i.size:=by rw[hi];rfl
   cases hst;have hp:parts=#[]:=iy h2;subst hp;obtain⟨h3,h4⟩:=hs.addStill (.cells #[] e (0,0));refine⟨.value (.slice (some ⟨w.heap.size,0,none⟩) 0 0),iw w (.cells #[] e (0,0)),_,_,?_,.inl rfl,h3,h4,.ai⟩;simp[Instr.buildSlice,run_underlying (fL he),fj s1,newRow,Instr.fill,Array.range_zero'];rfl
  cases hok
 case h_46 c' k zero x' n'=>
  split at hok
  ·rename_i x n T U g1 g2 g3;split at hok
   ·rename_i e he;simp only[am]at hok;obtain⟨⟨⟨⟨⟨k1,k2⟩,k3⟩,k4⟩,k5⟩,k6⟩:=hok;obtain⟨s1,s2⟩:=jD k1;obtain⟨i,z,z1,z2,z3,zb,zn,z4⟩:=pL k2;obtain⟨i',z',y1,y2,y3,y4⟩:=pU k3;rw[z1]at y1;cases y1;rw[z2]at y2;cases y2;have hsz:i.size=k:=by rw[z1]at s1;simpa using s1
    have hzR:R M w c zero z:=qH y4;simp only[aY]at hst;obtain⟨m,m1,hst⟩:=bv hst;split at hst
    ·rename_i hc;obtain⟨kn,hkn⟩:=sW (X k6) m1;rw[gR g1];obtain⟨g,hg,hgs,hgc⟩:=qP hzR (by omega);have hA:mW M w c k (List.replicate m zero) (Builtin.zeroCells z.cells m):=by
      refine⟨by simp[Builtin.zeroCells,z3],fun _ j=>g j,fun i j hi hj=>?_,fun i hi j hj=>?_⟩
      ·have hi':i<m:=by simpa using hi
       have hlt:=oX hi' hj;have e1:(i*k+j)%k=j:=by rw[gm,kp,jx hj]
       have e2:=hgc j (by omega);have e3:z.cells[j]! = g j:=by rw[getElem!_def,e2]
       refine⟨?_,hg.one j (by omega)⟩;simp[Builtin.zeroCells,z3,hlt,e1,e3]
      have e1:(List.replicate m zero)[i]=zero:=iB ..;simp only[e1]at hj ⊢;exact hg.rel j hj
     have hap:=TE (P:=P) (w:=w) (T:=T) (U:=U) (ty:=o.type) (e:=e) (k:=k) (i:=i) (z:=z) ⟨fL he,z1,hsz,z2,z3,zb,zn,rI k4,s2⟩ (q:=kn) (m:=m) hc.2;have:=CP (P:=P) (T:=T) (U:=U) (ty:=o.type) (cy:=.int kn m) hs (X k5) s2 hst fun _=>⟨_,hA,by simpa using hap⟩;rw[T5 g2,yH g3];have hkn':a.eval n=.int kn (m:Int):=hkn;rw[hkn'];exact this
    cases hst
   cases hok
  cases hok
 case h_47 T x x'=>
  simp only[am]at hok;exact acg hs (X hok.2) hst (tN hok.1)
 case h_48 x x'=>exact XU hs (X hok) hst
 case h_49 T m k ok ks zero ok' m' k'=>
  split at hok
  ·rename_i kt et hT;simp only[am,aG]at hok;obtain⟨⟨⟨⟨h1,h2⟩,rfl⟩,h4⟩,h5⟩:=hok;simp only[aY]at hst;split at hst
   ·rename_i hk;obtain⟨es,e1,hst⟩:=bv hst;obtain⟨r,r1,he⟩:=aX hst;cases he;exact .ex hs (X7 hs (X h4) (X h5) hk e1 r1 hT h1 h2 ok)
   cases hst
  cases hok
 case h_50 T m k v ks m' k' v'=>
  split at hok
  ·rename_i kt et hT;simp only[am]at hok;obtain⟨⟨⟨h1,h2⟩,h3⟩,h4⟩:=hok;simp only[aY]at hst;obtain⟨σ1,r1,he⟩:=aX hst;cases he;exact .unit (Qx hs (X h2) (X h3) (X h4) r1 hT h1)
  cases hok
 case h_51 T m k v ks m' k' v'=>
  split at hok
  ·rename_i kt et hT;simp only[am]at hok;obtain⟨⟨⟨h1,h2⟩,h3⟩,h4⟩:=hok;simp only[aY]at hst;obtain⟨σ1,r1,he⟩:=aX hst;cases he;exact .unit (Qx hs (X h2) (X h3) (X h4) r1 hT h1)
  cases hok
 case h_52 S T x x'=>
  split at hok
  ·rename_i e he;simp only[am]at hok;obtain⟨⟨h1,h2⟩,h3⟩:=hok;simp only[aY]at hst;obtain⟨r,hr,he'⟩:=aX hst;cases he';exact .ex hs (age hs (X h3) hr (fL he) (Ho h1) (tN h2))
  cases hok
 case h_53 op T x q n x'=>
  simp only[am,aG]at hok;obtain⟨⟨h1,h2⟩,h3⟩:=hok;simp only[aY,bU]at hst;split at hst
  ·rename_i hf;obtain⟨r,hr,he'⟩:=aX hst;cases he';split at h2
   ·rename_i hT;refine .ex hs (VZ (X h3) hr hT ?_ h1 _ _);generalize x'.eval env ls=y at hf;cases y<;>simp[WI]at hf
    ·exact .inl rfl
    exact .inr ⟨_,_,_,rfl⟩
   cases h2
  cases hst
 case h_54 op T x q n x'=>
  simp only[am,aG]at hok;obtain⟨⟨h1,h2⟩,h3⟩:=hok;simp only[aY,aH,bQ]at hst;split at hst
  ·rename_i hf;obtain⟨r,hr,he'⟩:=aX hst;cases he';split at h2
   ·rename_i hT;refine .ex hs (WU (X h3) hr hT ?_ h1 _ _);generalize x'.eval env ls=y at hf;cases y<;>simp[LO]at hf
    ·exact .inl rfl
    exact .inr ⟨_,_,_,rfl⟩
   cases h2
  cases hst
 case h_55 T x x'=>
  split at hok
  ·rename_i hT;exact aef hs (X hok) hst hT
  cases hok
 case h_56 x x'=>
  simp only[aY]at hst;obtain⟨r,hr,he'⟩:=aX hst;cases he';exact .ex hs (Zd hs (X hok) hr)
 case h_57 T len parts k xs=>
  split at hok
  ·rename_i e he;simp only[am,aG,fV,aR]at hok;obtain⟨⟨⟨⟨⟨h1,h2⟩,h3⟩,h4⟩,h5⟩,h6⟩:=hok;obtain⟨s1,s2⟩:=jD h1;obtain⟨p1,p2⟩:=zM ht hg h6;have hlen:parts.toList.length=len:=by rw[←List.length_map (f:=(·.1)),h5,List.length_range]
   have hxl:xs.length=len:=by rw[←p1,cR,hlen]
   have hne:¬(xs.map (·.eval env ls)=[]):=fun e=>h4 (by rw[←hxl,←List.length_map (f:=fun x:cB=>x.eval env ls),e];rfl);simp only[aY]at hst;rw[if_neg hne]at hst;split at hst
   ·rename_i hall;cases hst;have hl:(xs.map (·.eval env ls)).length=len:=by rw[cR,hxl]
    refine OL (len:=len) (cvs:=(parts.toList.map (·.2)).map a.eval) hs (fL he) s1 s2 h2 h3 hl ?_ ?_ ?_ h4 ?_
    ·rw[cR,cR,hlen]
    ·intro i hi hi';obtain⟨x,x1,x2⟩:=p2 i (by simpa using hi);rw[aq hi']at x1;cases x1;simpa using x2
    ·intro v hv;simpa using aI.1 hall v hv
    rw[←h5];simp[List.zip_map',Function.comp_def]
   cases hst
  cases hok
 case h_58=>cases hst
 case h_59=>cases hok
end Go.AM
namespace Go.AM
variable {M:cO} {w:World} {P:Program} {rs:Tmp→Option cB}
theorem F8{c:cJ}{env ls:List ap}{a:Act}(ht:lc M w c env ls rs a.tmps)(hg:iR M w c){xs:Array Operand}{xs':List cB}(h:vk M rs xs.toList xs'=true) :
  jZ M w c (xs'.map (·.eval env ls)) (xs.map a.eval):=by
 obtain⟨h1,h2⟩:=Bg ht hg h;exact⟨by rw[h1];simp,h2⟩
theorem jZ.append{c:cJ}{xs ys:List ap}{A B:Array Value}(h:jZ M w c xs A)(k:jZ M w c ys B):jZ M w c (xs++ys) (A++B):=by
 refine⟨by simp[h.1,k.1],fun i hi=>?_⟩;by_cases hl:i<xs.length
 ·obtain⟨x,h1,h2⟩:=h.2 i hl;refine⟨x,?_,by rw[bH hl];exact h2⟩;rw[dN (by rw[h.1];exact hl)];exact h1
 obtain⟨x,h1,h2⟩:=k.2 (i-xs.length) (by simp at hi;omega);refine⟨x,?_,by rw[ct (by omega)];exact h2⟩;rw[jT (by rw[h.1];omega),h.1];exact h1
theorem M2{c:cJ}{f:Nat}{first cap:List ap}{cx:Value}(h:R M w c (.fn f first cap) cx):∃fs cs,cx=.func (.func (M.fm f)) fs cs∧jZ M w c first fs∧jZ M w c cap cs:=by
 cases h with
 |fn g1 g2 h1 h2 h3 h4 h5 h6=>exact⟨_,_,rfl,⟨h1,fun i hi=>⟨g1 i,h3 i hi,h5 i hi⟩⟩,h2,fun i hi=>⟨g2 i,h4 i hi,h6 i hi⟩⟩
theorem Xm{α β:Type}{f:α→β}{o:Option α}{b:β}(h:o.map f=some b):∃a,o=some a∧f a=b:=aX h
theorem ah0{F:Fence}{n:Nat}{c:cJ}{σ σ':aw}{env ls:List ap}{a:Act}{C:gl}{o:Oper}{ao:F4}{v:ap}(hF:qk F)(hC:jG M P C)(hR:ji M P C)
  (hs:ek M w c σ) (ht:lc M w c env ls rs a.tmps) (hg:iR M w c) (hok:Gk M P rs o.op ao=true) (hst:aY C env ls σ ao=some (v,σ'))
  {K:Act→World→Prop} {Q:Exit→Act→World→Prop} (hK:∀cv w' c',ek M w' c' σ'→gG c w c' w'→R M w' c' v cv→K (a.put o.dst cv) w'):o.wpIn F n P a w K Q:=by
 have hdef:∀c,o.op≠.defer c:=by
  intro d e;rw[e]at hok;cases ao<;>simp[Gk]at hok;cases hst
 by_cases h1:∃f x m,ao=.call f x m
 ·obtain⟨f,args,mat,rfl⟩:=h1;cases hop:o.op with
  |call d=>
   rw[hop]at hok;simp only[Gk]at hok;split at hok
   ·rename_i g hg';simp only[am,aG]at hok;obtain⟨h2,h3⟩:=hok;simp only[aY]at hst;obtain⟨⟨v0,σ0⟩,r1,he⟩:=Xm hst;have hinv:∀n,pA F n P (M.fm f) (d.args.map a.eval) w (fX M c w σ0 v0):=fun n=>(hC f _ σ v0 σ0 r1 F n w c _ hF hs hg (F8 ht hg h3)).1;refine pA.wp hF hinv ?_ hdef fun cv w' hp=>?_
    ·unfold execOp;rw[hop];simp only[Go.resolve,hg',Act.eval,h2];show callFunc g (#[]++d.args.map a.eval++#[])=_;simp
    obtain⟨c',p1,p2,p3⟩:=hp.mater mat;rw[he]at p1 p3;exact hK cv w' c' p1 p2 p3
   cases hok
  |_=>rw[hop]at hok;simp[Gk]at hok
 by_cases h2:∃f x,ao=.callv f x
 ·obtain⟨f,args,rfl⟩:=h2;cases hop:o.op with
  |call d=>
   rw[hop]at hok;simp only[Gk]at hok;split at hok
   ·rename_i x hx;simp only[am]at hok;obtain⟨h3,h4⟩:=hok;simp only[aY]at hst;obtain⟨⟨v0,σ0⟩,r1,he⟩:=Xm hst;have hxR:=Ha ht hg h3;have hargs:=F8 ht hg h4;unfold Eu at r1;split at r1
    ·rename_i g first cap hfe
     rw[hfe]at hxR;obtain⟨fs,cs,e1,e2,e3⟩:=M2 hxR;have hinv:∀n,pA F n P (M.fm g) (fs++d.args.map a.eval++cs) w (fX M c w σ0 v0):=fun n=>(hC g _ σ v0 σ0 r1 F n w c _ hF hs hg ((e2.append hargs).append e3)).1;refine pA.wp hF hinv ?_ hdef fun cv w' hp=>?_
     ·unfold execOp;rw[hop];simp only[Go.resolve,hx,e1];rfl
     obtain⟨c',p1,p2,p3⟩:=hp.mater false;rw[he]at p1 p3;exact hK cv w' c' p1 p2 p3
    ·rename_i l site env' hfe;split at r1
     ·rename_i hpd;rw[hfe]at hxR;obtain⟨b,tmps,w1,e1,e2,_⟩:=hR site l env' _ σ v0 σ0 r1 F n w c _ _ hF hs hg hargs hpd hxR;have hrun:(execOp a.eval o).run P w=.ok (.round b (c.loops l).fn tmps (c.loops l).assign (c.loops l).body) w1:=by
       rw[←e2];unfold execOp;rw[hop];simp only[Go.resolve,hx,e1];show (Instr.yield b (#[]++d.args.map a.eval)).run P w=_;simp
      refine⟨fun f _=>hF.fn f,?_⟩;rw[Oper.semAt_eq _ _ _ hdef,hrun];refine⟨fun hx=>absurd hx (by rw[hF.depth];simp),?_⟩;obtain⟨b',tmps',w1',e1',e2',e3'⟩:=hR site l env' _ σ v0 σ0 r1 F (n-1) w c _ _ hF hs hg hargs hpd hxR;rw[e1]at e1';cases e1';rw[e2]at e2';cases e2';refine e3'.mono fun e w' ⟨cv,hcv,hp⟩=>?_;subst hcv;obtain⟨c',p1,p2,p3⟩:=hp.mater false;rw[he]at p1 p3;exact hK cv w' c' p1 p2 p3
     cases r1
    cases r1
   cases hok
  |_=>rw[hop]at hok;simp[Gk]at hok
 exact (ZY hs ht hg hok hst (fun f x m e=>h1 ⟨f,x,m,e⟩) (fun f x e=>h2 ⟨f,x,e⟩)).wp hF hdef hK
end Go.AM
namespace Go.AM
mutual
theorem qU:∀{a b:ap},same a b=true→a=b
 |.agg a,b,h=>by
  cases b<;>simp only[same,aH]at h;rw[kD h]
 |.tup a,b,h=>by
  cases b<;>simp only[same,aH]at h;rw[kD h]
 |.aa _ a,b,h=>by
  cases b<;>simp only[same,aH,am,aG]at h;rw[kD h.2,h.1]
 |.lst a,b,h=>by
  cases b<;>simp only[same,aH]at h;rw[kD h]
 |.cptr _ x _,b,h=>by
  cases b<;>simp only[same,aH,am,aG]at h;obtain⟨⟨h1,h2⟩,h3⟩:=h;rw[qU h2,h1,h3]
 |.fn _ a c,b,h=>by
  cases b<;>simp only[same,aH,am,aG]at h;obtain⟨⟨h1,h2⟩,h3⟩:=h;rw[kD h2,kD h3,h1]
 |.imap _ a,b,h=>by
  cases b<;>simp only[same,aH,am,aG]at h;rw[zm h.2,h.1]
 |.yld _ _ a,b,h=>by
  cases b<;>simp only[same,aH,am,aG]at h;obtain⟨⟨h1,h2⟩,h3⟩:=h;rw[kD h3,h1,h2]
 |.frs _ a,b,h=>by
  cases b<;>simp only[same,aH,am,aG]at h;rw[kD h.2,h.1]
 |.int ..,b,h=>by cases b<;>simp[same]at h<;>simp[h]
 |.bool _,b,h=>by cases b<;>simp[same]at h<;>simp[h]
 |.str _,b,h=>by cases b<;>simp[same]at h<;>simp[h]
 |.nilp,b,h=>by cases b<;>simp[same]at h<;>rfl
 |.nilf,b,h=>by cases b<;>simp[same]at h<;>rfl
 |.nilm,b,h=>by cases b<;>simp[same]at h<;>rfl
 |.ai,b,h=>by cases b<;>simp[same]at h<;>rfl
 |.sl ..,b,h=>by cases b<;>simp[same]at h<;>simp[h]
 |.ptr ..,b,h=>by cases b<;>simp[same]at h<;>simp[h]
 |.asl ..,b,h=>by cases b<;>simp[same]at h<;>simp[h]
 |.mp _,b,h=>by cases b<;>simp[same]at h<;>simp[h]
 |.emp _,b,h=>by cases b<;>simp[same]at h<;>simp[h]
 |.it _,b,h=>by cases b<;>simp[same]at h<;>simp[h]
 |.any,b,h=>by cases b<;>simp[same]at h<;>rfl
theorem kD:∀{a b:List ap},nS a b=true→a=b
 |[],[],_=>rfl
 |[],_::_,h=>by simp[nS]at h
 |_::_,[],h=>by simp[nS]at h
 |a::x,b::y,h=>by
  simp only[nS,am]at h;rw[qU h.1,kD h.2]
theorem zm:∀{a b:List (ap×ap)},wN a b=true→a=b
 |[],[],_=>rfl
 |[],_::_,h=>by simp[wN]at h
 |_::_,[],h=>by simp[wN]at h
 |(a,b)::x,(a',b')::y,h=>by
  simp only[wN,am]at h;obtain⟨⟨h1,h2⟩,h3⟩:=h;rw[qU h1,qU h2,zm h3]
end
mutual
theorem ro:∀(a:ap),same a a=true
 |.agg a=>by simp only[same];exact ib a
 |.tup a=>by simp only[same];exact ib a
 |.aa _ a=>by simp only[same,fA,cG];exact ib a
 |.lst a=>by simp only[same];exact ib a
 |.cptr _ x _=>by simp only[same,fA,cG,fv];exact ro x
 |.fn _ a c=>by simp only[same,fA,cG,am];exact⟨ib a,ib c⟩
 |.imap _ a=>by simp only[same,fA,cG];exact zg a
 |.yld _ _ a=>by simp only[same,fA,cG];exact ib a
 |.frs _ a=>by simp only[same,fA,cG];exact ib a
 |.int ..=>by simp[same]
 |.bool _=>by simp[same]
 |.str _=>by simp[same]
 |.nilp=>by simp[same]
 |.nilf=>by simp[same]
 |.nilm=>by simp[same]
 |.ai=>by simp[same]
 |.sl ..=>by simp[same]
 |.ptr ..=>by simp[same]
 |.asl ..=>by simp[same]
 |.mp _=>by simp[same]
 |.emp _=>by simp[same]
 |.it _=>by simp[same]
 |.any=>by simp[same]
theorem ib:∀(a:List ap),nS a a=true
 |[]=>by simp[nS]
 |a::x=>by simp only[nS,am];exact⟨ro a,ib x⟩
theorem zg:∀(a:List (ap×ap)),wN a a=true
 |[]=>by simp[wN]
 |(a,b)::x=>by simp only[wN,am];exact⟨⟨ro a,ro b⟩,zg x⟩
end
theorem W0{a b:Option (ap×ap)}(h:Mp a b=true):a=b:=by
 cases a<;>cases b<;>simp only[Mp,aH,am]at h
 ·rfl
 rename_i x y;obtain⟨a,b⟩:=x;obtain⟨c,d⟩:=y;have e1:=qU h.1;have e2:=qU h.2;dsimp only at e1 e2;rw[e1,e2]
theorem Og(a:Option (ap×ap)):Mp a a=true:=by
 cases a<;>simp[Mp,ro]
theorem W7{a b:Obj}(h:Mg a b=true):a=b:=by
 cases a<;>cases b<;>simp only[Mg,aH,am,aG,aR]at h
 ·obtain⟨⟨h1,h2⟩,h3⟩:=h;rw[h1,h2,kD h3]
 ·rw[zm h]
 ·rw[h.1,h.2]
 ·rw[h.1,h.2]
 ·rw[zm h.1.1,W0 h.1.2,h.2]
 rfl
theorem ON(a:Obj):Mg a a=true:=by
 cases a<;>simp[Mg,ib,zg,Og]
theorem zD:∀{a b:aw},oL a b=true→a=b
 |[],[],_=>rfl
 |[],_::_,h=>by simp[oL]at h
 |_::_,[],h=>by simp[oL]at h
 |a::x,b::y,h=>by
  simp only[oL,am]at h;rw[W7 h.1,zD h.2]
theorem yC:∀(a:aw),oL a a=true
 |[]=>by simp[oL]
 |a::x=>by simp only[oL,am];exact⟨ON a,yC x⟩
end Go.AM
namespace Go.AM
variable {C:gl} {env:List ap}
structure xS (C:gl) (env:List ap) (ins:List bC) (ls:List ap) (s:Nat→aw):Prop where
 len:ls.length=ins.length
 step:∀n (h:n<ins.length) (h':n<ls.length),(wanted env (ls.take n) ins[n].guard=some true∧aY C env (ls.take n) (s n) ins[n].op=some (ls[n],s (n+1))) ∨
  (wanted env (ls.take n) ins[n].guard=some false∧ls[n]=.tup []∧s (n+1)=s n)
theorem ya:∀(ins:List bC) (l0:List ap) (σ:aw) (ls:List ap) (σ':aw),kq C env ins l0 σ=some (ls,σ') →
  ∃(l1:List ap) (s:Nat→aw),ls=l0++l1∧l1.length=ins.length∧s 0=σ∧s ins.length=σ' ∧
   ∀n (h:n<ins.length) (h':n<l1.length),(wanted env (l0++l1.take n) ins[n].guard=some true∧aY C env (l0++l1.take n) (s n) ins[n].op=some (l1[n],s (n+1))) ∨
    (wanted env (l0++l1.take n) ins[n].guard=some false∧l1[n]=.tup []∧s (n+1)=s n)
 |[],l0,σ,ls,σ',h=>by
  simp only[kq,az,dx]at h;obtain⟨rfl,rfl⟩:=h;exact⟨[],fun _=>σ,by simp,rfl,rfl,rfl,fun n h=>absurd h (by simp)⟩
 |i::r,l0,σ,ls,σ',h=>by
  simp only[kq]at h;have go:∀(x:ap) (σ1:aw),kq C env r (l0++[x]) σ1=some (ls,σ') →
    ((wanted env l0 i.guard=some true∧aY C env l0 σ i.op=some (x,σ1))∨(wanted env l0 i.guard=some false∧x=.tup []∧σ1=σ)) →
    ∃(l1:List ap) (s:Nat→aw),ls=l0++l1∧l1.length=(i::r).length∧s 0=σ∧s (i::r).length=σ' ∧
     ∀n (h:n<(i::r).length) (h':n<l1.length),(wanted env (l0++l1.take n) (i::r)[n].guard=some true∧aY C env (l0++l1.take n) (s n) (i::r)[n].op=some (l1[n],s (n+1))) ∨
      (wanted env (l0++l1.take n) (i::r)[n].guard=some false∧l1[n]=.tup []∧s (n+1)=s n):=fun x σ1 h1 h2=>by
   obtain⟨l1,s,e1,e2,e3,e4,e5⟩:=ya r (l0++[x]) σ1 ls σ' h1;refine⟨x::l1,fun n=>match n with|0=>σ|n+1=>s n,by rw[e1];simp,by simp[e2],rfl,by simpa using e4,fun n hn hn'=>?_⟩;cases n with
   |zero=>simpa [e3] using h2
   |succ n=>
    have:=e5 n (by simpa using hn) (by simpa using hn');simpa using this
  split at h
  ·rename_i hw;obtain⟨⟨x,σ1⟩,h1,h2⟩:=bv h;exact go x σ1 h2 (.inl ⟨hw,h1⟩)
  ·rename_i hw;exact go (.tup []) σ h (.inr ⟨hw,rfl,rfl⟩)
  cases h
theorem Mh{ins:List bC}{σ σ':aw}{ls:List ap}(h:kq C env ins [] σ=some (ls,σ')):∃s,xS C env ins ls s∧s 0=σ∧s ins.length=σ':=by
 obtain⟨l1,s,e1,e2,e3,e4,e5⟩:=ya ins [] σ ls σ' h;simp only[bN]at e1 e5;subst e1;exact⟨s,⟨e2,e5⟩,e3,e4⟩
theorem Cn:∀(ins:List bC) (l0:List ap) (s0:List aw) (σ:aw) (ls:List ap) (ss:List aw) (σ':aw),rY C env ins l0 s0 σ=some (ls,ss,σ') →
  ∃(l1:List ap) (s:Nat→aw),ls=l0++l1∧l1.length=ins.length∧s 0=σ∧s ins.length=σ'∧ss++[σ']=s0++(List.range (ins.length+1)).map s ∧
   ∀n (h:n<ins.length) (h':n<l1.length),(wanted env (l0++l1.take n) ins[n].guard=some true∧aY C env (l0++l1.take n) (s n) ins[n].op=some (l1[n],s (n+1))) ∨
    (wanted env (l0++l1.take n) ins[n].guard=some false∧l1[n]=.tup []∧s (n+1)=s n)
 |[],l0,s0,σ,ls,ss,σ',h=>by
  simp only[rY,az,dx]at h;obtain⟨rfl,rfl,rfl⟩:=h;exact⟨[],fun _=>σ,by simp,rfl,rfl,rfl,by simp,fun n h=>absurd h (by simp)⟩
 |i::r,l0,s0,σ,ls,ss,σ',h=>by
  simp only[rY]at h;have go:∀(x:ap) (σ1:aw),rY C env r (l0++[x]) (s0++[σ]) σ1=some (ls,ss,σ') →
    ((wanted env l0 i.guard=some true∧aY C env l0 σ i.op=some (x,σ1))∨(wanted env l0 i.guard=some false∧x=.tup []∧σ1=σ)) →
    ∃(l1:List ap) (s:Nat→aw),ls=l0++l1∧l1.length=(i::r).length∧s 0=σ∧s (i::r).length=σ'∧ss++[σ']=s0++(List.range ((i::r).length+1)).map s ∧
     ∀n (h:n<(i::r).length) (h':n<l1.length),(wanted env (l0++l1.take n) (i::r)[n].guard=some true∧aY C env (l0++l1.take n) (s n) (i::r)[n].op=some (l1[n],s (n+1))) ∨
      (wanted env (l0++l1.take n) (i::r)[n].guard=some false∧l1[n]=.tup []∧s (n+1)=s n):=fun x σ1 h1 h2=>by
   obtain⟨l1,s,e1,e2,e3,e4,e6,e5⟩:=Cn r (l0++[x]) (s0++[σ]) σ1 ls ss σ' h1;refine⟨x::l1,fun n=>match n with|0=>σ|n+1=>s n,by rw[e1];simp,by simp[e2],rfl,by simpa using e4,?_,fun n hn hn'=>?_⟩
   ·rw[e6,cn,List.range_succ_eq_map (n:=r.length+1)];simp
   cases n with
   |zero=>simpa [e3] using h2
   |succ n=>
    have:=e5 n (by simpa using hn) (by simpa using hn');simpa using this
  split at h
  ·rename_i hw;obtain⟨⟨x,σ1⟩,h1,h2⟩:=bv h;exact go x σ1 h2 (.inl ⟨hw,h1⟩)
  ·rename_i hw;exact go (.tup []) σ h (.inr ⟨hw,rfl,rfl⟩)
  cases h
theorem Gr{ls:List ap}{ops:List bC}{ss:List aw}:∀{chk:List (Nat×Nat)},pm C env ls ops ss chk=some ()→∀n j,(n,j)∈chk→∃I τ,ops[n]?=some I∧ss[j]?=some τ∧aY C env (ls.take n) τ I.op=some (lU ls n,τ)
 |[],_,n,j,h=>by cases h
 |(n0,j0)::r,h,n,j,hm=>by
  simp only[pm]at h;split at h
  ·rename_i I τ e1 e2;obtain⟨q,h1,h2⟩:=bv h;split at h2
   ·rename_i hs;simp only[am]at hs;rcases d4.1 hm with hm|hm
    ·cases hm;refine⟨I,τ,e1,e2,?_⟩;rw[h1,←qU hs.1,←zD hs.2]
    exact Gr h2 n j hm
   cases h2
  cases h
theorem SD{ins:List bC}{σ σ':aw}{ls:List ap}{ss:List aw}{chk:List (Nat×Nat)}(h:rY C env ins [] [] σ=some (ls,ss,σ'))(hc:pm C env ls ins (ss++[σ']) chk=some ()) :
  ∃s,xS C env ins ls s∧s 0=σ∧s ins.length=σ'∧∀(n j:Nat) (I:bC),(n,j)∈chk→ins[n]?=some I→aY C env (ls.take n) (s j) I.op=some (lU ls n,s j):=by
 obtain⟨l1,s,e1,e2,e3,e4,e6,e5⟩:=Cn ins [] [] σ ls ss σ' h;simp only[bN]at e1 e5 e6;subst e1;refine⟨s,⟨e2,e5⟩,e3,e4,fun n j I hm hI=>?_⟩;obtain⟨I',τ,i1,i2,i3⟩:=Gr hc n j hm;rw[hI]at i1;cases i1;rw[e6,dA]at i2;obtain⟨j',j1,j2⟩:=aX i2;have:j'=j:=by
  obtain⟨_,hj⟩:=ak.1 j1;simpa using hj.symm
 subst this;rw[j2];exact i3
def Tx(bT:Nat→Bool):F4→Nat
 |.mov _|.pick ..|.build ..|.mkl ..|.fldv ..|.idxv ..|.idxt ..|.bin ..|.eqb ..|.eqa ..|.isnil ..|.una ..|.conv ..|.slicet ..|.lent _|.cap _|.mins ..|.maxs ..|.mkfn ..|.ext ..|.bad=>0
 |.load ..|.nils ..|.fld ..|.idxs ..|.idxa ..|.nilck _|.slice ..|.slice0 _|.aslice ..|.len _|.look ..|.mlen _|.b2s _|.lookk ..|.entry _=>1
 |.call f _ mat=>if !mat&&bT f then 1 else 2
 |_=>2
def tW(bT:Nat→Bool)(C:gl):Prop:=∀f args σ v σ',bT f=true→C f args σ=some (v,σ')→σ'=σ
theorem Me{v:ap}{σ:aw}:(mater false (v,σ)).2=σ:=by
 unfold mater ti;dsimp only;split
 ·split<;>rfl
 split<;>rfl
theorem ac1{bT:Nat→Bool}(hp:tW bT C){ls:List ap}{o:F4}(h:Tx bT o≤1){σ σ':aw}{v:ap}(hs:aY C env ls σ o=some (v,σ')):σ'=σ:=by
 have m:∀{q:Option ap},q.map (·,σ)=some (v,σ')→σ'=σ:=fun {q} h=>by
  cases q with
  |none=>cases h
  |some a=>cases h;rfl
 have ite:∀{p:Prop} [Decidable p] {q:Option (ap×aw)},(if p then q else none)=some (v,σ')→q=some (v,σ'):=fun {p} _ {q} h=>by
  split at h
  ·exact h
  cases h
 cases o with
 |call f args mat=>
  simp only[Tx]at h;split at h
  ·rename_i hc;simp only[am,eM]at hc;simp only[aY]at hs;obtain⟨⟨v0,σ0⟩,h1,h2⟩:=aX hs;have:=hp _ _ _ _ _ hc.2 h1;subst this;rw[hc.1]at h2;have e:=Me (v:=v0) (σ:=σ0);rw[h2]at e;exact e
  omega
 |mov x=>cases hs;rfl
 |mkl k xs=>simp only[aY]at hs;have:=ite hs;cases this;rfl
 |pick c x y=>exact m hs
 |build z ps=>simp only[aY]at hs;obtain⟨_,_,h2⟩:=aX hs;cases h2;rfl
 |fldv=>exact m hs
 |idxv=>simp only[aY]at hs;obtain⟨_,_,h2⟩:=bv hs;exact m (ite h2)
 |idxt=>simp only[aY]at hs;obtain⟨_,_,h2⟩:=bv hs;exact m h2
 |bin=>exact m hs
 |eqb=>exact m hs
 |eqa=>exact m hs
 |isnil=>exact m (ite hs)
 |una=>exact m hs
 |conv=>exact m hs
 |slicet=>
  simp only[aY]at hs;obtain⟨_,_,h2⟩:=bv hs;obtain⟨_,_,h3⟩:=bv h2;obtain⟨_,_,h4⟩:=bv h3;exact m h4
 |lent=>simp only[aY]at hs;obtain⟨_,_,h2⟩:=aX hs;cases h2;rfl
 |cap=>exact m hs
 |mins=>exact m hs
 |maxs=>exact m hs
 |mkfn=>cases hs;rfl
 |ext=>exact m hs
 |bad=>cases hs
 |load=>exact m hs
 |nils=>exact m hs
 |fld=>exact m hs
 |idxs=>simp only[aY]at hs;obtain⟨_,_,h2⟩:=bv hs;exact m h2
 |idxa=>simp only[aY]at hs;obtain⟨_,_,h2⟩:=bv hs;exact m (ite h2)
 |nilck=>exact m hs
 |slice=>
  simp only[aY]at hs;obtain⟨_,_,h2⟩:=bv hs;obtain⟨_,_,h3⟩:=bv h2;obtain⟨_,_,h4⟩:=bv h3;exact m h4
 |slice0=>simp only[aY]at hs;obtain⟨_,_,h2⟩:=aX hs;cases h2;rfl
 |aslice=>exact m hs
 |len=>simp only[aY]at hs;obtain⟨_,_,h2⟩:=aX hs;cases h2;rfl
 |look=>
  simp only[aY]at hs;obtain⟨_,_,h2⟩:=bv (ite hs);obtain⟨_,_,h3⟩:=aX h2;cases h3;rfl
 |mlen=>simp only[aY]at hs;obtain⟨_,_,h2⟩:=aX hs;cases h2;rfl
 |b2s=>exact m hs
 |entry=>exact m hs
 |lookk=>
  simp only[aY]at hs;obtain⟨_,_,h2⟩:=bv (ite hs);obtain⟨_,_,h3⟩:=aX h2;cases h3;rfl
 |_=>simp[Tx]at h
theorem Wv{bT:Nat→Bool}{ls:List ap}{o:F4}(h:Tx bT o=0){σ σ':aw}{v:ap}(hs:aY C env ls σ o=some (v,σ'))(τ:aw):aY C env ls τ o=some (v,τ):=by
 have m:∀{q:Option ap},q.map (·,σ)=some (v,σ')→q.map (·,τ)=some (v,τ):=fun {q} h=>by
  cases q with
  |none=>cases h
  |some a=>cases h;rfl
 cases o with
 |call f args mat=>simp only[Tx]at h;split at h<;>cases h
 |mov x=>cases hs;rfl
 |mkl k xs=>
  simp only[aY]at hs ⊢;split at hs
  ·rename_i hc;rw[if_pos hc];cases hs;rfl
  cases hs
 |pick c x y=>exact m hs
 |build z ps=>simp only[aY]at hs ⊢;obtain⟨_,h1,h2⟩:=aX hs;rw[h1];cases h2;rfl
 |fldv=>exact m hs
 |idxv=>
  simp only[aY]at hs ⊢;obtain⟨k,h1,h2⟩:=bv hs;rw[h1];simp only[dk];split at h2
  ·rename_i hc;rw[if_pos hc];exact m h2
  cases h2
 |idxt=>simp only[aY]at hs ⊢;obtain⟨k,h1,h2⟩:=bv hs;rw[h1];exact m h2
 |bin=>exact m hs
 |eqb=>exact m hs
 |eqa=>exact m hs
 |isnil f n x=>
  simp only[aY]at hs ⊢;by_cases hc:(if f=true then WI (x.eval env ls) else LO (x.eval env ls))=true
  ·rw[if_pos hc]at hs ⊢;exact m hs
  rw[if_neg hc]at hs;cases hs
 |una=>exact m hs
 |conv=>exact m hs
 |slicet=>
  simp only[aY]at hs ⊢;obtain⟨_,h1,h2⟩:=bv hs;obtain⟨_,h3,h4⟩:=bv h2;obtain⟨_,h5,h6⟩:=bv h4;rw[h1];simp only[dk];rw[h3];simp only[dk];rw[h5];exact m h6
 |lent=>simp only[aY]at hs ⊢;obtain⟨_,h1,h2⟩:=aX hs;rw[h1];cases h2;rfl
 |cap=>exact m hs
 |mins=>exact m hs
 |maxs=>exact m hs
 |mkfn=>cases hs;rfl
 |ext=>exact m hs
 |bad=>cases hs
 |_=>simp[Tx]at h
end Go.AM
namespace Go.AM
variable {M:cO} {P:Program}
abbrev C4:=List (cB×Option Nat)
def qC(its:C4)(k:Nat):cB:=((its[k]?).map (·.1)).getD (.val .any)
def eN(its:C4)(k:Nat):Option Nat:=(its[k]?).bind (·.2)
def Of(ops:List Oper)(t:Tmp):Option Nat:=ops.findIdx? fun o=>o.dst==some t
def G2(ops:List Oper)(em:List Tmp)(its:C4)(bef:Nat→Nat)(i:Nat)(t:Tmp):Option cB:=
 match Of ops t with
 |none=>(em.idxOf? t).map .env
 |some k=>if (bef i).testBit k then some (qC its k) else if k==i ||(bef k).testBit i then (em.idxOf? t).map .env else none
def QK:Value→Option ap
 |.int k n=>some (.int k n)
 |.bool b=>some (.bool b)
 |.string s=>some (.str s.data.toList)
 |.pointer none=>some .nilp
 |.nilFunc=>some .nilf
 |.map none=>some .nilm
 |_=>none
theorem ajp{w:World}{c:cJ}{v:Value}{a:ap}(h:QK v=some a):R M w c a v:=by
 unfold QK at h;split at h<;>first|(cases h;done)|(cases h;first|exact .int|exact .bool|exact .str rfl|exact .nilp|exact .nilf|exact .nilm)
def QF:Op→Option Operand
 |.move x=>some x
 |.assign x=>some x
 |_=>none
def ju(bT:Nat→Bool)(ins:List bC)(chk:List (Nat×Nat))(n:Nat):Bool:=match ins[n]? with
 |some I=>Tx bT I.op==2&&!chk.contains (n,n)
 |none=>false
def wV(its:C4)(bef:Nat→Nat)(ops:List Oper)(i:Nat):Option (Nat×Bool)→Option (cB×Bool)→Bool
 |none,none=>true
 |some (j,b),some (x,b')=>b==b'&&(bef i).testBit j&&Ck (qC its j) x&&((ops[j]?).bind (·.dst)).isSome
 |_,_=>false
def NM(ops:List Oper)(em:List Tmp)(its:C4)(bef:Nat→Nat)(i:Nat)(o:Oper):Bool:=o.guard.isNone&&(match QF o.op with
 |some (.tmp t)=>(match G2 ops em its bef i t with
  |some x=>Ck x (qC its i)
  |none=>false)
 |some (.const v)=>(match QK v with
  |some a=>Ck (.val a) (qC its i)
  |none=>false)
 |_=>false)
structure vv (M:cO) (P:Program) (bT:Nat→Bool) (ops:Array Oper) (ins:List bC) (em:List Tmp) (its:C4) (bef:Nat→Nat) (chk:List (Nat×Nat)) (late:Option Nat) (nt:Nat):Prop where
 size:its.length=ops.size
 dst:∀(i:Nat) (o:Oper) (d:Tmp),ops[i]?=some o→o.dst=some d→d<nt
 uniq:∀(i k:Nat) (oi ok:Oper) (d:Tmp),ops[i]?=some oi→ops[k]?=some ok→oi.dst=some d→ok.dst=some d→i=k
 low:∀i k,(bef i).testBit k=true→k<i
 mono:∀k i n m,eN its k=some n→eN its i=some m→k<i→n<m
 onto:∀n,n<ins.length→∃k,eN its k=some n∧k<ops.size
 bound:∀k n,eN its k=some n→n<ins.length
 item:∀(i:Nat) (o:Oper),ops[i]?=some o→(eN its i=none∧NM ops.toList em its bef i o=true) ∨
  ∃n I,eN its i=some n∧ins[n]?=some I∧qC its i=.loc n∧Gk M P (G2 ops.toList em its bef i) o.op I.op=true∧wV its bef ops.toList i o.guard I.guard=true ∧
   (ju bT ins chk n=true→late≠some i→∀k m,k<i→eN its k=some m→ju bT ins chk m=true→(bef i).testBit k=true) ∧
   (ju bT ins chk n=false→Tx bT I.op=0 ∨
    ((∃k m,eN its k=some m∧ju bT ins chk m=true∧(bef i).testBit k=true)∨(∀k m,eN its k=some m→ju bT ins chk m=true→¬m<n)∨(n,0)∈chk) ∧
    ∀k m,eN its k=some m→ju bT ins chk m=true→(bef k).testBit i=true∨(∃k' m',eN its k'=some m'∧ju bT ins chk m'=true∧m<m'∧(bef i).testBit k'=true) ∨
     (m<n∧∀k' m',eN its k'=some m'→ju bT ins chk m'=true→m<m'→¬m' < n)∨(n,m+1)∈chk)
 lateOk:∀d,late=some d→bef d=0∧∃o T t n kk z,ops[d]?=some o∧o.op=.alloc T∧o.guard=none∧o.dst=some t∧eN its d=some n∧ins[n]?=some ⟨.box kk (.val z),none⟩∧ju bT ins chk n=true ∧
  (∀j,(bef j).testBit d=true→∀k m,eN its k=some m→ju bT ins chk m=true→m<n→(bef j).testBit k=true)∧∀j,j<ops.size→j≠d→G2 ops.toList em its bef j t≠none→(bef j).testBit d=true
 guards:∀(n j:Nat) (I:bC),(n,j)∈chk→ins[n]?=some I→I.guard=none
theorem Hm{ops:Array Oper}{t:Tmp}(h:Of ops.toList t=none){k:Nat}{o:Oper}(ho:ops[k]?=some o):o.dst≠some t:=by
 unfold Of at h;rw[List.findIdx?_eq_none_iff]at h;have hm:o∈ops.toList:=by
  rw[jh];exact⟨k,by simpa using ho⟩
 have:=h o hm;simpa using this
theorem HJ{ops:Array Oper}{t:Tmp}{k:Nat}(h:Of ops.toList t=some k):∃o,ops[k]?=some o∧o.dst=some t:=by
 unfold Of at h;rw[cD]at h;obtain⟨hk,h1,_⟩:=h;exact⟨ops[k]'(by simpa using hk),by simp,by simpa using h1⟩
theorem R.undef{w:World}{c:cJ}:R M w c (.tup []) undef:=.tup (fun _=>.nilFunc) rfl (fun i h=>absurd h (by simp)) (fun i h=>absurd h (by simp))
theorem BO{env ls:List ap}{x:cB}(n:Nat):x.eval env (ls.take n)=x.eval env ls∨x.eval env (ls.take n)=.any:=by
 cases x with
 |env i=>exact .inl rfl
 |val v=>exact .inl rfl
 |loc j=>
  simp only[cB.eval,lU,dO];by_cases h:j<n
  ·simp[h]
  simp[h]
theorem R.take{w:World}{c:cJ}{env ls:List ap}{x:cB}{v:Value}(h:R M w c (x.eval env ls) v)(n:Nat):R M w c (x.eval env (ls.take n)) v:=by
 rcases BO (env:=env) (ls:=ls) (x:=x) n with e|e
 ·rw[e];exact h
 rw[e];exact .any
section
variable {bT:Nat→Bool} {ops:Array Oper} {ins:List bC} {em:List Tmp} {its:C4} {bef:Nat→Nat} {chk:List (Nat×Nat)} {env ls:List ap} {s:Nat→aw} {C:gl} {w0:World} {c0:cJ} {a0:Act}
def Cut(bT:Nat→Bool)(ins:List bC)(its:C4)(chk:List (Nat×Nat))(S:Nat→Prop)(p:Nat):Prop:=
 (p=0∨∃k n,S k∧eN its k=some n∧ju bT ins chk n=true∧p=n+1) ∧
 ∀k n,eN its k=some n→ju bT ins chk n=true→(S k↔n<p)
def vE(M:cO)(bT:Nat→Bool)(ops:Array Oper)(ins:List bC)(its:C4)(bef:Nat→Nat)(chk:List (Nat×Nat))(env ls:List ap)(s:Nat→aw)(c0:cJ)(w0:World)(a0:Act)(x:Option (Tmp×Nat×Go.Obj))(S:Nat→Prop)(a:Act)(w:World):Prop:=
 (∀i k,S i→(bef i).testBit k=true→S k)∧(∀i,S i→i<ops.size)∧∃c p,ek M w c (s p)∧gG c0 w0 c w∧Cut bT ins its chk S p ∧
  (∀(i:Nat) (o:Oper) (d:Tmp),S i→ops[i]?=some o→o.dst=some d→R M w c ((qC its i).eval env ls) (a.tmps.getD d undef)) ∧
  (∀t,(∀(i:Nat) (o:Oper),S i→ops[i]?=some o→o.dst≠some t)→(∀b ob,x≠some (t,b,ob))→a.tmps.getD t undef=a0.tmps.getD t undef)∧a.tmps.size=a0.tmps.size∧a.defers=a0.defers ∧
  ∀t b ob,x=some (t,b,ob)→a.tmps.getD t undef=.pointer (some ⟨b,0,none⟩)∧w0.heap.size≤b∧w.heap[b]?=some ob∧¬c.bor b∧∀id,c.H id≠.dead→c.place id≠some b
theorem yq(hT:xS C env ins ls s)(hp:tW bT C)(hchk:∀(n j:Nat) (I:bC),(n,j)∈chk→ins[n]?=some I→aY C env (ls.take n) (s j) I.op=some (lU ls n,s j))(hgd:∀(n j:Nat) (I:bC),(n,j)∈chk→ins[n]?=some I→I.guard=none)
  {p n:Nat} (hpn:p≤n) (hn:n≤ins.length) (h:∀m,p≤m→m<n→ju bT ins chk m=false):s n=s p:=by
 induction n with
 |zero=>rw[show p=0 by omega]
 |succ n ih=>
  by_cases e:p=n+1
  ·rw[e]
  rw[←ih (by omega) (by omega) (fun m h1 h2=>h m h1 (by omega))];have hn':n<ins.length:=by omega
  have hnw:=h n (by omega) (by omega);have hl:=hT.len;rcases hT.step n hn' (by omega) with⟨h1,h2⟩|⟨_,_,h3⟩
  ·unfold ju at hnw;rw[aq hn']at hnw;simp only[gC,du,Bool.not_eq_false',gH]at hnw;rcases hnw with h4|h4
   ·have:Tx bT ins[n].op≤1:=by
     have:Tx bT ins[n].op≤2:=by
      cases ins[n].op<;>simp[Tx];split<;>omega
     omega
    exact ac1 hp this h2
   have h5:=hchk n n ins[n] h4 (aq hn');rw[h5]at h2;simp only[az,dx]at h2;exact h2.2.symm
  exact h3
theorem AG(hT:xS C env ins ls s)(hp:tW bT C)(hchk:∀(n j:Nat) (I:bC),(n,j)∈chk→ins[n]?=some I→aY C env (ls.take n) (s j) I.op=some (lU ls n,s j))(hgd:∀(n j:Nat) (I:bC),(n,j)∈chk→ins[n]?=some I→I.guard=none)
  (onto:∀n,n<ins.length→∃k,eN its k=some n∧k<ops.size) {p n:Nat} (hpl:p≤ins.length) (hn:n≤ins.length)
  (h:∀k m,eN its k=some m→ju bT ins chk m=true→(m<p↔m<n)):s p=s n:=by
 have nw:∀m,m<ins.length→ju bT ins chk m=true→(m<p↔m<n):=fun m hm hw=>by
  obtain⟨k,hk,_⟩:=onto m hm;exact h k m hk hw
 by_cases hle:p≤n
 ·refine (yq hT hp hchk hgd hle hn fun m h1 h2=>?_).symm;cases e:ju bT ins chk m with
  |false=>rfl
  |true=>exact absurd ((nw m (by omega) e).2 h2) (by omega)
 refine yq hT hp hchk hgd (by omega) hpl fun m h1 h2=>?_;cases e:ju bT ins chk m with
 |false=>rfl
 |true=>exact absurd ((nw m (by omega) e).1 h2) (by omega)
theorem PZ{w:World}{c:cJ}{a:Act}{i n:Nat}{o:Oper}{g:Option (cB×Bool)}{t:Bool}(h:wV its bef ops.toList i o.guard g=true)(hw:wanted env (ls.take n) g=some t)
  (hv:∀(j:Nat) (oj:Oper) (d:Tmp),(bef i).testBit j=true→ops[j]?=some oj→oj.dst=some d→R M w c ((qC its j).eval env ls) (a.tmps.getD d undef)):Region.wanted o (yielded ops a.tmps)=t:=by
 unfold Region.wanted;cases hg:o.guard with
 |none=>
  rw[hg]at h;cases g with
  |none=>simp only[wanted,az]at hw;exact hw
  |some x=>simp[wV]at h
 |some jb=>
  obtain⟨j,b⟩:=jb;rw[hg]at h;cases g with
  |none=>simp[wV]at h
  |some xb=>
   obtain⟨x,b'⟩:=xb;simp only[wV,am,aG]at h;obtain⟨⟨⟨rfl,h2⟩,h3⟩,h4⟩:=h;have hx:=tP h3;obtain⟨d,hd⟩:=dF.1 h4;obtain⟨oj,hj,hjd⟩:=bv hd;have hj':ops[j]?=some oj:=by simpa using hj
   have hr:=hv j oj d h2 hj' hjd;rw[hx]at hr;simp only[wanted]at hw;split at hw
   ·rename_i t0 ht0;simp only[az]at hw;have he:x.eval env ls=.bool t0:=by
     rcases BO (env:=env) (ls:=ls) (x:=x) n with e|e
     ·rw[←e];exact ht0
     rw[e]at ht0;cases ht0
    rw[he]at hr;have hval:a.tmps[d]?=some (.bool t0):=by
     rw[bA]at hr;cases hq:a.tmps[d]? with
     |none=>rw[hq]at hr;simp[undef]at hr;cases hr
     |some v=>rw[hq]at hr;simp at hr;cases hr;rfl
    have hy:yielded ops a.tmps j=some t0:=by
     unfold yielded;simp[hj',hjd,hval]
    show (yielded ops a.tmps j==some b)=t;rw[hy,←hw];cases t0<;>cases b<;>rfl
   ·rename_i ht0;simp only[az]at hw;have he:x.eval env ls=.tup []:=by
     rcases BO (env:=env) (ls:=ls) (x:=x) n with e|e
     ·rw[←e];exact ht0
     rw[e]at ht0;cases ht0
    rw[he]at hr;show (yielded ops a.tmps j==some b)=t;have hy:yielded ops a.tmps j=none:=by
     unfold yielded;rw[bA]at hr;simp only[hj',dk,hjd];cases hq:a.tmps[d]? with
     |none=>rfl
     |some v=>
      rw[hq]at hr;simp only[dl]at hr;cases hr;rfl
    rw[hy,←hw];cases b<;>rfl
   cases hw
end
end Go.AM
