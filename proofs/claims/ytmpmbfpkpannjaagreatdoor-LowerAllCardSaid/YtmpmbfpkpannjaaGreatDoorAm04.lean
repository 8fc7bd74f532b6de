/- Part of the proof. -/
import Derived.Test.YtmpmbfpkpannjaaGreatDoorAm03
import Derived.Laws.BytesArg
import Derived.OrdersIn
set_option linter.unusedVariables false
set_option linter.unusedSimpArgs false
set_option linter.unusedSectionVars false
namespace Go.AM
variable {M:dm} {w:World} {P:Program}
theorem Zb{c:dk}{op:BinOp}{T:TypeId}{a b:ByteArray}{v:aq}(h:eS op a.data.toList b.data.toList=some v) :
  ∃cv,(binOp op T (.string a) (.string b)).run P w=.ok cv w∧R M w c v cv:=by
 have f:∀op,(binOp op T (.string a) (.string b))=Op.stringOp op a b:=fun op=>by cases op<;>rfl
 rw[f];have i:a.toList=a.data.toList:=ByteArray.toList_eq ..;have d:b.toList=b.data.toList:=ByteArray.toList_eq ..;have k:bC=68719476736:=rfl;cases op<;>simp only[eS]at h<;>first|(cases h;done)|skip
 case add=>
  split at h
  ·rename_i l;cases h;have e:¬(((a.size+b.size:Nat):Int)>IntKind.i64.max):=by
    have j:a.data.toList.length=a.size:=by rw[cR];rfl
    have g:b.data.toList.length=b.size:=by rw[cR];rfl
    have:IntKind.i64.max=9223372036854775807:=by decide
    rw[this];omega
   refine⟨.string (a++b),?_,.str (by simp[ByteArray.data_append])⟩;simp only[Op.stringOp,e,cI];rfl
  cases h
 all_goals
  cases h;refine⟨.bool _,?_,.bool⟩;simp only[Op.stringOp,i,d];rfl
theorem ZS{c:dk}{x v:aq}{e:Value}(o:R M w c x e){n l h:Nat}(i:Jn x=some n){lo hi:Option Value}(b:(lo=none∧l=0)∨∃k,lo=some (.int k (l:Int)))
  (d:(hi=none∧h=n)∨∃k,hi=some (.int k (h:Int))) (a:vT x l h=some v) {T:TypeId} (m:P.underlying T=some .string) :
  ∃cv,(Instr.sliceAt T e lo hi none).run P w=.ok cv w∧R M w c v cv:=by
 obtain⟨s,t,rfl,rfl,f,j⟩:=aas o i;simp only[vT]at a;split at a
 ·rename_i g;cases a;have q:s.length=t.size:=by rw[←f,cR];rfl
  refine⟨.string (t.extract l h),?_,.str (by rw[ByteArray.data_extract,Array.toList_extract,f])⟩;have p:=xd (P:=P) (w:=w) (len:=t.size) (cap:=t.size) (isS:=false) b (by rw[j];exact d) g.1 (by omega);simp[Instr.sliceAt,run_underlying m,Instr.slice,p]
 cases a
theorem ah3{c:dk}{x v:aq}{a e:Value}(l:R M w c x a){n:Nat}(hi:∃k,e=.int k (n:Int))(h:NP n x=some v){T:TypeId}(j:P.underlying T=some .string) :
  ∃cv,(Instr.index T a e).run P w=.ok cv w∧R M w c v cv:=by
 obtain⟨k,rfl⟩:=hi;unfold NP at h;split at h
 ·cases l with|@str _ s t i=>
  simp only[aQ]at h;obtain⟨b,d,rfl⟩:=h;have p:t[n]?=some b:=by
   rw[←i]at d;have m:t.data[n]?=some b:=by simpa using d
   obtain⟨g,o⟩:=bE.1 m;have f:n<t.size:=g;rw[getElem?_pos t n f];exact congrArg some o
  refine⟨_,?_,.int⟩;simp[Instr.index,asIntOf,run_underlying j,p]
 cases h
theorem Hw{c:dk}(lt:Bool):∀(f:List aq) (d:List Value) (x v:aq) (g:Value),R M w c x g→d.length=f.length→(∀i (h:i<f.length) (B:i<d.length),R M w c f[i] d[i])→wY lt x f=some v →
  ∃cv,(d.foldlM (if lt then Builtin.min2 else Builtin.max2) g).run P w=.ok cv w∧R M w c v cv
 |[],[],x,v,g,m,_,_,h=>by simp only[wY,aL]at h;subst h;exact⟨g,rfl,m⟩
 |[],_::_,_,_,_,_,h,_,_=>by simp at h
 |_::_,[],_,_,_,_,h,_,_=>by simp at h
 |y::f,cy::d,x,v,g,m,A,o,h=>by
  have n:=o 0 (by simp) (by simp);simp only[cV]at n;unfold wY at h;split at h
  ·rename_i s;cases s
  ·rename_i k a C b r l;injection l with t q;subst t q;split at h
   ·rename_i u;subst u;cases m;cases n;obtain⟨cv,p,z⟩:=Hw lt f d _ v _ (.int (M:=M) (w:=w) (c:=c)) (by simpa using A) (fun i hi j=>by have:=o (i+1) (by simpa using hi) (by simpa using j);simpa using this) h;refine⟨cv,?_,z⟩;rw[List.foldlM_cons,Sem.run_bind];cases lt
    ·have e:((if false=true then Builtin.min2 else Builtin.max2) (.int k a) (.int k b)).run P w=.ok (.int k (if b>a then b else a)) w:=rfl;rw[e];simpa using p
    have e:((if true=true then Builtin.min2 else Builtin.max2) (.int k a) (.int k b)).run P w=.ok (.int k (if b<a then b else a)) w:=rfl;rw[e];simpa using p
   cases h
  cases h
theorem Yp{c:dk}{σ:aw}(D:fd M w c σ){x v:aq}{u:Value}(a:R M w c x u){n:Nat}(h:abD σ n x=some v){T e:TypeId}(s:P.underlying T=some (.array n e))(y:(P.info? e).map (·.size)=some 1)(q:n≠0) :
  ∃cv,(Instr.sliceAt T u none none none).run P w=.ok cv w∧R M w c v cv:=by
 unfold abD at h;split at h
 ·split at h
  ·rename_i id ep i o C;cases h;obtain⟨k,b,m,z,g,rfl⟩:=zP D a C;refine⟨_,?_,.asl m z g⟩;have p:=xd (P:=P) (w:=w) (len:=n) (cap:=n) (isS:=false) (l:=0) (h:=n) (lo:=none) (hi:=none) (.inl ⟨rfl,rfl⟩) (.inl ⟨rfl,rfl⟩) (cK _) (aF _);simp[Instr.sliceAt,run_underlying s,Instr.sureAddr,p,gi y,q,kK]
  cases h
 ·split at h
  ·rename_i cs A;obtain⟨rfl,d⟩:=A;cases h;have t:∀x∈cs,aM x=1∧isAgg x=false:=fun x a=>by
    have:=aY.1 d x a;simpa using this
   cases a with
   |@cptr _ _ _ _ o blk f m z g B=>
    refine⟨.slice (some ⟨blk,o,none⟩) cs.length cs.length,?_,?_⟩
    ·have p:=xd (P:=P) (w:=w) (len:=cs.length) (cap:=cs.length) (isS:=false) (l:=0) (h:=cs.length) (lo:=none) (hi:=none) (.inl ⟨rfl,rfl⟩) (.inl ⟨rfl,rfl⟩) (cK _) (aF _);simp[Instr.sliceAt,run_underlying s,Instr.sureAddr,p,gi y,q,kK]
    refine .aa 1 (fun i _=>f i) (by simpa using m) rfl (aF _) (by omega) (fun x a=>(t x a).1) (fun i j hi r=>?_) (fun i hi j r=>?_)
    ·have:j=0:=by omega
     subst this;have:=g i hi;simpa using this
    have e:=ro (t _ (aJ hi)).2;simp only[e,bA,bD]at r ⊢;have:j=0:=by omega
    subst this;exact B i hi
  cases h
 cases h
theorem fd.setRow{c:dk}{σ:aw}{w':World}(o:fd M w c σ){id k ep b:Nat}{es es':List aq}(u:σ[id]?=some (.arr k ep es))(p:c.place id=some b){cs cs':Array Value}{T:TypeId}(D:w.heap[b]?=some (.cells cs T (0,0)))
  (r:uW w w' b (.cells cs' T (0,0))) (z:cs'.size=cs.size) (l:c.room id=cs.size) (E:k≠0) (m:∀x∈es',aM x=k) (t:es'.length*k≤cs.size) (f:Nat→Nat→Value)
  (B:∀i j,i<es'.length→j<k→cs'[i*k+j]?=some (f i j)∧(f i j).oneCell'=true) (C:∀i (hi:i<es'.length) j (v:j<(cellsOf es'[i]).length),R M w c (cellsOf es'[i])[j] (f i j)) :
  fd M w' c (σ.set id (.arr k ep es'))∧iR c w c w':=by
 have a:c.H id≠.dead:=by rw[o.H,fe u];simp
 have g:=o.plow id b a p;have d:Ext c w c w':=⟨fun _ h=>h,fun _ h=>h,fun y A=>by rw[r.get _ g.1,if_neg (fun e=>by subst e;exact g.2 (A.elim (fun h=>h) (o.sb _)))],aF _,fun _ _=>.inl rfl,fun _ _ _ _=>⟨rfl,rfl,rfl⟩⟩
 have n:wA M w' c id (.arr k ep es'):=⟨E,m,fun s=>(by rw[p]at s;cases s),fun F q=>by
  rw[p]at q;cases q;exact⟨cs',T,f,by rw[r.get _ g.1,if_pos rfl],by omega,by rw[z];exact l,B,fun i hi j v=>(C i hi j v).ext d⟩⟩
 exact⟨(o.setObj u p r n).1,iR.setB o a p r d⟩
theorem sl_inv{c:dk}{σ:aw}(i:fd M w c σ){id ep off n:Nat}{e:Value}(j:R M w c (.sl id ep off n) e){k:Nat}{es:List aq}(h:σ[id]?=some (.arr k ep es)) :
  (n=0∧∃a cap,e=.slice a 0 cap)∨∃b cap,c.place id=some b∧e=.slice (some ⟨b,off*k,none⟩) n cap:=by
 have f:c.H id=.arr k ep:=by rw[i.H,fe h]
 cases j with
 |sl g d l o p=>rw[f]at d;cases d;exact .inr ⟨_,_,l,rfl⟩
 |sl0=>exact .inl ⟨rfl,_,_,rfl⟩
 |slOld m g d=>exact absurd (d _ _ f) (dI _)
theorem Qz{d:Type}{p:d→Prop}{es e:List d}{a b:Nat}(f:∀x∈es,p x)(g:∀x∈e,p x):∀x∈es.take a++e++es.drop b,p x:=fun x c=>by
 rcases ba.1 c with c|c
 ·rcases ba.1 c with c|c
  ·exact f x (cT c)
  exact g x c
 exact f x (ej c)
theorem fd.lay{c:dk}{σ:aw}(D:fd M w c σ){id k ep b off:Nat}{es a:List aq}(z:σ[id]?=some (.arr k ep es))(G:c.place id=some b){A:Array Value}(N:pz M w c k a A)(m:∀x∈a,aM x=k)(l:off+a.length≤es.length) :
  ∃w',(storeCells ⟨b,off*k,none⟩ A.toList).run P w=.ok () w'∧fd M w' c (σ.set id (.arr k ep (es.take off++a++es.drop (off+a.length))))∧iR c w c w':=by
 obtain⟨E,K,o3,J⟩:=D.obj id _ z;obtain⟨cs,T,F,u,q2,W,R,y⟩:=J b G;obtain⟨r,g,t,O⟩:=N;have X:(off+a.length)*k≤es.length*k:=cu k l;rw[dN]at X
 obtain⟨w',cs',V,Q,I,f⟩:=nI (P:=P) b (off*k) T A.toList 0 cs w u (by simp[r];omega) (fun v U=>by
  obtain⟨p,B,rfl⟩:=cM.1 U;simp only[cR,r]at B;have H:0<k:=gw E;have C:p/k<a.length:=(kW H).2 B;have s:p%k<k:=Nat.mod_lt _ H;have:=t _ _ C s;have e:p/k*k+p%k=p:=by have:=pA p k;rw[iv]at this;omega
  rw[e]at this;rw[cO (by omega)]at this;simp only[jd];rw[dW this.1];exact this.2)
 have d:(es.take off++a++es.drop (off+a.length)).length=es.length:=by simp;omega
 have o:∀p,cs'[p]?=if off*k≤p∧p<off*k+a.length*k then A[p-off*k]? else cs[p]?:=fun p=>by
  rw[f p];simp only[eX,cR,r,fv]
 refine⟨w',V,D.setRow z G u Q I W E (Qz K m) (by rw[d];omega) (fun i j=>if off≤i∧i<off+a.length then g (i-off) j else F i j) (fun i j hi f=>?_) (fun i hi j f=>?_)⟩
 ·rw[d]at hi;rw[o];by_cases q:off≤i∧i<off+a.length
  ·rw[if_pos q];have S:i*k+j-off*k=(i-off)*k+j:=by rw[Nat.sub_mul];have:=cu k q.1;omega
   have Z:=rC (i:=i-off) (j:=j) (k:=k) (n:=a.length) (by omega) f;have Y:=cu k q.1;rw[if_pos ⟨by omega,by omega⟩,S];exact t (i-off) j (by omega) f
  rw[if_neg q,if_neg]
  ·exact R i j hi f
  rintro⟨b1,L⟩;rw[←Nat.add_mul]at L;apply q;constructor
  ·by_cases h:off≤i
   ·exact h
   have:(i+1)*k≤off*k:=cu k (by omega);rw[dN]at this;omega
  by_cases h:i<off+a.length
  ·exact h
  have:(off+a.length)*k≤i*k:=cu k (by omega);omega
 rw[d]at hi;by_cases C:i<off
 ·have e:(es.take off++a++es.drop (off+a.length))[i]'(by rw[d];exact hi)=es[i]:=by
   rw[cq (by simp;omega),cq (by simp;omega),dP]
  simp only[e]at f ⊢;rw[if_neg (by omega)];exact y i hi j f
 by_cases s:i<off+a.length
 ·have e:(es.take off++a++es.drop (off+a.length))[i]'(by rw[d];exact hi)=a[i-off]'(by omega):=by
   rw[cq (by simp;omega),cP (by simp;omega)];have:i-(es.take off).length=i-off:=by rw[cY,eN (by omega)]
   simp only[this]
  simp only[e]at f ⊢;rw[if_pos ⟨by omega,s⟩];exact O (i-off) (by omega) j f
 have e:(es.take off++a++es.drop (off+a.length))[i]'(by rw[d];exact hi)=es[i]:=by
  rw[cP (by simp;omega)];simp only[eG];congr 1;simp;omega
 simp only[e]at f ⊢;rw[if_neg (by omega)];exact y i hi j f
theorem ald{c:dk}{σ t:aw}(o:fd M w c σ){x zero:aq}{G:Value}(v:R M w c x G)(h:Zm σ zero x=some t){T ty e:TypeId}(u:P.underlying T=some (.slice e))(J:rH M P e zero=true) :
  ∃cv w',(Builtin.clear_ #[T] ty #[G]).run P w=.ok cv w'∧fd M w' c t∧iR c w c w':=by
 obtain⟨i,z,_,_,U,K⟩:=sm J;have B:R M w c zero z:=tB K;unfold Zm at h;split at h
 ·rename_i id ep off n;split at h
  ·rename_i k E es r;split at h
   ·rename_i O;obtain⟨rfl,q,C⟩:=O;cases h;obtain⟨W,_⟩:=o.obj id _ r;rcases sl_inv o v r with⟨rfl,a,cap,rfl⟩|⟨b,cap,V,rfl⟩
    ·have l:es.take off++List.replicate 0 zero++es.drop (off+0)=es:=by simp
     have p:σ.set id (.arr k E es)=σ:=by
      apply fb;intro j;rw[dw];split
      ·rename_i d;subst d;split
       ·exact r.symm
       rename_i f;rw[fU (by omega)]
      rfl
     rw[l,p];refine⟨.tuple #[],w,?_,o,.refl c w⟩;cases a<;>simp[Builtin.clear_,run_underlying u]
    by_cases D:n=0
    ·subst D;have l:es.take off++List.replicate 0 zero++es.drop (off+0)=es:=by simp
     have p:σ.set id (.arr k E es)=σ:=by
      apply fb;intro j;rw[dw];split
      ·rename_i d;subst d;split
       ·exact r.symm
       rename_i f;rw[fU (by omega)]
      rfl
     rw[l,p];refine⟨.tuple #[],w,?_,o,.refl c w⟩;simp[Builtin.clear_,run_underlying u]
    obtain⟨g,F,Q,y⟩:=tO B (by omega);have L:pz M w c k (List.replicate n zero) (Builtin.zeroCells z.cells n):=by
     have s:z.cells.size=k:=by omega
     refine⟨by simp[Builtin.zeroCells,s],fun _ j=>g j,fun i j hi d=>?_,fun i hi j d=>?_⟩
     ·have A:i<n:=by simpa using hi
      have f:=rC A d;have l:(i*k+j)%k=j:=by rw[iv,mc,ly d]
      have p:=y j (by omega);have I:z.cells[j]! = g j:=by rw[getElem!_def,p]
      refine⟨?_,F.one j (by omega)⟩;simp[Builtin.zeroCells,s,f,l,I]
     have l:(List.replicate n zero)[i]=zero:=kD ..;simp only[l]at d ⊢;exact F.rel j d
    obtain⟨w',S,H,N⟩:=o.lay (P:=P) (off:=off) r V L (fun x v=>by rw[(List.mem_replicate.1 v).2];exact C) (by simpa using q);simp only[List.length_replicate]at H;refine⟨.tuple #[],w',?_,H,N⟩;obtain⟨m,rfl⟩:=Nat.exists_eq_succ_of_ne_zero D;simp[Builtin.clear_,run_underlying u,U,S]
   cases h
  cases h
 ·cases h;cases v with|@ai _ a=>
  refine⟨.tuple #[],w,?_,o,.refl c w⟩;cases a<;>simp[Builtin.clear_,run_underlying u]
 cases h
theorem Wz{a:Addr}{v:Value}{b:World}(h:(load a).run P w=.ok v b):b=w:=by
 rw[run_load]at h;split at h
 ·cases h;rfl
 split at h<;>cases h;rfl
theorem EZ(a:Addr):∀(n i:Nat) (b arr:Array Value) (w':World),(loadCellsFrom a i n b).run P w=.ok arr w' →
  ∃l:List Value,l.length=n∧arr=b++l.toArray∧∀j v,l[j]?=some v→(load (a.add (i+j))).run P w=.ok v w
 |0,i,b,arr,w',h=>by
  simp[loadCellsFrom]at h;exact⟨[],rfl,by simp[h.1],by simp⟩
 |n+1,i,b,arr,w',h=>by
  unfold loadCellsFrom at h;rw[Sem.run_bind]at h;cases hr:(load (a.add i)).run P w with
  |halt m g=>
   rw[hr]at h;cases h
  |ok v g=>
   have e:g=w:=Wz hr;rw[e]at hr;rw[hr]at h;obtain⟨l,k,d,c⟩:=EZ a n (i+1) (b.push v) arr w' h;refine⟨v::l,by simp[k],by simp[d],?_⟩;intro j u f;cases j with
   |zero=>
    simp at f;subst f;simpa using hr
   |succ j=>
    have:=c j u (by simpa using f);rw[show i+(j+1)=i+1+j by omega];exact this
theorem abJ{a:Addr}{n m:Nat}(x:m≤n){A:Array Value}{w':World}(h:(loadCells a n).run P w=.ok A w'):(loadCells a m).run P w=.ok (A.extract 0 m) w:=by
 obtain⟨l,y,t,k⟩:=EZ a n 0 #[] A w' h;have e:A.extract 0 m=(l.take m).toArray:=by
  rw[t];apply Array.ext';simp
 rw[e];have f:(l.take m).length=m:=by rw[cY];omega
 have key:∀(q i:Nat) (b:Array Value) (c:List Value),c.length=q→(∀j v,c[j]?=some v→(load (a.add (i+j))).run P w=.ok v w)→(loadCellsFrom a i q b).run P w=.ok (b++c.toArray) w:=by
  intro q;induction q with
  |zero=>intro i b c g _;simp[loadCellsFrom,da g]
  |succ q s=>
   intro i b c g p
   match c,g with
   |v::r,g=>
    have o:=p 0 v rfl;simp only[eX]at o;simp only[loadCellsFrom,Sem.run_bind,o,Result.andThen]
    rw[s (i+1) (b.push v) r (by simpa using g) (fun j u d=>by
     have:=p (j+1) u (by simpa using d)
     rwa [show i+(j+1)=i+1+j by omega]at this)]
    congr 1;apply Array.ext';simp
 have:=key m 0 #[] (l.take m) f (fun j v d=>k j v (by
  rw[gu]at d;split at d
  ·exact d
  cases d))
 simpa [loadCells] using this
theorem TA{c:dk}{σ:aw}(t:fd M w c σ){y:aq}{cy:Value}(z:R M w c y cy){n:Nat}{m:List aq}(h:Ku σ n y=some m)(C:m.length≤n){k:Nat}(I:k≠0)(g:∀x∈m,aM x=k) :
  ∃L,Nat.min L n=m.length∧(∀w',(Builtin.lenOf cy).run P w'=.ok L w')∧∃A,pz M w c k m A∧∀w',w'.heap=w.heap→(Builtin.firstCells k m.length cy).run P w'=.ok A w':=by
 unfold Ku at h;split at h
 ·rename_i id ep off len;obtain⟨l,J,rfl⟩:=aQ.1 h;have d:=J;simp only[rd,sliceAt]at d;split at d
  ·rename_i q e es G;split at d
   ·rename_i V;obtain⟨rfl,F⟩:=V;cases d;have r:((es.drop off).take len).length=len:=by simp;omega
    rcases sl_inv t z G with⟨rfl,a,cap,rfl⟩|⟨b,cap,W,rfl⟩
    ·refine⟨0,by simp,fun w'=>rfl,#[],by simpa using pz.nil,fun w' _=>?_⟩;cases a<;>simp[Builtin.firstCells,loadCells,loadCellsFrom]
    refine⟨len,by rw[cY,r];exact Nat.min_comm ..,fun w'=>rfl,?_⟩;by_cases H:((es.drop off).take len).take n=[]
    ·rw[H];exact⟨#[],pz.nil,fun w' _=>by simp[Builtin.firstCells,loadCells,loadCellsFrom]⟩
    obtain⟨_,E,_⟩:=t.obj id _ G;have B:q=k:=by
     obtain⟨x,u⟩:=gB _ H;rw[←g x u];exact (E x (ej (cT (cT u)))).symm
    subst B;obtain⟨_,A,⟨K,f,D,O⟩,s⟩:=adh (P:=P) t z J I (fun x u=>E x (ej (cT u)));have o:(((es.drop off).take len).take n).length≤len:=by simp only[cY,ju];omega
    rw[r]at K D s;have v:(((es.drop off).take len).take n).length*q≤len*q:=cu q o;refine⟨A.extract 0 ((((es.drop off).take len).take n).length*q),⟨by rw[Array.size_extract];omega,f,fun i j hi p=>?_,fun i hi j p=>?_⟩,fun w' S=>abJ v (s w' S)⟩
    ·have T:=rC (n:=(((es.drop off).take len).take n).length) hi p;have:=D i j (by omega) p;refine⟨?_,this.2⟩;rw[oV,if_pos (by omega),cE];exact this.1
    have U:(((es.drop off).take len).take n)[i]=((es.drop off).take len)[i]'(by omega):=dP ..;simp only[U]at p ⊢;exact O i (by omega) j p
   cases d
  cases d
 obtain⟨N,A,Q,s⟩:=adh (P:=P) t z h I g;exact⟨m.length,eN C,N,A,Q,s⟩
theorem Hn{T U ty e:TypeId}{k:Nat}(f:P.underlying T=some (.slice e))(g:(P.info? e).map (·.size)=some k){a:Option Addr}{n cap L m:Nat}{cy:Value}{A:Array Value}{w':World}(i:(Builtin.lenOf cy).run P w=.ok L w)(h:Nat.min L n=m)(d:(Builtin.firstCells k m cy).run P w=.ok A w)
  (c:∀b,a=some b→(storeCells b A.toList).run P w=.ok () w') (j:a=none→w'=w):(Builtin.copy_ #[T,U] ty #[.slice a n cap,cy]).run P w=.ok (.int .i64 m) w':=by
 cases a with
 |none=>obtain rfl:=j rfl;simp[Builtin.copy_,run_underlying f,i,h,gi g,d,goInt]
 |some b=>have:=c b rfl;simp[Builtin.copy_,run_underlying f,i,h,gi g,d,this,goInt]
theorem ahq{c:dk}{σ V:aw}(C:fd M w c σ){x y:aq}{cx cy:Value}(hx:R M w c x cx)(z:R M w c y cy){f:List aq}(N:Ku σ (acJ x) y=some f){k:Nat}(h:NZ σ k f x=some V){T U ty e:TypeId}(hT:P.underlying T=some (.slice e))(hk:(P.info? e).map (·.size)=some k) :
  ∃w',(Builtin.copy_ #[T,U] ty #[cx,cy]).run P w=.ok (.int .i64 (f.length:Int)) w'∧fd M w' c V∧iR c w c w':=by
 unfold NZ at h;split at h
 ·rename_i id ep i off n;split at h
  ·rename_i d e' es H;split at h
   ·rename_i hc;obtain⟨rfl,rfl,K,r⟩:=hc;simp only[aK]at h;obtain⟨q,ah,h⟩:=h;split at h
    ·rename_i ag;obtain⟨aj,W⟩:=ag;cases h;have hH:c.H id=.arr d e':=by rw[C.H,fe H]
     obtain⟨b,hb,rfl⟩:∃b,c.place id=some b∧cx=.slice (some ⟨b,i*d+off,none⟩) n n:=by
      cases hx with
      |asl h1 I h3=>rw[hH]at I;cases I;exact⟨_,h3,rfl⟩
      |aslOld h1 I=>exact absurd (I _ _ hH) (dI _)
     have t:∀y∈f,aM y=1∧isAgg y=false:=fun y z=>by
      have:=aY.1 r y z;simpa using this
     obtain⟨L,Y,Z,A,⟨a1,g,a2,a3⟩,r3⟩:=TA (P:=P) C z N K (k:=1) (by omega) (fun y z=>(t y z).1);obtain⟨o1,o2,o3,o4⟩:=C.obj id _ H;obtain⟨cs,T',F,q1,q2,q3,q4,q5⟩:=o4 b hb;obtain⟨hi,J⟩:=ak.1 ah;have an:aM q=d:=by rw[←J];exact o2 _ (aJ _)
     have ar:=pO (v:=q) (by omega);have al:i*d+d≤es.length*d:=by have:(i+1)*d≤es.length*d:=cu d hi;rwa [dN,Nat.one_mul]at this
     obtain⟨w',cs',hr,hw,hz,hj⟩:=nI (P:=P) b (i*d+off) T' A.toList 0 cs w q1 (by simp[a1];omega) (fun v hv=>by
      obtain⟨p,hp,rfl⟩:=cM.1 hv;simp only[cR,a1,kj]at hp;have:=a2 p 0 hp (by omega);rw[kj,eX,cO (by omega)]at this;simp only[jd];rw[dW this.1];exact this.2)
     have Q:∀p,cs'[p]?=if i*d+off≤p∧p<i*d+off+f.length then A[p-(i*d+off)]? else cs[p]?:=fun p=>by
      rw[hj p];simp only[eX,cR,a1,fv,kj]
     have X:((cellsOf q).take off++f++(cellsOf q).drop (off+f.length)).length=d:=by simp;omega
     have G:=C.setRow (es':=es.set i (.agg ((cellsOf q).take off++f++(cellsOf q).drop (off+f.length)))) H hb q1 hw hz q3 o1 (fun y z=>by
       rcases eV z with h|h
       ·exact o2 y h
       ·rw[h];exact X) (by simpa using q2) (fun l j=>if l=i∧off≤j∧j<off+f.length then g (j-off) 0 else F l j) (fun l j s o=>by
       simp only[gj]at s;rw[Q];by_cases m:l=i
       ·subst m;by_cases S:off≤j∧j<off+f.length
        ·rw[if_pos ⟨by omega,by omega⟩,if_pos ⟨rfl,S⟩];have B:l * d+j-(l * d+off)=(j-off)*1+0:=by omega
         rw[B];exact a2 (j-off) 0 (by omega) (by omega)
        rw[if_neg (by omega),if_neg (fun h=>S h.2)];exact q4 l j s o
       have ab:¬(i*d+off≤l * d+j∧l * d+j<i*d+off+f.length):=by
        rintro⟨b1,b2⟩;rcases Nat.lt_or_gt_of_ne m with h|h
        ·have:(l+1)*d≤i*d:=cu d h;rw[dN]at this;omega
        have:(i+1)*d≤l * d:=cu d h;rw[dN]at this;omega
       rw[if_neg ab,if_neg (fun h=>m h.1)];exact q4 l j s o)
      (fun l s j o=>by
       have ae:l < es.length:=by simpa using s
       by_cases m:l=i
       ·subst m;have e0:∀L,cellsOf (.agg L)=L:=fun _=>rfl;simp only[iL,e0]at o ⊢;rw[X]at o;have E:∀(h:j<(cellsOf q).length),R M w c (cellsOf q)[j] (F l j):=fun h=>by
         have:=q5 l hi j (by rw[J];exact h);simp only[J]at this;exact this
        by_cases h1:j<off
        ·rw[if_neg (by omega),cq (by simp;omega),cq (by simp;omega),dP];exact E (by omega)
        by_cases I:j<off+f.length
        ·rw[if_pos ⟨trivial,by omega,I⟩,cq (by simp;omega),cP (by simp;omega)];have B:j-((cellsOf q).take off).length=j-off:=by rw[cY,eN (by omega)]
         simp only[B];have O:=t _ (aJ (show j-off<f.length by omega));have:=a3 (j-off) (by omega) 0 (by rw[ro O.2];simp);simpa [ro O.2] using this
        rw[if_neg (by omega),cP (by simp;omega)];simp only[eG];have B:off+f.length+(j-((cellsOf q).take off++f).length)=j:=by simp;omega
        simp only[B];exact E (by omega)
       have B:(es.set i (.agg ((cellsOf q).take off++f++(cellsOf q).drop (off+f.length))))[l]=es[l]:=by rw[gV (fun h=>m h.symm)]
       simp only[B]at o ⊢;rw[if_neg (fun h=>m h.1)];exact q5 l ae j o)
     exact⟨w',Hn hT hk (Z w) Y (r3 w rfl) (fun b' D=>by cases D;exact hr) (fun h=>by cases h),G.1,G.2⟩
    cases h
   cases h
  cases h
 ·rename_i id ep off n;split at h
  ·rename_i d e' es H;split at h
   ·rename_i hc;obtain⟨rfl,rfl,K,W,r⟩:=hc;cases h;obtain⟨o1,_⟩:=C.obj id _ H;have u:∀y∈f,aM y=d:=fun y z=>by simpa using aY.1 r y z
    obtain⟨L,Y,Z,A,hA,r3⟩:=TA (P:=P) C z N K o1 u;rcases sl_inv C hx H with⟨rfl,a,cap,rfl⟩|⟨b,cap,hb,rfl⟩
    ·have ad:f=[]:=da (by omega);subst ad;have B:es.take off++[]++es.drop (off+([]:List aq).length)=es:=by simp
     have e2:σ.set id (.arr d e' es)=σ:=by
      apply fb;intro j;rw[dw];split
      ·rename_i hj;subst hj;split
       ·exact H.symm
       rename_i ao;rw[fU (by omega)]
      rfl
     rw[B,e2];have af:A=#[]:=by have:=hA.1;simp at this;exact this
     subst af;exact⟨w,Hn hT hk (Z w) Y (r3 w rfl) (fun b' D=>by simp[storeCells]) (fun _=>rfl),C,.refl c w⟩
    obtain⟨w',h1,I,h3⟩:=C.lay (P:=P) (off:=off) H hb hA u (by omega);exact⟨w',Hn hT hk (Z w) Y (r3 w rfl) (fun b' D=>by cases D;exact h1) (fun h=>by cases h),I,h3⟩
   cases h
  cases h
 cases h
end Go.AM
namespace Go.AM
variable {M:dm} {w:World} {P:Program}
theorem Ic:∀{ks:List Nat} {a b:List aq},eR ks a b=some true→a.length=ks.length→b.length=ks.length→a=b
 |[],[],[],_,_,_=>rfl
 |[],_::_,_,_,h,_=>by simp at h
 |[],[],_::_,_,_,h=>by simp at h
 |k::ks,[],_,_,h,_=>by simp at h
 |k::ks,_::_,[],_,_,h=>by simp at h
 |k::ks,x::a,y::b,h,c,d=>by
  simp only[eR]at h;split at h
  ·cases hc:lX x y with
   |none=>rw[hc]at h;cases h
   |some t=>
    rw[hc]at h;cases t with
    |false=>simp at h
    |true=>
     simp only[cH,cw]at h;rw[Fz hc,Ic h (by simpa using c) (by simpa using d)]
  cases h
theorem zh{ks:List Nat}{k:aq}(h:g9 ks k=true):ma k=true:=by
 cases k<;>simp_all[g9,ma]
theorem Kl{ks:List Nat}{k e:aq}(d:g9 ks k=true)(h:oZ ks k e=some true):k=e:=by
 unfold oZ at h;split at h
 ·rename_i c;split at h
  ·simp only[aL,aX]at h;rw[h]
  ·rename_i a b;simp only[g9,ax,aX]at d c;rw[Ic h (by rw[←d.1.2];simp) (by rw[←c.1.2];simp)]
  cases h
 cases h
theorem DZ{c:dk}{k:aq}{x y:Value}(d:R M w c k x)(b:R M w c k y)(h:oS k=true):x=y:=by
 cases k<;>simp[oS]at h<;>cases d<;>cases b
 ·rfl
 ·rfl
 rename_i t f a e;have:t.data=a.data:=by apply Array.toList_inj.1;rw[f,e]
 have:t=a:=by cases t;cases a;simp_all
 rw[this]
theorem Vk{c:dk}{k:aq}{x y:Value}(b:R M w c k x)(a:R M w c k y)(h:ma k=true):x=y:=by
 cases k with
 |int=>exact DZ b a rfl
 |str=>exact DZ b a rfl
 |agg cs=>
  simp only[ma,aY]at h;cases b with|agg f n j o d=>cases a with|agg g p l m e=>
  congr 1;apply eO;intro i;by_cases hi:i<cs.length
  ·rw[(j i hi).1,(l i hi).1,DZ (d i hi) (e i hi) (h _ (aJ hi))]
  rw[dr (by omega),dr (by omega)]
 |_=>simp[ma]at h
theorem Ba{c:dk}{k:aq}{x:Value}(a:R M w c k x)(h:oS k=true)(n:Nat):Instr.sameBits n x x=true:=by
 cases k<;>simp[oS]at h<;>cases a<;>cases n<;>first|(simp[Instr.sameBits];done)|(simp only[Instr.sameBits];rw[Kz];simp)
theorem X7{c:dk}{k:aq}{x:Value}(d:R M w c k x)(h:ma k=true):Instr.sameBits 10000 x x=true:=by
 cases k with
 |int=>exact Ba d rfl _
 |str=>exact Ba d rfl _
 |agg cs=>
  simp only[ma,aY]at h;cases d with|@agg _ _ vs f n m o g=>
  simp only[Instr.sameBits,ez,eu,aY];rintro⟨p,q⟩ l;obtain⟨i,hi,b⟩:=cM.1 l;simp only[List.getElem_zip,dZ]at b;obtain⟨rfl,rfl⟩:=b;have a:i<cs.length:=by simp at hi;omega
  have e:=(m i a).1;rw[cO (by omega)]at e;have j:vs.toList[i]'(by simp;omega)=f i:=by simpa using e
  rw[j];exact Ba (g i a) (h _ (aJ a)) _
 |_=>simp[ma]at h
def ri(P:Program)(T:TypeId)(ks:List Nat):Bool:=match ks with
 |[]=>(match P.underlying T with|some .string=>true|_=>false)
 |ks=>(match P.underlying T with|some (.struct fs)=>!P.stoodInHeld T&&nK P 0 fs.toList ks|_=>false)
theorem QX{e:Bool}{n:Nat}{T:TypeId}{k:Nat}(h:rF P T k=true)(v:Value):(Instr.checkKey e (n+1) T v).run P w=.ok () w:=by
 unfold rF at h;simp only[ax]at h;have a:=h.2;unfold Instr.checkKey;cases hd:P.underlying T with
 |none=>rw[hd]at a;cases a
 |some d=>
  simp only[Sem.run_bind,run_underlying hd,Result.andThen_ok];rw[hd]at a;cases d<;>first|(simp at a;done)|(cases v<;>rfl)
theorem FO{c:dk}{e:Bool}{n:Nat}{cs:Array Value}:∀{fs:List Field} {ks:List Nat} {i:Nat} {x:List aq},nK P i fs ks=true→gm M w c i x cs→x.length=ks.length →
  (forIn (m:=Sem) fs PUnit.unit fun f _=>(if f.name ≠ "_" then do (Instr.checkKey e (n+1) f.type (← part f.type cs f.offset));pure (.yield PUnit.unit) else pure (.yield PUnit.unit))).run P w=.ok PUnit.unit w
 |[],[],_,_,_,_,_=>rfl
 |[],_::_,_,_,h,_,_=>by simp[nK]at h
 |_::_,[],_,_,h,_,_=>by simp[nK]at h
 |f::fs,k::ks,i,[],_,_,h=>by simp at h
 |f::fs,k::ks,i,a::x,h,hx,hl=>by
  simp only[nK,ax,gT,aX]at h;obtain⟨⟨⟨f1,f2⟩,f3⟩,f4⟩:=h;have hty:uh P f.type false 1=true:=by unfold rF at f3;simp only[ax]at f3;exact f3.1
  obtain⟨v1,p1,r1⟩:=hx.head;subst f2;simp only[List.forIn_cons,ne_eq,f1,kO,cw,Sem.run_bind,rA hty p1,Result.andThen_ok,QX f3,Sem.run_pure];exact FO f4 hx.tail (by simpa using hl)
theorem AZ{c:dk}{ks:List Nat}{k:aq}{ck:Value}(i:R M w c k ck)(b:g9 ks k=true){T:TypeId}(a:ri P T ks=true)(e:Bool):(Instr.checkKey e 10000 T ck).run P w=.ok () w:=by
 cases k with
 |str s=>
  have h:ks=[]:=by simpa [g9] using b
  subst h;unfold ri at a;simp only at a;cases hd:P.underlying T with
  |none=>rw[hd]at a;cases a
  |some d=>
   rw[hd]at a;cases i;unfold Instr.checkKey;simp only[Sem.run_bind,run_underlying hd,Result.andThen_ok];cases d<;>first|(simp at a;done)|rfl
 |agg cs=>
  simp only[g9,ax,gT,aX]at b;obtain⟨⟨l,j⟩,t⟩:=b;unfold ri at a;split at a
  ·exact absurd rfl l
  split at a
  ·rename_i fs g;simp only[ax]at a;cases i with|@agg _ _ vs f p q m o=>
   have r:nM M w c cs vs:=R.rcells (.agg f p q m o);have:=FO (P:=P) (M:=M) (w:=w) (e:=e) (n:=9998) a.2 r.from (by rw[←j];simp);unfold Instr.checkKey;simp only[Sem.run_bind,run_underlying g,Result.andThen_ok];rw[←Array.forIn_toList]
   first|exact this|(simp only[Sem.run_bind,this,Result.andThen_ok];rfl)
  cases a
 |_=>simp[g9]at b
theorem vE{c:dk}{ks:List Nat}{k e:aq}{ck o:Value}(D:R M w c k ck)(A:R M w c e o){t:Bool}(h:oZ ks k e=some t)(n:ks≠[]){T:TypeId}(d:ri P T ks=true):(Op.equal T ck o).run P w=.ok t w:=by
 unfold oZ at h;split at h
 ·rename_i p;split at h
  ·simp[g9]at p;exact absurd p n
  ·rename_i a b;unfold ri at d;split at d
   ·exact absurd rfl n
   split at d
   ·rename_i fs g;simp only[ax]at d;have l:P.stoodInHeld T=false:=by simpa using d.1
    have f:P.fieldsOf T=fs:=by unfold Program.fieldsOf;rw[g]
    cases D with|@agg _ _ xs v x q y r=>cases A with|@agg _ _ m B u s C z=>
    have j:nM M w c a xs:=R.rcells (.agg v x q y r);have i:nM M w c b m:=R.rcells (.agg B u s C z);show (Op.equalIn 10000 T (.agg xs) (.agg m)).run P w=_;rw[run_equalIn_struct w 9999 T xs m (by rw[f];exact g) l,f];exact Br 9998 _ fs.toList 0 a b t d.2 j.from i.from h
   cases d
  cases h
 cases h
theorem xL{c:dk}{k e:aq}{ck a:Value}(b:R M w c k ck)(d:R M w c e a){t:Bool}(h:oZ [] k e=some t):Instr.sameNow .string ck a=some t:=by
 unfold oZ at h;split at h
 ·rename_i i;split at h
  ·cases b with|str g=>cases d with|str f=>
   cases h;simp only[Instr.sameNow];rw[Kz,g,f]
  ·simp[g9]at i
  cases h
 cases h
theorem FD{c:dk}{k:aq}{ck:Value}(f:R M w c k ck):∀{es:List (aq×aq)} {en:List MapEntry} (n:Nat) {r:Option aq},kR M w c es en→dy [] k es=some r →
  (r=none∧Instr.findNow .string ck en n=some none)∨∃v i cv,r=some v∧Instr.findNow .string ck en n=some (some (i,cv))∧R M w c v cv
 |[],[],n,r,_,h=>by simp only[dy,aL]at h;exact .inl ⟨h.symm,rfl⟩
 |[],_::_,_,_,h,_=>by simp[kR]at h
 |_::_,[],_,_,h,_=>by simp[kR]at h
 |x::es,e::en,n,r,l,h=>by
  obtain⟨_,j,o⟩:=l.head;simp only[dy]at h;split at h
  ·rename_i g;have a:=xL f j g;cases h;exact .inr ⟨_,n,_,rfl,by simp[Instr.findNow,a],o⟩
  ·rename_i g;have a:=xL f j g;rcases FD f (n+1) l.tail h with⟨d,b⟩|⟨v,i,cv,d,b,m⟩
   ·exact .inl ⟨d,by simp[Instr.findNow,a,b]⟩
   exact .inr ⟨v,i,cv,d,by simp[Instr.findNow,a,b],m⟩
  cases h
theorem FL{c:dk}{ks:List Nat}(b:ks≠[]){T:TypeId}(g:ri P T ks=true){k:aq}{ck:Value}(j:R M w c k ck):∀{es:List (aq×aq)} {en:List MapEntry} (n:Nat) {r:Option aq},kR M w c es en→dy ks k es=some r →
  (r=none∧(Instr.findAsking T ck en n).run P w=.ok none w)∨∃v i cv,r=some v∧(Instr.findAsking T ck en n).run P w=.ok (some (i,cv)) w∧R M w c v cv
 |[],[],n,r,_,h=>by simp only[dy,aL]at h;exact .inl ⟨h.symm,rfl⟩
 |[],_::_,_,_,h,_=>by simp[kR]at h
 |_::_,[],_,_,h,_=>by simp[kR]at h
 |x::es,e::en,n,r,o,h=>by
  obtain⟨_,m,q⟩:=o.head;simp only[dy]at h;split at h
  ·rename_i l;have a:=vE j m l b g;cases h;exact .inr ⟨_,n,_,rfl,by simp[Instr.findAsking,a],q⟩
  ·rename_i l;have a:=vE j m l b g;rcases FL b g j (n+1) o.tail h with⟨f,d⟩|⟨v,i,cv,f,d,p⟩
   ·exact .inl ⟨f,by simp[Instr.findAsking,a,d]⟩
   exact .inr ⟨v,i,cv,f,by simp[Instr.findAsking,a,d],p⟩
  cases h
theorem Ah{T:TypeId}(a:ri P T []=true):P.underlying T=some .string:=by
 unfold ri at a;simp only at a;split at a
 ·assumption
 cases a
theorem vr{ks:List Nat}(c:ks≠[]){T:TypeId}(b:ri P T ks=true){ck:Value}{en:List MapEntry}{q:Option (Nat×Value)}(h:(Instr.findAsking T ck en 0).run P w=.ok q w):(Instr.findKey T ck en).run P w=.ok q w:=by
 unfold ri at b;split at b
 ·exact absurd rfl c
 split at b
 ·rename_i fs a;cases en with
  |nil=>
   simp only[Instr.findAsking,Sem.run_pure]at h;simp[Instr.findKey,run_underlying a,Instr.findNow,h]
  |cons e en=>
   have:Instr.findNow (.struct fs) ck (e::en) 0=none:=by
    unfold Instr.findNow;have:Instr.sameNow (.struct fs) ck e.key=none:=by cases ck<;>rfl
    rw[this]
   simp[Instr.findKey,run_underlying a,this,h]
 cases b
theorem KN{c:dk}{ks:List Nat}{T:TypeId}(d:ri P T ks=true){k:aq}{ck:Value}(g:R M w c k ck){es:List (aq×aq)}{en:List MapEntry}{r:Option aq}(j:kR M w c es en)(h:dy ks k es=some r) :
  (r=none∧(Instr.findKey T ck en).run P w=.ok none w)∨∃v i cv,r=some v∧(Instr.findKey T ck en).run P w=.ok (some (i,cv)) w∧R M w c v cv:=by
 by_cases e:ks=[]
 ·subst e;rcases FD g 0 j h with⟨b,a⟩|⟨v,i,cv,b,a,f⟩
  ·exact .inl ⟨b,kL (Ah d) a⟩
  exact .inr ⟨v,i,cv,b,kL (Ah d) a,f⟩
 rcases FL e d g 0 j h with⟨b,a⟩|⟨v,i,cv,b,a,f⟩
 ·exact .inl ⟨b,vr e d a⟩
 exact .inr ⟨v,i,cv,b,vr e d a,f⟩
theorem aci{c:dk}{σ:aw}(I:fd M w c σ){ks:List Nat}{m k:aq}{C ck:Value}(J:R M w c m C)(q:R M w c k ck)(o:g9 ks k=true){es:List (aq×aq)}(h:yw σ m=some es){r:Option aq}(s:dy ks k es=some r)
  {T p u:TypeId} (n:P.underlying T=some (.map p u)) (a:ri P p ks=true) {zero:aq} (D:rH M P u zero=true) (ok:Bool) :
  ∃cv,(Instr.lookup T C ck ok).run P w=.ok cv w∧R M w c (if ok then .tup [r.getD zero,.bool r.isSome] else r.getD zero) cv:=by
 obtain⟨i,z,_,_,y,E⟩:=sm D;have l:R M w c zero z:=tB E;have d:∀(x:aq) (j:Value) (t:Bool),R M w c x j→R M w c (if ok then .tup [x,.bool t] else x) (if ok then .tuple #[j,.bool t] else j):=fun x j t A=>by
  cases ok with
  |false=>exact A
  |true=>
   refine .tup (fun i=>if i=0 then j else .bool t) rfl (fun i hi=>?_) (fun i hi=>?_)
   ·simp at hi;have:i=0∨i=1:=by omega
    rcases this with rfl|rfl<;>rfl
   simp at hi;have:i=0∨i=1:=by omega
   rcases this with rfl|rfl
   ·exact A
   exact .bool
 have f:=fun e=>AZ (P:=P) q o a e;rcases Tu I J h with⟨rfl,rfl⟩|⟨b,en,K,rfl,B,G⟩
 ·simp only[dy,aL]at s;subst s;have H:(Instr.findKey p ck []).run P w=.ok none w:=by
   rcases KN (es:=[]) (en:=[]) (r:=none) a q ⟨rfl,fun i hi=>absurd hi (by simp)⟩ rfl with⟨_,g⟩|⟨_,_,_,g,_⟩
   ·exact g
   cases g
  refine⟨_,?_,d zero z false l⟩;simp[Instr.lookup,run_underlying n,f,H,y]
 rcases KN a q G s with⟨rfl,g⟩|⟨v,i,cv,rfl,g,F⟩
 ·refine⟨_,?_,d zero z false l⟩;simp[Instr.lookup,run_underlying n,nR B,f,g,y]
 refine⟨_,?_,d v cv true F⟩;simp[Instr.lookup,run_underlying n,nR B,f,g]
theorem KK{c:dk}{k v:aq}{ck cv:Value}(g:R M w c k ck)(u:R M w c v cv)(b:g9 [] k=true)(a:Nat):∀{es:List (aq×aq)} {en:List MapEntry} (n:Nat) {es':List (aq×aq)},kR M w c es en→rc [] k v es=some es' →
  (Instr.findNow .string ck en n=some none∧kR M w c es' (en++[{ key:=ck,val:=cv,born:=a }])) ∨
  ∃i e d,Instr.findNow .string ck en n=some (some (n+i,d))∧en[i]?=some e∧e.key=ck∧kR M w c es' (en.set i { e with key:=ck,val:=cv })
 |[],[],n,_,_,h=>by
  simp only[rc,aL]at h;subst h;refine .inl ⟨rfl,rfl,fun i hi=>?_⟩;have:i=0:=by simp at hi;exact hi
  subst this;exact⟨_,rfl,zh b,g,u⟩
 |[],_::_,_,_,h,_=>by simp[kR]at h
 |_::_,[],_,_,h,_=>by simp[kR]at h
 |x::es,e::en,n,es',o,h=>by
  obtain⟨y,q,D⟩:=o.head;simp only[rc]at h;split at h
  ·rename_i p;have m:=xL g q p;cases h;have A:=Kl b p;have l:e.key=ck:=Vk q (A▸g) y;refine .inr ⟨0,e,e.val,by simp[Instr.findNow,m],rfl,l,by simpa using o.1,fun i hi=>?_⟩;cases i with
   |zero=>exact⟨_,rfl,y,A▸g,u⟩
   |succ i=>
    have:=o.2 (i+1) (by simpa using hi);simpa only [mS,eT,eg] using this
  ·rename_i p;have m:=xL g q p;simp only[aQ]at h;obtain⟨j,t,rfl⟩:=h
   have cons:∀{f},kR M w c j f→kR M w c (x::j) (e::f):=fun {f} z=>⟨by simpa using z.1,fun i hi=>by
    cases i with
    |zero=>exact⟨_,rfl,y,q,D⟩
    |succ i=>
     have:=z.2 i (by simpa using hi);simpa only [eT,eg] using this⟩
   rcases KK g u b a (n+1) o.tail t with⟨s,r⟩|⟨i,B,d,s,r,E,C⟩
   ·exact .inl ⟨by simp[Instr.findNow,m,s],cons r⟩
   exact .inr ⟨i+1,B,d,by simp[Instr.findNow,m,s];omega,by simpa using r,E,by simpa using cons C⟩
  cases h
theorem KR{c:dk}{ks:List Nat}(r:ks≠[]){T:TypeId}(u:ri P T ks=true){k v:aq}{ck cv:Value}(g:R M w c k ck)(z:R M w c v cv)(b:g9 ks k=true)(a:Nat):∀{es:List (aq×aq)} {en:List MapEntry} (n:Nat) {es':List (aq×aq)},kR M w c es en→rc ks k v es=some es' →
  ((Instr.findAsking T ck en n).run P w=.ok none w∧kR M w c es' (en++[{ key:=ck,val:=cv,born:=a }])) ∨
  ∃i e d,(Instr.findAsking T ck en n).run P w=.ok (some (n+i,d)) w∧en[i]?=some e∧e.key=ck∧kR M w c es' (en.set i { e with key:=ck,val:=cv })
 |[],[],n,_,_,h=>by
  simp only[rc,aL]at h;subst h;refine .inl ⟨rfl,rfl,fun i hi=>?_⟩;have:i=0:=by simp at hi;exact hi
  subst this;exact⟨_,rfl,zh b,g,z⟩
 |[],_::_,_,_,h,_=>by simp[kR]at h
 |_::_,[],_,_,h,_=>by simp[kR]at h
 |x::es,e::en,n,es',o,h=>by
  obtain⟨A,q,F⟩:=o.head;simp only[rc]at h;split at h
  ·rename_i p;have m:=vE g q p r u;cases h;have C:=Kl b p;have l:e.key=ck:=Vk q (C▸g) A;refine .inr ⟨0,e,e.val,by simp[Instr.findAsking,m],rfl,l,by simpa using o.1,fun i hi=>?_⟩;cases i with
   |zero=>exact⟨_,rfl,A,C▸g,z⟩
   |succ i=>
    have:=o.2 (i+1) (by simpa using hi);simpa only [mS,eT,eg] using this
  ·rename_i p;have m:=vE g q p r u;simp only[aQ]at h;obtain⟨j,y,rfl⟩:=h
   have cons:∀{f},kR M w c j f→kR M w c (x::j) (e::f):=fun {f} B=>⟨by simpa using B.1,fun i hi=>by
    cases i with
    |zero=>exact⟨_,rfl,A,q,F⟩
    |succ i=>
     have:=B.2 i (by simpa using hi);simpa only [eT,eg] using this⟩
   rcases KR r u g z b a (n+1) o.tail y with⟨t,s⟩|⟨i,D,d,t,s,G,E⟩
   ·exact .inl ⟨by simp[Instr.findAsking,m,t],cons s⟩
   exact .inr ⟨i+1,D,d,by simp[Instr.findAsking,m,t];omega,by simpa using s,G,by simpa using cons E⟩
  cases h
theorem acK{c:dk}{ks:List Nat}{T:TypeId}(j:ri P T ks=true){k v:aq}{ck cv:Value}(p:R M w c k ck)(o:R M w c v cv)(g:g9 ks k=true)(a:Nat){es:List (aq×aq)}{en:List MapEntry}{es':List (aq×aq)}(q:kR M w c es en)(h:rc ks k v es=some es') :
  ((Instr.findKey T ck en).run P w=.ok none w∧kR M w c es' (en++[{ key:=ck,val:=cv,born:=a }])) ∨
  ∃i e b,(Instr.findKey T ck en).run P w=.ok (some (i,b)) w∧en[i]?=some e∧e.key=ck∧kR M w c es' (en.set i { e with key:=ck,val:=cv }):=by
 by_cases l:ks=[]
 ·subst l;rcases KK p o g a 0 q h with⟨f,d⟩|⟨i,e,b,f,d,n,m⟩
  ·exact .inl ⟨kL (Ah j) f,d⟩
  exact .inr ⟨i,e,b,kL (Ah j) (by simpa using f),d,n,m⟩
 rcases KR l j p o g a 0 q h with⟨f,d⟩|⟨i,e,b,f,d,n,m⟩
 ·exact .inl ⟨vr l j f,d⟩
 exact .inr ⟨i,e,b,vr l j (by simpa using f),d,n,m⟩
theorem T2{c:dk}{σ H:aw}(C:fd M w c σ){ks:List Nat}{m k v:aq}{cm ck cv:Value}(hm:R M w c m cm)(hk:R M w c k ck)(hv:R M w c v cv)(h:Iy ks σ k v m=some H)
  {T kt et:TypeId} (hT:P.underlying T=some (.map kt et)) (N:ri P kt ks=true) :
  ∃w',(Instr.mapUpdate T cm ck cv).run P w=.ok () w'∧fd M w' c H∧iR c w c w':=by
 unfold Iy at h;split at h
 ·rename_i id;simp only[aK]at h;obtain⟨es,W,Z⟩:=h;split at Z
  ·rename_i A;simp only[aQ]at Z;obtain⟨es',h3,rfl⟩:=Z;unfold ip at W;split at W
   ·rename_i ag O;cases W;obtain⟨b,D,en,f,g,L,V,q3,q4,q5,q6⟩:=C.obj id _ O;have hH:c.H id=.map:=by rw[C.H,fe O]
    have s:kR M w c es en.toList:=⟨by simpa using q3,fun i hi=>by
     obtain⟨e,q,J,I,S⟩:=q4 i hi;exact⟨e,by simpa using q,S.1,J▸q5 i hi,I▸q6 i hi⟩⟩
    have hB:∀e∈en.toList,e.born<D:=fun e s=>by
     obtain⟨i,hi,rfl⟩:=cM.1 s;obtain⟨e',q,_,_,_,e5⟩:=q4 i (by simpa [q3] using hi);rw[cO (by simpa using hi)]at q;cases q;simpa using e5
    have ae:cm=.map (some b):=by
     cases hm with
     |mp a1 a2 a3=>rw[L]at a3;cases a3;rfl
     |mpOld a0 a1 a2=>rw[hH]at a2;cases a2
    subst ae;have ad:=(ak.1 O).1;have U:∀(a:Array MapEntry) (d:Nat),kR M w c es' a.toList→(∀e∈a.toList,e.born<d)→(Instr.mapUpdate T (.map (some b)) ck cv).run P w=.ok () { w with heap:=w.heap.setIfInBounds b (.map a d) } →
      ∃w',(Instr.mapUpdate T (.map (some b)) ck cv).run P w=.ok () w'∧fd M w' c (σ.set id (.map es'))∧iR c w c w':=fun a d r af E=>by
     have n:uW w { w with heap:=w.heap.setIfInBounds b (.map a d) } b (.map a d):=⟨⟨rfl,rfl,rfl,aF _⟩,rfl⟩;have p:c.H id≠.dead:=by rw[hH];simp
     have B:=C.plow id b p L;have o:Ext c w c { w with heap:=w.heap.setIfInBounds b (.map a d) }:=⟨fun _ h=>h,fun _ h=>h,fun y hy=>by rw[n.get _ B.1,if_neg (fun e=>by subst e;exact B.2 (hy.elim (fun h=>h) (C.sb _)))],aF _,fun _ _=>.inl rfl,fun _ _ _ _=>⟨rfl,rfl,rfl⟩⟩;have Q:wA M { w with heap:=w.heap.setIfInBounds b (.map a d) } c id (.map es'):=by
      refine⟨b,d,a,fun i=>((a[i]?).map (·.key)).getD undef,fun i=>((a[i]?).map (·.val)).getD undef,L,by rw[n.get _ B.1,if_pos rfl],by simpa using r.1,fun i hi=>?_,fun i hi=>?_,fun i hi=>?_⟩
      ·obtain⟨e,q,J,I,S⟩:=r.2 i hi;have l:a[i]?=some e:=by simpa using q
       exact⟨e,l,by dsimp only;rw[l];rfl,by dsimp only;rw[l];rfl,J,af e (aN (by simpa using l))⟩
      ·obtain⟨e,q,J,I,S⟩:=r.2 i hi;have l:a[i]?=some e:=by simpa using q
       dsimp only;rw[l];exact I.ext o
      obtain⟨e,q,J,I,S⟩:=r.2 i hi;have l:a[i]?=some e:=by simpa using q
      dsimp only;rw[l];exact S.ext o
     obtain⟨F,_⟩:=C.setObj' O (by simp) (by rw[fe (aU ad),fe O]) L n Q;exact⟨_,E,F,iR.setB C p L n o⟩
    have G:=fun e=>AZ (P:=P) hk A N e;rcases acK N hk hv A D s h3 with⟨b1,Y⟩|⟨i,e,ah,b1,Y,b3,b4⟩
    ·refine U (en.push { key:=ck,val:=cv,born:=D }) (D+1) (by simpa using Y) (fun e s=>by
      simp only[Array.toList_push,ba,aP]at s;rcases s with s|rfl
      ·exact nU (hB e s)
      exact o7 _) ?_
     simp[Instr.mapUpdate,run_underlying hT,nR V,G,b1,xj _ V]
    have u:en[i]?=some e:=by simpa using Y
    have hi:i<en.size:=(bE.1 u).1;have ab:en[i]=e:=(bE.1 u).2;have t:(en.modify i fun e=>{ e with key:=ck,val:=cv }).toList=en.toList.set i { e with key:=ck,val:=cv }:=by
     apply fb;intro j;simp only[fv,gy,dw];by_cases K:i=j
     ·subst K;simp[hi,ab]
     simp[K]
    refine U (en.modify i fun e=>{ e with key:=ck,val:=cv }) D ?_ (fun x X=>by
     rw[t]at X;rcases eV X with X|rfl
     ·exact hB x X
     exact hB e (aN Y)) ?_
    ·rw[t];exact b4
    have z:(Instr.keyThatStays ck ck).run P w=.ok ck w:=by simp[Instr.keyThatStays,X7 hk (zh A)]
    simp[Instr.mapUpdate,run_underlying hT,nR V,G,b1,u,b3,z,xj _ V]
   cases W
  cases Z
 cases h
end Go.AM
namespace Go.AM
variable {M:dm} {w:World} {P:Program}
theorem FA:∀{d:List aq} {a:List UInt8},yR d=some a→∃b:List Int,d=b.map (aq.int .u8)∧a=b.map fun n=>UInt8.ofNat n.toNat
 |[],a,h=>by
  simp only[yR,aL]at h;exact⟨[],rfl,h.symm⟩
 |x::r,a,h=>by
  unfold yR at h;split at h
  ·rename_i c;cases c
  ·rename_i n g c;cases c;obtain⟨f,e,rfl⟩:=aQ.1 h;obtain⟨b,rfl,rfl⟩:=FA e;exact⟨n::b,rfl,rfl⟩
  cases h
theorem FW:∀(a:List Int) (s:ByteArray),(a.foldl (fun r n=>r.push (UInt8.ofNat n.toNat)) s).data.toList=s.data.toList++a.map fun n=>UInt8.ofNat n.toNat
 |[],s=>by simp
 |n::a,s=>by
  rw[dX,FW a];have:(s.push (UInt8.ofNat n.toNat)).data.toList=s.data.toList++[UInt8.ofNat n.toNat]:=by
   show (s.data.push _).toList=_;simp
  rw[this];simp
theorem akj{c:dk}{σ:aw}(E:fd M w c σ){x v:aq}{p:Value}(F:R M w c x p)(h:Xf σ x=some v){S T e:TypeId}(B:P.underlying S=some (.slice e))(C:P.underlying e=some (.int .u8))(z:P.underlying T=some .string) :
  ∃cv,(convert S T p).run P w=.ok cv w∧R M w c v cv:=by
 unfold Xf at h;split at h
 ·cases h
 rename_i s;obtain⟨Y,b,O⟩:=aK.1 h;obtain⟨Z,K,rfl⟩:=aQ.1 O;obtain⟨g,rfl,rfl⟩:=FA K;obtain⟨L,A,o,l⟩:=adh (P:=P) E F b (k:=1) (by omega) (fun y J=>by obtain⟨n,_,rfl⟩:=bK.1 J;rfl);have d:=L w;have r:=l w rfl;obtain⟨j,f,N,Q⟩:=o;cases p with
 |slice a len cap=>
  have u:len=g.length:=by simpa [Builtin.lenOf] using d
  subst u;cases a with
  |none=>
   simp only[Builtin.firstCells,Sem.run_pure,Result.ok.injEq,and_true]at r;subst r;have H:g=[]:=by
    apply da;simpa using j.symm
   subst H;exact⟨.string ByteArray.empty,run_convert_bytes_nil w S e B C _ _ _ z,.str rfl⟩
  |some a=>
   have u:(loadCells a g.length).run P w=.ok (g.map (Value.int .u8)).toArray w:=by
    have o:A=(g.map (Value.int .u8)).toArray:=by
     apply eO;intro i;by_cases hi:i<g.length
     ·have D:=(N i 0 (by simpa using hi) (by omega)).1;rw[kj,eX]at D;rw[D];have m:=Q i (by simpa using hi) 0 (by simp[cellsOf]);simp only[dn,cellsOf,cV]at m;generalize f i 0=q at m;cases m;simp[hi]
     have U:A.size=g.length:=by simpa using j
     rw[dr (by omega),dr (by simp;omega)]
    rw[←o];simpa [Builtin.firstCells] using r
   refine⟨_,(run_convert_bytes_string w S T e (some a) _ cap B C z).trans (run_bytesToString w a _ cap g u),.str ?_⟩;rw[FW];rfl
 |string t=>
  exfalso;cases F with
  |any=>simp[rd]at b
  |str h=>exact s _ rfl
  |slOld W V G=>
   simp only[rd]at b;unfold sliceAt at b;split at b
   ·rename_i I;split at b
    ·rename_i X;have:=G _ _ (by rw[E.H,fe I]);omega
    cases b
   cases b
  |ptrOld=>simp[rd]at b
  |aslOld=>simp[rd]at b
  |mpOld=>simp[rd]at b
  |yldOld=>simp[rd]at b
  |itOld=>simp[rd]at b
 |_=>simp[Builtin.lenOf,stuck]at d
end Go.AM
namespace Go.AM
section
variable (M:dm) (P:Program) (rs:Tmp→Option db)
def G8(o:Op)(ao:IK):Bool:=
 match o,ao with
 |.move x,.mov x'=>lZ M rs x x'
 |.assign x,.mov x'=>lZ M rs x x'
 |.assign (.const (.slice none 0 0)),.mknil k=>k != 0
 |.pick c a b,.pick c' a' b'=>lZ M rs c c'&&lZ M rs a a'&&lZ M rs b b'
 |.alloc T,.box k (.val z)=>Dn P T k&&rH M P T z
 |.box T x,.box k x'=>Dn P T k&&lZ M rs x x'
 |.build T parts,.build zero parts'=>rH M P T (.agg zero)&&(match P.underlying T with
   |some (.struct fs)=>(match fs.toList.mapM (fun f=>(P.info? f.type).map fun i=>(f.offset,i.size)) with
    |some places=>vy M rs (places.toArray[·]?) parts.toList parts'
    |none=>false)
   |some (.array _ e)=>(match P.info? e with
    |some ie=>vy M rs (fun i=>some (i*ie.size,ie.size)) parts.toList parts'
    |none=>false)
   |_=>false)
 |.buildSlice T len parts,.mkl k xs=>(match oB P T with
   |some e=>Dn P e k&&rQ P e k&&decide (len*k≤2^24)&&len != 0&&((parts.toList.map (·.1))==List.range len)&&ya M rs (parts.toList.map (·.2)) xs
   |none=>false)
 |.buildSlice T 0 parts,.mknil k=>(match oB P T with
   |some e=>Dn P e k&&parts.size==0
   |none=>false)
 |.makeSlice T l n,.make k zero l' n'=>(match oB P T with
   |some e=>Dn P e k&&rQ P e k&&rH M P e zero&&lZ M rs l l'&&lZ M rs n n'
   |none=>false)
 |.makeMap _ none,.mkmap=>true
 |.lookup T m k ok,.look zero ok' m' k'=>(match P.underlying T with
   |some (.map kt et)=>Bw P kt&&rH M P et zero&&ok==ok'&&lZ M rs m m'&&lZ M rs k k'
   |_=>false)
 |.mapUpdate T m k v,.mput m' k' v'=>(match P.underlying T with
   |some (.map kt _)=>Bw P kt&&lZ M rs m m'&&lZ M rs k k'&&lZ M rs v v'
   |_=>false)
 |.insert T m k v,.mput m' k' v'=>(match P.underlying T with
   |some (.map kt _)=>Bw P kt&&lZ M rs m m'&&lZ M rs k k'&&lZ M rs v v'
   |_=>false)
 |.load T x,.load a s x'=>uh P T a s&&lZ M rs x x'
 |.store T x v,.store s x' v'=>Dn P T s&&lZ M rs x x'&&lZ M rs v v'
 |.fieldAddr S x i,.fld off x'=>(match GR P S i with
   |some f=>f.offset==off&&(match (P.info? f.type).map (·.size) with|some n=>n != 0|none=>false)&&lZ M rs x x'
   |none=>false)
 |.field S x i,.fldv a s off x'=>(match GR P S i with
   |some f=>f.offset==off&&uh P f.type a s&&lZ M rs x x'
   |none=>false)
 |.indexAddr T x i,.idxs k x' i'=>(match oB P T with
   |some e=>Dn P e k&&lZ M rs x x'&&lZ M rs i i'
   |none=>false)
 |.indexAddr T x i,.idxa m s x' i'=>(match P.underlying T with
   |some (.array m' e)=>m==m'&&(P.info? e).map (·.size)==some s&&lZ M rs x x'&&lZ M rs i i'
   |_=>false)
 |.index T x i,.idxv a m s x' i'=>(match P.underlying T with
   |some (.array m' e)=>m==m'&&uh P e a s&&lZ M rs x x'&&lZ M rs i i'
   |_=>false)
 |.index T x i,.idxt x' i'=>Ih P T&&lZ M rs x x'&&lZ M rs i i'
 |.binOp op T x y _,.eqb n x' y'=>(op==if n then .neq else .eql)&&(match P.underlying T with|some .bool=>true|_=>false)&&lZ M rs x x'&&lZ M rs y y'
 |.binOp op T x y _,.eqa n ks x' y'=>(op==if n then .neq else .eql)&&abK P T ks&&lZ M rs x x'&&lZ M rs y y'
 |.binOp op _ x y _,.bin op' x' y'=>op==op'&&lZ M rs x x'&&lZ M rs y y'
 |.unOp op _ x,.una op' x'=>op==op'&&lZ M rs x x'
 |.convert S T x,.conv k x'=>Bw P S&&Vq P T k&&lZ M rs x x'
 |.slice T x lo hi none,.slice k x' lo' hi'=>(match oB P T with
   |some e=>Dn P e k&&lZ M rs x x'&&FK M rs lo lo'&&FK M rs hi hi'
   |none=>false)
 |.slice T x lo hi none,.slicet x' lo' hi'=>Ih P T&&lZ M rs x x'&&FK M rs lo lo'&&FK M rs hi hi'
 |.slice T x none none none,.aslice n x'=>(match P.underlying T with
   |some (.array m e)=>m==n&&n != 0&&(P.info? e).map (·.size)==some 1&&lZ M rs x x'
   |_=>false)
 |.extract x i,.ext i' x'=>i==i'&&lZ M rs x x'
 |.makeFunc (.func f) first cap,.mkfn n first' cap'=>M.fm n==f&&ya M rs first.toList first'&&ya M rs cap.toList cap'
 |.nilCheck x,.nilck x'=>lZ M rs x x'
 |.call c,.len x'=>(match c.callee,c.args.toList,c.argTypes.toList with
   |.builtin .len,[x],[T]=>(oB P T).isSome&&lZ M rs x x'
   |_,_,_=>false)
 |.call c,.lent x'=>(match c.callee,c.args.toList,c.argTypes.toList with
   |.builtin .len,[x],[T]=>Ih P T&&lZ M rs x x'
   |_,_,_=>false)
 |.call c,.app k x' y'=>(match c.callee,c.args.toList,c.argTypes.toList with
   |.builtin .append,[x,y],[T,U]=>(match oB P T with
    |some e=>Dn P e k&&rQ P e k&&abe P U&&lZ M rs x x'&&lZ M rs y y'
    |none=>false)
   |_,_,_=>false)
 |.call c,.cap x'=>(match c.callee,c.args.toList,c.argTypes.toList with
   |.builtin .cap,[x],[T]=>(oB P T).isSome&&lZ M rs x x'
   |_,_,_=>false)
 |.call c,.clr zero x'=>(match c.callee,c.args.toList,c.argTypes.toList with
   |.builtin .clear,[x],[T]=>(match oB P T with
    |some e=>rH M P e zero&&lZ M rs x x'
    |none=>false)
   |_,_,_=>false)
 |.call c,.copy k x' y'=>(match c.callee,c.args.toList,c.argTypes.toList with
   |.builtin .copy,[x,y],[T,_]=>(match oB P T with
    |some e=>Dn P e k&&lZ M rs x x'&&lZ M rs y y'
    |none=>false)
   |_,_,_=>false)
 |.call c,.mins x' xs'=>(match c.callee,c.args.toList with
   |.builtin .min,x::xs=>lZ M rs x x'&&ya M rs xs xs'
   |_,_=>false)
 |.call c,.maxs x' xs'=>(match c.callee,c.args.toList with
   |.builtin .max,x::xs=>lZ M rs x x'&&ya M rs xs xs'
   |_,_=>false)
 |.call c,.call n args _=>(match c.callee with
   |.value (.func f)=>M.fm n==f&&ya M rs c.args.toList args
   |_=>false)
 |.call c,.callv x' args=>(match c.callee with
   |.value x=>lZ M rs x x'&&ya M rs c.args.toList args
   |_=>false)
 |.binOp op T x (.const (.slice none 0 0)) _,.nils n x'=>(op==if n then .neq else .eql)&&(oB P T).isSome&&lZ M rs x x'
 |.buildSlice T 0 parts,.mov (.val .ai)=>(match oB P T with
   |some e=>(P.info? e).isSome&&parts.size==0
   |none=>false)
 |.call c,.appz k zero x' n'=>(match c.callee,c.args.toList,c.argTypes.toList with
   |.builtin .append,[x,n],[T,U]=>(match oB P T with
    |some e=>Dn P e k&&rQ P e k&&rH M P e zero&&Bw P U&&lZ M rs x x'&&lZ M rs n n'
    |none=>false)
   |_,_,_=>false)
 |.range T x,.rngs x'=>Ih P T&&lZ M rs x x'
 |.next x true,.nexts x'=>lZ M rs x x'
 |.lookup T m k ok,.lookk ks zero ok' m' k'=>(match P.underlying T with
   |some (.map kt et)=>ri P kt ks&&rH M P et zero&&ok==ok'&&lZ M rs m m'&&lZ M rs k k'
   |_=>false)
 |.mapUpdate T m k v,.mputk ks m' k' v'=>(match P.underlying T with
   |some (.map kt _)=>ri P kt ks&&lZ M rs m m'&&lZ M rs k k'&&lZ M rs v v'
   |_=>false)
 |.insert T m k v,.mputk ks m' k' v'=>(match P.underlying T with
   |some (.map kt _)=>ri P kt ks&&lZ M rs m m'&&lZ M rs k k'&&lZ M rs v v'
   |_=>false)
 |.convert S T x,.b2s x'=>(match oB P S with
   |some e=>Vq P e .u8&&Ih P T&&lZ M rs x x'
   |none=>false)
 |.buildSlice T len parts,.mksl k xs=>(match oB P T with
   |some e=>Dn P e k&&rQ P e k&&decide (len*k≤2^24)&&len != 0&&((parts.toList.map (·.1))==List.range len)&&ya M rs (parts.toList.map (·.2)) xs
   |none=>false)
 |_,.bad=>true
 |_,_=>false
end
variable {M:dm} {w:World} {P:Program} {rs:Tmp→Option db}
theorem Kx{c:dk}{env ls:List aq}{a:Act}(e:ot M w c env ls rs a.tmps)(f:kS M w c){place:Nat→Option (Nat×Nat)}:∀{b:List (Nat×Operand)} {qs:List (Nat×Nat×db)},vy M rs place b qs=true →
  b.length=qs.length∧∀i (h:i<b.length) (q:i<qs.length),place b[i].1=some (qs[i].1,qs[i].2.1)∧R M w c (qs[i].2.2.eval env ls) (a.eval b[i].2)
 |[],[],_=>⟨rfl,fun i h=>absurd h (by simp)⟩
 |[],_::_,h=>by simp[vy]at h
 |_::_,[],h=>by simp[vy]at h
 |(i,x)::b,(off,s,p)::qs,h=>by
  simp only[vy,ax,aX]at h;obtain⟨⟨k,o⟩,m⟩:=h;obtain⟨g,n⟩:=Kx e f m;refine⟨by simp[g],fun j l d=>?_⟩;cases j with
  |zero=>exact⟨k,Kt e f o⟩
  |succ j=>simpa using n j (by simpa using l) (by simpa using d)
theorem Di{c:dk}{env ls:List aq}{a:Act}(d:ot M w c env ls rs a.tmps)(e:kS M w c){xs:List Operand}{b:List db}(h:ya M rs xs b=true) :
  xs.length=b.length∧∀i (h:i<b.length),∃x,(xs.map a.eval)[i]?=some x∧R M w c (b[i].eval env ls) x:=by
 simp only[ya,ax,aX]at h;exact⟨h.1,Yq d e h.1 h.2⟩
theorem TF{c:dk}{env ls:List aq}{a:Act}(f:ot M w c env ls rs a.tmps)(g:kS M w c){x:Option Operand}{b:Option db}(h:FK M rs x b=true){d n:Nat}(e:opt env ls d b=some n) :
  (x.map a.eval=none∧n=d)∨∃k,x.map a.eval=some (.int k (n:Int)):=by
 cases x with
 |none=>cases b with
  |none=>simp only[opt,aL]at e;exact .inl ⟨rfl,e.symm⟩
  |some _=>simp[FK]at h
 |some x=>cases b with
  |none=>simp[FK]at h
  |some b=>
   simp only[FK]at h;obtain⟨k,i⟩:=vz (Kt f g h) e;exact .inr ⟨k,by rw[dK,i]⟩
theorem jF{ρ:Operand→Value}{c:Call}{ty:TypeId}{b:Builtin}(h:c.callee=.builtin b):(do let d ←Go.resolve ρ c ty;invoke d.target d.args:Sem Next)=builtin b c.argTypes ty (c.args.map fun|.const _=>true|_=>false) (c.args.map ρ):=by
 unfold Go.resolve;rw[h];rfl
theorem Vh{ρ:Operand→Value}{xs:Array Operand}{x:Operand}(h:xs.toList=[x]):xs.map ρ=#[ρ x]:=by
 cases xs with|mk l=>simp at h;subst h;simp
theorem Xc{ρ:Operand→Value}{xs:Array Operand}{x y:Operand}(h:xs.toList=[x,y]):xs.map ρ=#[ρ x,ρ y]:=by
 cases xs with|mk l=>simp at h;subst h;simp
theorem BO{a:Type}{xs:Array a}{l:List a}(h:xs.toList=l):xs=l.toArray:=by
 cases xs with|mk l=>simp at h;subst h;rfl
theorem akQ{c:dk}{x y v:aq}{f cy:Value}(j:R M w c x f)(i:R M w c y cy){op:BinOp}(h:bin op x y=some v){T:TypeId}(d g:Operand) :
  ∃cv,(do eqGuard op T d g f cy;binOp op T f cy:Sem Value).run P w=.ok cv w∧R M w c v cv:=by
 unfold bin at h;split at h
 ·rename_i k a q b;cases j;cases i;simp only[Sem.run_bind,vf op T d g (.inl ⟨k,a,rfl⟩),Result.andThen_ok];split at h
  ·exact Kk h
  ·exact Kk h
  rename_i n l;split at h
  ·rename_i o;subst o;exact Sg ⟨fun e=>n e,fun e=>l e⟩ h
  cases h
 ·rename_i a b;cases j with|str m=>cases i with|str p=>
  simp only[Sem.run_bind,vf op T d g (.inr (.inl ⟨_,rfl⟩)),Result.andThen_ok];exact Zb (by rw[m,p];exact h)
 cases h
theorem p5.ex{c:dk}{σ:aw}{s:Sem Value}{v:aq}(a:fd M w c σ)(h:∃cv,s.run P w=.ok cv w∧R M w c v cv):p5 M P c w (do pure (.value (←s))) v σ:=
 let ⟨_,b,d⟩:=h
 .quiet a b d
theorem p5.unit{c:dk}{a:aw}{s:Sem Unit}(h:∃w',s.run P w=.ok () w'∧fd M w' c a∧iR c w c w'):p5 M P c w (do s;pure .skip) .any a:=by
 obtain⟨w',e,d,b⟩:=h;exact⟨.skip,w',c,undef,by simp[e],.inr ⟨rfl,rfl⟩,d,b,.any⟩
theorem p5.any{c:dk}{a:aw}{s:Sem Value}(h:∃cv w',s.run P w=.ok cv w'∧fd M w' c a∧iR c w c w'):p5 M P c w (do pure (.value (←s))) .any a:=by
 obtain⟨cv,w',e,d,b⟩:=h;exact .of e d b .any
theorem uK{T:TypeId}(h:Bw P T=true):∃q,P.underlying T=some (.int q):=by
 unfold Bw at h;split at h
 ·exact⟨_,by assumption⟩
 cases h
theorem JL{T:TypeId}{k:IntKind}(h:Vq P T k=true):P.underlying T=some (.int k):=by
 unfold Vq at h;split at h
 ·rename_i j a;have:j=k:=by simpa using h
  rw[←this];exact a
 cases h
theorem wG{T:TypeId}(h:Ih P T=true):P.underlying T=some .string:=by
 unfold Ih at h;split at h
 ·assumption
 cases h
theorem bJ{c d:Type}{f:c→d}{o:Option c}{b:d}(h:o.map f=some b):∃a,o=some a∧f a=b:=by
 cases o with
 |none=>cases h
 |some a=>exact⟨a,rfl,dW h⟩
theorem bN{c d:Type}{f:c→Option d}{o:Option c}{b:d}(h:o.bind f=some b):∃a,o=some a∧f a=some b:=by
 cases o with
 |none=>cases h
 |some a=>exact⟨a,rfl,h⟩
theorem amZ{c:dk}{i:Nat}{x v:aq}{a:Value}(b:R M w c x a)(h:Y8 i x=some v):∃cv,(Instr.extract a i).run P w=.ok cv w∧R M w c v cv:=by
 unfold Y8 at h;split at h
 ·rename_i vs;cases b with|@tup _ _ cvs f g e d=>
  obtain⟨hi,rfl⟩:=ak.1 h;refine⟨f i,?_,d i hi⟩;simp[Instr.extract,e i hi]
 cases h
theorem Ff{S:TypeId}{i:Nat}{f:Field}(h:GR P S i=some f):∃fs,P.underlying S=some (.struct fs)∧fs[i]?=some f:=by
 unfold GR at h;split at h
 ·exact⟨_,by assumption,h⟩
 cases h
theorem Ts{c:dk}{a:Bool}{s off:Nat}{x v:aq}{b:Value}(e:R M w c x b)(h:Ht a s off x=some v){T:TypeId}(f:uh P T a s=true):∃A cv,b=.agg A∧(part T A off).run P w=.ok cv w∧R M w c v cv:=by
 unfold Ht at h;split at h
 ·rename_i d;exact aiA e d.1 d.2 f h
 cases h
theorem Eg{c:dk}{env ls:List aq}{a:Act}(d:ot M w c env ls rs a.tmps)(g:kS M w c){xs:Array Operand}{b:List db}(h:ya M rs xs.toList b=true) :
  (xs.map a.eval).size=b.length∧∀i (hi:i<(b.map (·.eval env ls)).length),∃x,(xs.map a.eval)[i]?=some x∧R M w c (b.map (·.eval env ls))[i] x:=by
 obtain⟨f,k⟩:=Di d g h;refine⟨by simpa using f,fun i hi=>?_⟩;obtain⟨x,j,e⟩:=k i (by simpa using hi);exact⟨x,by simpa using j,by simpa using e⟩
theorem ac6{c:dk}{σ an:aw}{env ls:List aq}{a:Act}{C:ir}{o:Oper}{ao:IK}{v:aq}(J:fd M w c σ)(ht:ot M w c env ls rs a.tmps)(hg:kS M w c)
  (u:G8 M P rs o.op ao=true) (D:bH C env ls σ ao=some (v,an)) (bc:∀f x m,ao≠.call f x m) (be:∀f x,ao≠.callv f x):p5 M P c w (execOp a.eval o) v an:=by
 have X:∀{x:Operand} {N:db},lZ M rs x N=true→R M w c (N.eval env ls) (a.eval x):=fun h=>Kt ht hg h;unfold G8 at u;unfold execOp;split at u<;>rename_i a9<;>(try simp only[a9])
 case h_1=>cases D;exact .now J (X u)
 case h_2=>cases D;exact .now J (X u)
 case h_3 k=>
  cases D;obtain⟨c',G,E,I⟩:=Gp J (show k≠0 by simpa using u) none;exact⟨_,w,c',_,rfl,.inl rfl,G,E,I⟩
 case h_4 x y z N y' z'=>
  simp only[ax]at u;obtain⟨⟨G,E⟩,I⟩:=u;simp only[bH]at D;obtain⟨r,H,K⟩:=bJ D;cases K;unfold TM at H;have hc:=X G;split at H
  ·rename_i t bf;rw[bf]at hc;cases H;generalize a.eval x=cx at hc;cases hc;refine⟨.value (if t then a.eval y else a.eval z),w,c,_,by simp[asBool],.inl rfl,J,.refl c w,?_⟩;cases t
   ·exact X I
   exact X E
  cases H
 case h_5 T k z=>
  simp only[ax]at u;obtain⟨G,E⟩:=u;obtain⟨I,L⟩:=lY G;obtain⟨i,v0,i1,i2,i3,i4⟩:=sm E;have af:(if aM z=k then some (aq.ptr σ.length 0 0 0,σ++[.arr k 0 [z]]) else none)=some (v,an):=D;split at af
  ·rename_i hk;cases af;obtain⟨nx,w',c',cv,b1,b2,b3,b4,b5⟩:=agv (P:=P) J (tB (M:=M) (w:=w) (c:=c) i4) (T:=T) hk L;refine⟨nx,w',c',cv,?_,b2,b3,b4,b5⟩;rw[←b1];simp[Instr.alloc,Instr.box,i3]
  cases af
 case h_6 T x k N=>
  simp only[ax]at u;obtain⟨G,E⟩:=u;obtain⟨I,L⟩:=lY G;simp only[bH]at D;split at D
  ·rename_i hk;cases D;exact agv J (X E) hk L
  cases D
 case h_7 T parts zero parts'=>
  simp only[ax]at u;obtain⟨G,E⟩:=u;obtain⟨i,v0,i1,i2,i3,i4⟩:=sm G;simp only[bH]at D;obtain⟨cs,hf,K⟩:=bJ D;cases K;have hz:R M w c (.agg zero) v0:=tB i4;obtain⟨A,rfl⟩:∃A,v0=.agg A:=by cases hz;exact⟨_,rfl⟩
  have bi:=hz.rcells;have key:∀place,vy M rs place parts.toList parts'=true→∃B,Instr.fill place A ((parts.map fun (i,x)=>(i,a.eval x)).toList)=some B∧nM M w c cs B:=fun place hp=>by
   obtain⟨p1,p2⟩:=Kx ht hg hp;refine XI place _ (parts'.map fun p=>(p.1,p.2.1,p.2.2.eval env ls)) zero cs A bi (by simp;simpa using p1) (fun i hi O=>?_) hf;have:=p2 i (by simpa using hi) (by simpa using O);simpa using this
  have ag:∃B,P.built T ((parts.map fun (i,x)=>(i,a.eval x)).toList)=some B∧nM M w c cs B:=by
   split at E
   ·rename_i fs al;split at E
    ·rename_i a0 a6;obtain⟨B,b1,b2⟩:=key _ E;exact⟨B,by unfold Program.built;rw[i1,al];simp only[i2,a6];exact b1,b2⟩
    cases E
   ·rename_i n e al;split at E
    ·rename_i ie bb;obtain⟨B,b1,b2⟩:=key _ E;exact⟨B,by unfold Program.built;rw[i1,al];simp only[i2,bb];exact b1,b2⟩
    cases E
   cases E
  obtain⟨B,b1,b2⟩:=ag;exact .quiet J (run_build w T _ B b1) b2.agg
 case h_8 T len parts k xs=>
  split at u
  ·rename_i e K;simp only[ax,aX,gT,cd]at u;obtain⟨⟨⟨⟨⟨G,E⟩,I⟩,L⟩,h5⟩,h6⟩:=u;obtain⟨V,Z⟩:=lY G;simp only[bH]at D;split at D
   ·rename_i ae;cases D;obtain⟨p1,p2⟩:=Di ht hg h6;have Y:parts.toList.length=len:=by rw[←List.length_map (f:=(·.1)),h5,List.length_range]
    refine MG (cvs:=(parts.toList.map (·.2)).map a.eval) J (gG K) V Z E I ?_ ?_ ?_ ?_ L ?_
    ·rw[dg,←p1,dg,Y]
    ·rw[dg,dg,Y]
    ·intro i hi O;obtain⟨x,x1,x2⟩:=p2 i (by simpa using hi);rw[au O]at x1;cases x1;simpa using x2
    ·intro v hv;simpa using aY.1 ae v hv
    rw[←h5];simp[List.zip_map',nJ]
   cases D
  cases u
 case h_9 T parts k=>
  split at u
  ·rename_i e K;simp only[ax,aX]at u;obtain⟨G,E⟩:=u;obtain⟨V,Z⟩:=lY G;cases D;have hp:parts=#[]:=kB E;subst hp;obtain⟨I,L⟩:=J.addStill (.cells #[] e (0,0));obtain⟨c',b1,b2,b3⟩:=Gp I Z (some ⟨w.heap.size,0,none⟩);refine⟨.value (.slice (some ⟨w.heap.size,0,none⟩) 0 0),lj w (.cells #[] e (0,0)),c',_,?_,.inl rfl,b1,L.trans b2,b3⟩;simp[Instr.buildSlice,run_underlying (gG K),gi V,newRow,Instr.fill,Array.range_zero'];rfl
  cases u
 case h_10 T l n k zero l' n'=>
  split at u
  ·rename_i e K;simp only[ax]at u;obtain⟨⟨⟨⟨G,E⟩,I⟩,L⟩,h5⟩:=u;obtain⟨V,Z⟩:=lY G;simp only[bH]at D;obtain⟨m,m1,D⟩:=bN D;obtain⟨d,d1,D⟩:=bN D;split at D
   ·rename_i hc;obtain⟨rfl,hk,hm⟩:=hc;cases D;obtain⟨k1,e1⟩:=vz (X L) m1;obtain⟨k2,e2⟩:=vz (X h5) d1;rw[e1,e2];exact aia J (gG K) Z E I hk hm V
   cases D
  cases u
 case h_11 T=>cases D;exact ab1 J T
 case h_12 T m k ok zero ok' m' k'=>
  split at u
  ·rename_i kt et hT;simp only[ax,aX]at u;obtain⟨⟨⟨⟨G,E⟩,rfl⟩,L⟩,h5⟩:=u;obtain⟨q,hq⟩:=uK G;simp only[bH]at D;split at D
   ·rename_i hk;obtain⟨es,e1,D⟩:=bN D;obtain⟨r,r1,K⟩:=bJ D;cases K;exact .ex J (aiL J (X L) (X h5) hk e1 r1 hT hq E ok)
   cases D
  cases u
 case h_13 T m k v m' k' v'=>
  split at u
  ·rename_i kt et hT;simp only[ax]at u;obtain⟨⟨⟨G,E⟩,I⟩,L⟩:=u;obtain⟨q,hq⟩:=uK G;simp only[bH]at D;obtain⟨aj,r1,K⟩:=bJ D;cases K;exact .unit (aav J (X E) (X I) (X L) r1 hT hq)
  cases u
 case h_14 T m k v m' k' v'=>
  split at u
  ·rename_i kt et hT;simp only[ax]at u;obtain⟨⟨⟨G,E⟩,I⟩,L⟩:=u;obtain⟨q,hq⟩:=uK G;simp only[bH]at D;obtain⟨aj,r1,K⟩:=bJ D;cases K;exact .unit (aav J (X E) (X I) (X L) r1 hT hq)
  cases u
 case h_15 T x b s N=>
  simp only[ax]at u;simp only[bH]at D;obtain⟨r,H,K⟩:=bJ D;cases K;exact .ex J (aba J (X u.2) u.1 H)
 case h_16 T x y s N y'=>
  simp only[ax]at u;obtain⟨⟨G,E⟩,I⟩:=u;obtain⟨V,Z⟩:=lY G;simp only[bH]at D;obtain⟨r,H,K⟩:=bJ D;cases K;exact .unit (ac4 J (X E) (X I) V Z H)
 case h_17 S x i off N=>
  split at u
  ·rename_i f hf;simp only[ax,aX]at u;obtain⟨⟨G,E⟩,I⟩:=u;obtain⟨fs,f1,f2⟩:=Ff hf;split at E
   ·rename_i n hn;simp only[bH]at D;obtain⟨r,H,K⟩:=bJ D;cases K;exact .ex J (ako J (X I) f1 f2 G hn (by simpa using E) H)
   cases E
  cases u
 case h_18 S x i b s off N=>
  split at u
  ·rename_i f hf;simp only[ax,aX]at u;obtain⟨⟨G,E⟩,I⟩:=u;obtain⟨fs,f1,f2⟩:=Ff hf;simp only[bH]at D;obtain⟨r,H,K⟩:=bJ D;cases K;obtain⟨A,cv,a1,a2,a3⟩:=Ts (P:=P) (X I) H E;refine .quiet J ?_ a3;subst G;simp[Instr.field,run_underlying f1,f2,a1,asAgg,a2]
  cases u
 case h_19 T x i k N i'=>
  split at u
  ·rename_i e K;simp only[ax]at u;obtain⟨⟨G,E⟩,I⟩:=u;obtain⟨V,Z⟩:=lY G;simp only[bH]at D;obtain⟨n,n1,D⟩:=bN D;obtain⟨r,H,F⟩:=bJ D;cases F;exact .ex J (aho J (X E) (vz (X I) n1) (gG K) V Z H)
  cases u
 case h_20 T x i m s N i'=>
  split at u
  ·rename_i m' e K;simp only[ax,aX]at u;obtain⟨⟨⟨rfl,E⟩,I⟩,L⟩:=u;simp only[bH]at D;obtain⟨n,n1,D⟩:=bN D;split at D
   ·rename_i hn;obtain⟨r,H,F⟩:=bJ D;cases F;exact .ex J (aij J (X I) (vz (X L) n1) K E hn H)
   cases D
  cases u
 case h_21 T x i b m s N i'=>
  split at u
  ·rename_i m' e K;simp only[ax,aX]at u;obtain⟨⟨⟨rfl,E⟩,I⟩,L⟩:=u;simp only[bH]at D;obtain⟨n,n1,D⟩:=bN D;split at D
   ·rename_i hn;obtain⟨r,H,F⟩:=bJ D;cases F;obtain⟨A,cv,a1,a2,a3⟩:=Ts (P:=P) (X I) H E;obtain⟨k,hk⟩:=vz (X L) n1;refine .quiet J ?_ a3;simp[Instr.index,hk,asIntOf,run_underlying K,a1,hn,gi (wq E),a2]
   cases D
  cases u
 case h_22 T x i N i'=>
  simp only[ax]at u;obtain⟨⟨G,E⟩,I⟩:=u;simp only[bH]at D;obtain⟨n,n1,D⟩:=bN D;obtain⟨r,H,F⟩:=bJ D;cases F;exact .ex J (ah3 (X E) (vz (X I) n1) H (wG G))
 case h_23 op T x y _ n N y'=>
  simp only[ax,aX]at u;obtain⟨⟨⟨G,E⟩,I⟩,L⟩:=u;simp only[bH]at D;obtain⟨r,H,F⟩:=bJ D;cases F;split at E
  ·rename_i hT;exact .ex J (anS (X I) (X L) H hT G x y)
  cases E
 case h_24 op T x y _ n ks N y'=>
  simp only[ax,aX]at u;obtain⟨⟨⟨G,E⟩,I⟩,L⟩:=u;simp only[bH]at D;obtain⟨r,H,F⟩:=bJ D;cases F;exact .ex J (an7 (X I) (X L) H E G x y)
 case h_25 op T x y _ op' N y'=>
  simp only[ax,aX]at u;obtain⟨⟨rfl,E⟩,I⟩:=u;simp only[bH]at D;obtain⟨r,H,F⟩:=bJ D;cases F;exact .ex J (akQ (X E) (X I) H x y)
 case h_26 op _ x op' N=>
  simp only[ax,aX]at u;obtain⟨rfl,E⟩:=u;simp only[bH]at D;obtain⟨r,H,F⟩:=bJ D;cases F;exact .ex J (adX (X E) H)
 case h_27 S T x k N=>
  simp only[ax]at u;obtain⟨⟨G,E⟩,I⟩:=u;simp only[bH]at D;obtain⟨r,H,F⟩:=bJ D;cases F;have Q:=X I;unfold SY at H;split at H
  ·rename_i k' n W;rw[W]at Q;cases H;obtain⟨q,hq⟩:=uK G;generalize a.eval x=cx at Q;cases Q;exact .quiet J (aaG (c:=c) hq (JL E) ⟨q,rfl⟩) .int
  cases H
 case h_28 T x lo hi k N lo' O=>
  split at u
  ·rename_i e K;simp only[ax]at u;obtain⟨⟨⟨G,E⟩,I⟩,L⟩:=u;simp only[bH]at D;obtain⟨n,n1,D⟩:=bN D;obtain⟨l,l1,D⟩:=bN D;obtain⟨h,hh,D⟩:=bN D;obtain⟨r,H,F⟩:=bJ D;cases F;exact .ex J (ab9 J (X E) n1 (TF ht hg I l1) (TF ht hg L hh) H (gG K) (lY G).1)
  cases u
 case h_29 T x lo hi N lo' O=>
  simp only[ax]at u;obtain⟨⟨⟨G,E⟩,I⟩,L⟩:=u;simp only[bH]at D;obtain⟨n,n1,D⟩:=bN D;obtain⟨l,l1,D⟩:=bN D;obtain⟨h,hh,D⟩:=bN D;obtain⟨r,H,F⟩:=bJ D;cases F;exact .ex J (ZS (X E) n1 (TF ht hg I l1) (TF ht hg L hh) H (wG G))
 case h_30 T x n N=>
  split at u
  ·rename_i m e K;simp only[ax,aX,gT]at u;obtain⟨⟨⟨rfl,E⟩,I⟩,L⟩:=u;simp only[bH]at D;obtain⟨r,H,F⟩:=bJ D;cases F;exact .ex J (Yp J (X L) H K I E)
  cases u
 case h_31 x i i' N=>
  simp only[ax,aX]at u;obtain⟨rfl,E⟩:=u;simp only[bH]at D;obtain⟨r,H,F⟩:=bJ D;cases F;exact .ex J (amZ (X E) H)
 case h_32 f first cap n first' cap'=>
  simp only[ax,aX]at u;obtain⟨⟨G,E⟩,I⟩:=u;cases D;obtain⟨a1,a2⟩:=Eg ht hg E;obtain⟨b1,b2⟩:=Eg ht hg I;refine .quiet J rfl ?_;subst G;refine .fn (fun i=>(first.map a.eval).getD i undef) (fun i=>(cap.map a.eval).getD i undef) (by rw[a1];simp) (by rw[b1];simp) (fun i hi=>?_) (fun i hi=>?_) (fun i hi=>?_) (fun i hi=>?_)
  ·obtain⟨x,x1,_⟩:=a2 i hi;simp only[bV,x1,dd]
  ·obtain⟨x,x1,_⟩:=b2 i hi;simp only[bV,x1,dd]
  ·obtain⟨x,x1,x2⟩:=a2 i hi;simp only[bV,x1,dd];exact x2
  obtain⟨x,x1,x2⟩:=b2 i hi;simp only[bV,x1,dd];exact x2
 case h_33 x N=>
  simp only[bH]at D;obtain⟨r,H,F⟩:=bJ D;cases F;have Q:=X u;unfold ME at H;split at H
  ·rename_i id ep i o' W;rw[W]at Q;split at H
   ·rename_i hf;cases H;obtain⟨k,b,G,E,I,L⟩:=zP J Q hf;rw[L]at Q ⊢;exact .now J Q
   cases H
  ·rename_i b y o' W;rw[W]at Q;cases H;generalize a.eval x=cx at Q;have:∃ad,cx=.pointer (some ad):=by cases Q;exact⟨_,rfl⟩
   obtain⟨ad,rfl⟩:=this;exact .now J Q
  ·rename_i f p q W;rw[W]at Q;cases H;generalize a.eval x=cx at Q;have:∃fi fs cs,cx=.func (.func fi) fs cs:=by cases Q;exact⟨_,_,_,rfl⟩
   obtain⟨fi,fs,cs,rfl⟩:=this;exact .now J Q
  cases H
 case h_34 c' N=>
  split at u
  ·rename_i x T G E I;simp only[ax]at u;obtain⟨k1,k2⟩:=u;obtain⟨e,K⟩:=dc.1 k1;simp only[bH]at D;obtain⟨r,H,F⟩:=bJ D;cases F;rw[jF G,Vh E,BO I];exact .ex J ⟨_,anD J (X k2) H (gG K),.int⟩
  cases u
 case h_35 c' N=>
  split at u
  ·rename_i x T G E I;simp only[ax]at u;obtain⟨k1,k2⟩:=u;simp only[bH]at D;obtain⟨r,H,F⟩:=bJ D;cases F;rw[jF G,Vh E,BO I];exact .ex J ⟨_,ahS (X k2) H (wG k1),.int⟩
  cases u
 case h_36 c' k N y'=>
  split at u
  ·rename_i x y T U G E I;split at u
   ·rename_i e K;simp only[ax]at u;obtain⟨⟨⟨⟨k1,k2⟩,k3⟩,k4⟩,k5⟩:=u;obtain⟨V,Z⟩:=lY k1;simp only[bH]at D;obtain⟨ys,y1,D⟩:=bN D;rw[jF G,Xc E,BO I];obtain⟨i,z,z1,z2,z3,z4,z5,_⟩:=sf k2;have ah:i.size=k:=by rw[z1]at V;simpa using V
    have hU:∃d,P.underlying U=some d∧∀q,d≠.int q:=by
     unfold abe at k3;split at k3
     ·cases k3
     ·rename_i d hd hn;exact⟨d,hn,fun q e=>hd q e⟩
     cases k3
    obtain⟨d,d1,d2⟩:=hU;exact XC J (X k4) (X k5) y1 D ⟨⟨e,i,z,d,gG K,z1,ah,z2,z3,z4,z5,d1,d2⟩,Z⟩
   cases u
  cases u
 case h_37 c' N=>
  split at u
  ·rename_i x T G E I;simp only[ax]at u;obtain⟨k1,k2⟩:=u;obtain⟨e,K⟩:=dc.1 k1;simp only[bH]at D;obtain⟨r,H,F⟩:=bJ D;cases F;rw[jF G,Vh E,BO I];have Q:=X k2;unfold adl at H;split at H
   ·rename_i W;rw[W]at Q;cases H;generalize a.eval x=cx at Q;cases Q;refine .ex J ⟨_,?_,.int⟩;simp[Builtin.cap_,run_underlying (gG K),goInt]
   cases H
  cases u
 case h_38 c' zero N=>
  split at u
  ·rename_i x T G E I;split at u
   ·rename_i e K;simp only[ax]at u;obtain⟨k1,k2⟩:=u;simp only[bH]at D;obtain⟨r,H,F⟩:=bJ D;cases F;rw[jF G,Vh E,BO I];exact .any (ald J (X k2) H (gG K) k1)
   cases u
  cases u
 case h_39 c' k N y'=>
  split at u
  ·rename_i x y T U G E I;split at u
   ·rename_i e K;simp only[ax]at u;obtain⟨⟨k1,k2⟩,k3⟩:=u;simp only[bH]at D;obtain⟨ys,y1,D⟩:=bN D;obtain⟨r,H,F⟩:=bJ D;cases F;rw[jF G,Xc E,BO I];obtain⟨w',c1,c2,c3⟩:=ahq J (X k2) (X k3) y1 H (gG K) (lY k1).1;exact .of c1 c2 c3 .int
   cases u
  cases u
 case h_40 c' N xs'=>
  split at u
  ·rename_i x xs G E;simp only[ax]at u;obtain⟨k1,k2⟩:=u;simp only[bH]at D;obtain⟨r,H,F⟩:=bJ D;cases F;rw[jF G];obtain⟨p1,p2⟩:=Di ht hg k2;have ab:(c'.args.map a.eval).toList=a.eval x::xs.map a.eval:=by simp[E]
   obtain⟨cv,r1,r2⟩:=Hw (P:=P) true _ (xs.map a.eval) _ _ _ (X k1) (by simpa using p1) (fun i hi O=>by
    obtain⟨y,y1,y2⟩:=p2 i (by simpa using hi);rw[au O]at y1;cases y1;simpa using y2) H
   refine .ex J ⟨cv,?_,r2⟩;unfold Builtin.min_;rw[ab];exact r1
  cases u
 case h_41 c' N xs'=>
  split at u
  ·rename_i x xs G E;simp only[ax]at u;obtain⟨k1,k2⟩:=u;simp only[bH]at D;obtain⟨r,H,F⟩:=bJ D;cases F;rw[jF G];obtain⟨p1,p2⟩:=Di ht hg k2;have ab:(c'.args.map a.eval).toList=a.eval x::xs.map a.eval:=by simp[E]
   obtain⟨cv,r1,r2⟩:=Hw (P:=P) false _ (xs.map a.eval) _ _ _ (X k1) (by simpa using p1) (fun i hi O=>by
    obtain⟨y,y1,y2⟩:=p2 i (by simpa using hi);rw[au O]at y1;cases y1;simpa using y2) H
   refine .ex J ⟨cv,?_,r2⟩;unfold Builtin.max_;rw[ab];exact r1
  cases u
 case h_42=>exact absurd rfl (bc _ _ _)
 case h_43=>exact absurd rfl (be _ _)
 case h_44 op T x q n N=>
  simp only[ax,aX]at u;obtain⟨⟨G,E⟩,I⟩:=u;obtain⟨e,K⟩:=dc.1 E;simp only[bH]at D;obtain⟨r,H,F⟩:=bJ D;cases F;exact .ex J (aiW J (X I) H (gG K) G _ _)
 case h_45 T parts=>
  split at u
  ·rename_i e K;simp only[ax,aX]at u;obtain⟨G,E⟩:=u;obtain⟨i,hi⟩:=dc.1 G;have V:(P.info? e).map (·.size)=some i.size:=by rw[hi];rfl
   cases D;have hp:parts=#[]:=kB E;subst hp;obtain⟨I,L⟩:=J.addStill (.cells #[] e (0,0));refine⟨.value (.slice (some ⟨w.heap.size,0,none⟩) 0 0),lj w (.cells #[] e (0,0)),_,_,?_,.inl rfl,I,L,.ai⟩;simp[Instr.buildSlice,run_underlying (gG K),gi V,newRow,Instr.fill,Array.range_zero'];rfl
  cases u
 case h_46 c' k zero N n'=>
  split at u
  ·rename_i x n T U g1 g2 g3;split at u
   ·rename_i e K;simp only[ax]at u;obtain⟨⟨⟨⟨⟨k1,k2⟩,k3⟩,k4⟩,k5⟩,k6⟩:=u;obtain⟨V,Z⟩:=lY k1;obtain⟨i,z,z1,z2,z3,zb,zn,z4⟩:=sf k2;obtain⟨i',z',y1,y2,y3,y4⟩:=sm k3;rw[z1]at y1;cases y1;rw[z2]at y2;cases y2;have ah:i.size=k:=by rw[z1]at V;simpa using V
    have bg:R M w c zero z:=tB y4;simp only[bH]at D;obtain⟨m,m1,D⟩:=bN D;split at D
    ·rename_i hc;obtain⟨kn,a7⟩:=vz (X k6) m1;rw[jF g1];obtain⟨g,hg,bk,a4⟩:=tO bg (by omega);have hA:pz M w c k (List.replicate m zero) (Builtin.zeroCells z.cells m):=by
      refine⟨by simp[Builtin.zeroCells,z3],fun _ j=>g j,fun i j hi hj=>?_,fun i hi j hj=>?_⟩
      ·have O:i<m:=by simpa using hi
       have a5:=rC O hj;have e1:(i*k+j)%k=j:=by rw[iv,mc,ly hj]
       have e2:=a4 j (by omega);have e3:z.cells[j]! = g j:=by rw[getElem!_def,e2]
       refine⟨?_,hg.one j (by omega)⟩;simp[Builtin.zeroCells,z3,a5,e1,e3]
      have e1:(List.replicate m zero)[i]=zero:=kD ..;simp only[e1]at hj ⊢;exact hg.rel j hj
     have a8:=Y3 (P:=P) (w:=w) (T:=T) (U:=U) (ty:=o.type) (e:=e) (k:=k) (i:=i) (z:=z) ⟨gG K,z1,ah,z2,z3,zb,zn,uK k4,Z⟩ (q:=kn) (m:=m) hc.2;have:=FM (P:=P) (T:=T) (U:=U) (ty:=o.type) (cy:=.int kn m) J (X k5) Z D fun _=>⟨_,hA,by simpa using a8⟩;rw[Xc g2,BO g3];have av:a.eval n=.int kn (m:Int):=a7;rw[av];exact this
    cases D
   cases u
  cases u
 case h_47 T x N=>
  simp only[ax]at u;exact air J (X u.2) D (wG u.1)
 case h_48 x N=>exact act J (X u) D
 case h_49 T m k ok ks zero ok' m' k'=>
  split at u
  ·rename_i kt et hT;simp only[ax,aX]at u;obtain⟨⟨⟨⟨G,E⟩,rfl⟩,L⟩,h5⟩:=u;simp only[bH]at D;split at D
   ·rename_i hk;obtain⟨es,e1,D⟩:=bN D;obtain⟨r,r1,K⟩:=bJ D;cases K;exact .ex J (aci J (X L) (X h5) hk e1 r1 hT G E ok)
   cases D
  cases u
 case h_50 T m k v ks m' k' v'=>
  split at u
  ·rename_i kt et hT;simp only[ax]at u;obtain⟨⟨⟨G,E⟩,I⟩,L⟩:=u;simp only[bH]at D;obtain⟨aj,r1,K⟩:=bJ D;cases K;exact .unit (T2 J (X E) (X I) (X L) r1 hT G)
  cases u
 case h_51 T m k v ks m' k' v'=>
  split at u
  ·rename_i kt et hT;simp only[ax]at u;obtain⟨⟨⟨G,E⟩,I⟩,L⟩:=u;simp only[bH]at D;obtain⟨aj,r1,K⟩:=bJ D;cases K;exact .unit (T2 J (X E) (X I) (X L) r1 hT G)
  cases u
 case h_52 S T x N=>
  split at u
  ·rename_i e K;simp only[ax]at u;obtain⟨⟨G,E⟩,I⟩:=u;simp only[bH]at D;obtain⟨r,H,F⟩:=bJ D;cases F;exact .ex J (akj J (X I) H (gG K) (JL G) (wG E))
  cases u
 case h_53 T len parts k xs=>
  split at u
  ·rename_i e K;simp only[ax,aX,gT,cd]at u;obtain⟨⟨⟨⟨⟨G,E⟩,I⟩,L⟩,h5⟩,h6⟩:=u;obtain⟨V,Z⟩:=lY G;obtain⟨p1,p2⟩:=Di ht hg h6;have Y:parts.toList.length=len:=by rw[←List.length_map (f:=(·.1)),h5,List.length_range]
   have ar:xs.length=len:=by rw[←p1,dg,Y]
   have bh:¬(xs.map (·.eval env ls)=[]):=fun e=>L (by rw[←ar,←List.length_map (f:=fun x:db=>x.eval env ls),e];rfl);simp only[bH]at D;rw[if_neg bh]at D;split at D
   ·rename_i ae;cases D;have hl:(xs.map (·.eval env ls)).length=len:=by rw[dg,ar]
    refine Rt (len:=len) (cvs:=(parts.toList.map (·.2)).map a.eval) J (gG K) V Z E I hl ?_ ?_ ?_ L ?_
    ·rw[dg,dg,Y]
    ·intro i hi O;obtain⟨x,x1,x2⟩:=p2 i (by simpa using hi);rw[au O]at x1;cases x1;simpa using x2
    ·intro v hv;simpa using aY.1 ae v hv
    rw[←h5];simp[List.zip_map',nJ]
   cases D
  cases u
 case h_54=>cases D
 case h_55=>cases u
end Go.AM
namespace Go.AM
variable {M:dm} {w:World} {P:Program} {rs:Tmp→Option db}
theorem HG{c:dk}{env ls:List aq}{a:Act}(d:ot M w c env ls rs a.tmps)(g:kS M w c){xs:Array Operand}{b:List db}(h:ya M rs xs.toList b=true) :
  lQ M w c (b.map (·.eval env ls)) (xs.map a.eval):=by
 obtain⟨e,f⟩:=Eg d g h;exact⟨by rw[e];simp,f⟩
theorem lQ.append{c:dk}{xs e:List aq}{A B:Array Value}(h:lQ M w c xs A)(k:lQ M w c e B):lQ M w c (xs++e) (A++B):=by
 refine⟨by simp[h.1,k.1],fun i hi=>?_⟩;by_cases d:i<xs.length
 ·obtain⟨x,a,b⟩:=h.2 i d;refine⟨x,?_,by rw[cq d];exact b⟩;rw[ee (by rw[h.1];exact d)];exact a
 obtain⟨x,a,b⟩:=k.2 (i-xs.length) (by simp at hi;omega);refine⟨x,?_,by rw[cP (by omega)];exact b⟩;rw[lT (by rw[h.1];omega),h.1];exact a
theorem Ov{c:dk}{f:Nat}{first cap:List aq}{a:Value}(h:R M w c (.fn f first cap) a):∃fs cs,a=.func (.func (M.fm f)) fs cs∧lQ M w c first fs∧lQ M w c cap cs:=by
 cases h with
 |fn m l e k g d j b=>exact⟨_,_,rfl,⟨e,fun i hi=>⟨m i,g i hi,j i hi⟩⟩,k,fun i hi=>⟨l i,d i hi,b i hi⟩⟩
theorem YM{c d:Type}{f:c→d}{o:Option c}{b:d}(h:o.map f=some b):∃a,o=some a∧f a=b:=bJ h
theorem akC{F:Fence}{n:Nat}{c:dk}{σ L:aw}{env ls:List aq}{a:Act}{C:ir}{o:Oper}{S:IK}{v:aq}(t:u6 F)(hC:lN M P C)(hR:kY M P C)
  (J:fd M w c σ) (W:ot M w c env ls rs a.tmps) (u:kS M w c) (h:G8 M P rs o.op S=true) (p:bH C env ls σ S=some (v,L))
  {K:Act→World→Prop} {Q:Exit→Act→World→Prop} (Z:∀cv w' c',fd M w' c' L→iR c w c' w'→R M w' c' v cv→K (a.put o.dst cv) w'):o.wpIn F n P a w K Q:=by
 have k:∀c,o.op≠.defer c:=by
  intro d e;rw[e]at h;cases S<;>simp[G8]at h;cases p
 by_cases h1:∃f x m,S=.call f x m
 ·obtain⟨f,args,ab,rfl⟩:=h1;cases hop:o.op with
  |call d=>
   rw[hop]at h;simp only[G8]at h;split at h
   ·rename_i g ag;simp only[ax,aX]at h;obtain⟨h2,h3⟩:=h;simp only[bH]at p;obtain⟨⟨D,i⟩,s,U⟩:=YM p;have r:∀n,rM F n P (M.fm f) (d.args.map a.eval) w (ig M c w i D):=fun n=>(hC f _ σ D i s F n w c _ t J u (HG W u h3)).1;refine rM.wp t r ?_ k fun cv w' H=>?_
    ·unfold execOp;rw[hop];simp only[Go.resolve,ag,Act.eval,h2];show callFunc g (#[]++d.args.map a.eval++#[])=_;simp
    obtain⟨c',z,N,A⟩:=H.mater ab;rw[U]at z A;exact Z cv w' c' z N A
   cases h
  |_=>rw[hop]at h;simp[G8]at h
 by_cases h2:∃f x,S=.callv f x
 ·obtain⟨f,args,rfl⟩:=h2;cases hop:o.op with
  |call d=>
   rw[hop]at h;simp only[G8]at h;split at h
   ·rename_i x X;simp only[ax]at h;obtain⟨h3,h4⟩:=h;simp only[bH]at p;obtain⟨⟨D,i⟩,s,U⟩:=YM p;have q:=Kt W u h3;have j:=HG W u h4;unfold IG at s;split at s
    ·rename_i g first cap E
     rw[E]at q;obtain⟨fs,cs,V,Y,e3⟩:=Ov q;have r:∀n,rM F n P (M.fm g) (fs++d.args.map a.eval++cs) w (ig M c w i D):=fun n=>(hC g _ σ D i s F n w c _ t J u ((Y.append j).append e3)).1;refine rM.wp t r ?_ k fun cv w' H=>?_
     ·unfold execOp;rw[hop];simp only[Go.resolve,X,V];rfl
     obtain⟨c',z,N,A⟩:=H.mater false;rw[U]at z A;exact Z cv w' c' z N A
    ·rename_i l B y E;split at s
     ·rename_i G;rw[E]at q;obtain⟨b,tmps,w1,V,Y,_⟩:=hR B l y _ σ D i s F n w c _ _ t J u j G q;have I:(execOp a.eval o).run P w=.ok (.round b (c.loops l).fn tmps (c.loops l).assign (c.loops l).body) w1:=by
       rw[←Y];unfold execOp;rw[hop];simp only[Go.resolve,X,V];show (Instr.yield b (#[]++d.args.map a.eval)).run P w=_;simp
      refine⟨fun f _=>t.fn f,?_⟩;rw[Oper.semAt_eq _ _ _ k,I];refine⟨fun X=>absurd X (by rw[t.depth];simp),?_⟩;obtain⟨b',af,ah,O,T,ad⟩:=hR B l y _ σ D i s F (n-1) w c _ _ t J u j G q;rw[V]at O;cases O;rw[Y]at T;cases T;refine ad.mono fun e w' ⟨cv,ae,H⟩=>?_;subst ae;obtain⟨c',z,N,A⟩:=H.mater false;rw[U]at z A;exact Z cv w' c' z N A
     cases s
    cases s
   cases h
  |_=>rw[hop]at h;simp[G8]at h
 exact (ac6 J W u h p (fun f x m e=>h1 ⟨f,x,m,e⟩) (fun f x e=>h2 ⟨f,x,e⟩)).wp t k Z
end Go.AM
namespace Go.AM
mutual
theorem tj:∀{a b:aq},same a b=true→a=b
 |.agg a,b,h=>by
  cases b<;>simp only[same,bq]at h;rw[nW h]
 |.tup a,b,h=>by
  cases b<;>simp only[same,bq]at h;rw[nW h]
 |.aa _ a,b,h=>by
  cases b<;>simp only[same,bq,ax,aX]at h;rw[nW h.2,h.1]
 |.lst a,b,h=>by
  cases b<;>simp only[same,bq]at h;rw[nW h]
 |.cptr _ x _,b,h=>by
  cases b<;>simp only[same,bq,ax,aX]at h;obtain⟨⟨d,f⟩,e⟩:=h;rw[tj f,d,e]
 |.fn _ a c,b,h=>by
  cases b<;>simp only[same,bq,ax,aX]at h;obtain⟨⟨d,f⟩,e⟩:=h;rw[nW f,nW e,d]
 |.imap _ a,b,h=>by
  cases b<;>simp only[same,bq,ax,aX]at h;rw[B8 h.2,h.1]
 |.yld _ _ a,b,h=>by
  cases b<;>simp only[same,bq,ax,aX]at h;obtain⟨⟨d,f⟩,e⟩:=h;rw[nW e,d,f]
 |.frs _ a,b,h=>by
  cases b<;>simp only[same,bq,ax,aX]at h;rw[nW h.2,h.1]
 |.int ..,b,h=>by cases b<;>simp[same]at h<;>simp[h]
 |.bool _,b,h=>by cases b<;>simp[same]at h<;>simp[h]
 |.str _,b,h=>by cases b<;>simp[same]at h<;>simp[h]
 |.nilp,b,h=>by cases b<;>simp[same]at h<;>rfl
 |.nilf,b,h=>by cases b<;>simp[same]at h<;>rfl
 |.nilm,b,h=>by cases b<;>simp[same]at h<;>rfl
 |.ai,b,h=>by cases b<;>simp[same]at h<;>rfl
 |.sl ..,b,h=>by cases b<;>simp[same]at h<;>simp[h]
 |.ptr ..,b,h=>by cases b<;>simp[same]at h<;>simp[h]
 |.asl ..,b,h=>by cases b<;>simp[same]at h<;>simp[h]
 |.mp _,b,h=>by cases b<;>simp[same]at h<;>simp[h]
 |.emp _,b,h=>by cases b<;>simp[same]at h<;>simp[h]
 |.it _,b,h=>by cases b<;>simp[same]at h<;>simp[h]
 |.any,b,h=>by cases b<;>simp[same]at h<;>rfl
theorem nW:∀{a b:List aq},qZ a b=true→a=b
 |[],[],_=>rfl
 |[],_::_,h=>by simp[qZ]at h
 |_::_,[],h=>by simp[qZ]at h
 |a::x,b::y,h=>by
  simp only[qZ,ax]at h;rw[tj h.1,nW h.2]
theorem B8:∀{a b:List (aq×aq)},yX a b=true→a=b
 |[],[],_=>rfl
 |[],_::_,h=>by simp[yX]at h
 |_::_,[],h=>by simp[yX]at h
 |(a,b)::x,(f,g)::y,h=>by
  simp only[yX,ax]at h;obtain⟨⟨c,e⟩,d⟩:=h;rw[tj c,tj e,B8 d]
end
mutual
theorem tX:∀(a:aq),same a a=true
 |.agg a=>by simp only[same];exact jX a
 |.tup a=>by simp only[same];exact jX a
 |.aa _ a=>by simp only[same,ez,eu];exact jX a
 |.lst a=>by simp only[same];exact jX a
 |.cptr _ x _=>by simp only[same,ez,eu,lM];exact tX x
 |.fn _ a c=>by simp only[same,ez,eu,ax];exact⟨jX a,jX c⟩
 |.imap _ a=>by simp only[same,ez,eu];exact A7 a
 |.yld _ _ a=>by simp only[same,ez,eu];exact jX a
 |.frs _ a=>by simp only[same,ez,eu];exact jX a
 |.int ..=>by simp[same]
 |.bool _=>by simp[same]
 |.str _=>by simp[same]
 |.nilp=>by simp[same]
 |.nilf=>by simp[same]
 |.nilm=>by simp[same]
 |.ai=>by simp[same]
 |.sl ..=>by simp[same]
 |.ptr ..=>by simp[same]
 |.asl ..=>by simp[same]
 |.mp _=>by simp[same]
 |.emp _=>by simp[same]
 |.it _=>by simp[same]
 |.any=>by simp[same]
theorem jX:∀(a:List aq),qZ a a=true
 |[]=>by simp[qZ]
 |a::x=>by simp only[qZ,ax];exact⟨tX a,jX x⟩
theorem A7:∀(a:List (aq×aq)),yX a a=true
 |[]=>by simp[yX]
 |(a,b)::x=>by simp only[yX,ax];exact⟨⟨tX a,tX b⟩,A7 x⟩
end
theorem aai{a b:Option (aq×aq)}(h:Oh a b=true):a=b:=by
 cases a<;>cases b<;>simp only[Oh,bq,ax]at h
 ·rfl
 rename_i x y;obtain⟨a,b⟩:=x;obtain⟨c,d⟩:=y;have f:=tj h.1;have e:=tj h.2;dsimp only at f e;rw[f,e]
theorem Q6(a:Option (aq×aq)):Oh a a=true:=by
 cases a<;>simp[Oh,tX]
theorem YU{a b:Obj}(h:Oz a b=true):a=b:=by
 cases a<;>cases b<;>simp only[Oz,bq,ax,aX,cd]at h
 ·obtain⟨⟨e,d⟩,c⟩:=h;rw[e,d,nW c]
 ·rw[B8 h]
 ·rw[h.1,h.2]
 ·rw[h.1,h.2]
 ·rw[B8 h.1.1,aai h.1.2,h.2]
 rfl
theorem QN(a:Obj):Oz a a=true:=by
 cases a<;>simp[Oz,jX,A7,Q6]
theorem Hg:∀{a b:aw},su a b=true→a=b
 |[],[],_=>rfl
 |[],_::_,h=>by simp[su]at h
 |_::_,[],h=>by simp[su]at h
 |a::x,b::y,h=>by
  simp only[su,ax]at h;rw[YU h.1,Hg h.2]
theorem BR:∀(a:aw),su a a=true
 |[]=>by simp[su]
 |a::x=>by simp only[su,ax];exact⟨QN a,BR x⟩
end Go.AM
namespace Go.AM
variable {C:ir} {env:List aq}
structure AR (C:ir) (env:List aq) (ins:List cr) (ls:List aq) (s:Nat→aw):Prop where
 len:ls.length=ins.length
 step:∀n (h:n<ins.length) (h':n<ls.length),(wanted env (ls.take n) ins[n].guard=some true∧bH C env (ls.take n) (s n) ins[n].op=some (ls[n],s (n+1))) ∨
  (wanted env (ls.take n) ins[n].guard=some false∧ls[n]=.tup []∧s (n+1)=s n)
theorem AN:∀(e:List cr) (b:List aq) (σ:aw) (ls:List aq) (d:aw),ml C env e b σ=some (ls,d) →
  ∃(a:List aq) (s:Nat→aw),ls=b++a∧a.length=e.length∧s 0=σ∧s e.length=d ∧
   ∀n (h:n<e.length) (v:n<a.length),(wanted env (b++a.take n) e[n].guard=some true∧bH C env (b++a.take n) (s n) e[n].op=some (a[n],s (n+1))) ∨
    (wanted env (b++a.take n) e[n].guard=some false∧a[n]=.tup []∧s (n+1)=s n)
 |[],b,σ,ls,d,h=>by
  simp only[ml,aL,dZ]at h;obtain⟨rfl,rfl⟩:=h;exact⟨[],fun _=>σ,by simp,rfl,rfl,rfl,fun n h=>absurd h (by simp)⟩
 |i::r,b,σ,ls,d,h=>by
  simp only[ml]at h;have l:∀(x:aq) (c:aw),ml C env r (b++[x]) c=some (ls,d) →
    ((wanted env b i.guard=some true∧bH C env b σ i.op=some (x,c))∨(wanted env b i.guard=some false∧x=.tup []∧c=σ)) →
    ∃(a:List aq) (s:Nat→aw),ls=b++a∧a.length=(i::r).length∧s 0=σ∧s (i::r).length=d ∧
     ∀n (h:n<(i::r).length) (v:n<a.length),(wanted env (b++a.take n) (i::r)[n].guard=some true∧bH C env (b++a.take n) (s n) (i::r)[n].op=some (a[n],s (n+1))) ∨
      (wanted env (b++a.take n) (i::r)[n].guard=some false∧a[n]=.tup []∧s (n+1)=s n):=fun x c f k=>by
   obtain⟨a,s,u,o,m,t,p⟩:=AN r (b++[x]) c ls d f;refine⟨x::a,fun n=>match n with|0=>σ|n+1=>s n,by rw[u];simp,by simp[o],rfl,by simpa using t,fun n q j=>?_⟩;cases n with
   |zero=>simpa [m] using k
   |succ n=>
    have:=p n (by simpa using q) (by simpa using j);simpa using this
  split at h
  ·rename_i g;obtain⟨⟨x,c⟩,f,k⟩:=bN h;exact l x c k (.inl ⟨g,f⟩)
  ·rename_i g;exact l (.tup []) σ h (.inr ⟨g,rfl,rfl⟩)
  cases h
theorem PD{a:List cr}{σ b:aw}{ls:List aq}(h:ml C env a [] σ=some (ls,b)):∃s,AR C env a ls s∧s 0=σ∧s a.length=b:=by
 obtain⟨i,s,d,f,e,g,c⟩:=AN a [] σ ls b h;simp only[bT]at d c;subst d;exact⟨s,⟨f,c⟩,e,g⟩
theorem Fb:∀(c:List cr) (d:List aq) (f:List aw) (σ:aw) (ls:List aq) (ss:List aw) (b:aw),uO C env c d f σ=some (ls,ss,b) →
  ∃(a:List aq) (s:Nat→aw),ls=d++a∧a.length=c.length∧s 0=σ∧s c.length=b∧ss++[b]=f++(List.range (c.length+1)).map s ∧
   ∀n (h:n<c.length) (w:n<a.length),(wanted env (d++a.take n) c[n].guard=some true∧bH C env (d++a.take n) (s n) c[n].op=some (a[n],s (n+1))) ∨
    (wanted env (d++a.take n) c[n].guard=some false∧a[n]=.tup []∧s (n+1)=s n)
 |[],d,f,σ,ls,ss,b,h=>by
  simp only[uO,aL,dZ]at h;obtain⟨rfl,rfl,rfl⟩:=h;exact⟨[],fun _=>σ,by simp,rfl,rfl,rfl,by simp,fun n h=>absurd h (by simp)⟩
 |i::r,d,f,σ,ls,ss,b,h=>by
  simp only[uO]at h;have m:∀(x:aq) (e:aw),uO C env r (d++[x]) (f++[σ]) e=some (ls,ss,b) →
    ((wanted env d i.guard=some true∧bH C env d σ i.op=some (x,e))∨(wanted env d i.guard=some false∧x=.tup []∧e=σ)) →
    ∃(a:List aq) (s:Nat→aw),ls=d++a∧a.length=(i::r).length∧s 0=σ∧s (i::r).length=b∧ss++[b]=f++(List.range ((i::r).length+1)).map s ∧
     ∀n (h:n<(i::r).length) (w:n<a.length),(wanted env (d++a.take n) (i::r)[n].guard=some true∧bH C env (d++a.take n) (s n) (i::r)[n].op=some (a[n],s (n+1))) ∨
      (wanted env (d++a.take n) (i::r)[n].guard=some false∧a[n]=.tup []∧s (n+1)=s n):=fun x e k l=>by
   obtain⟨a,s,v,p,o,u,t,y⟩:=Fb r (d++[x]) (f++[σ]) e ls ss b k;refine⟨x::a,fun n=>match n with|0=>σ|n+1=>s n,by rw[v];simp,by simp[p],rfl,by simpa using u,?_,fun n q j=>?_⟩
   ·rw[t,bA,List.range_succ_eq_map (n:=r.length+1)];simp
   cases n with
   |zero=>simpa [o] using l
   |succ n=>
    have:=y n (by simpa using q) (by simpa using j);simpa using this
  split at h
  ·rename_i g;obtain⟨⟨x,e⟩,k,l⟩:=bN h;exact m x e l (.inl ⟨g,k⟩)
  ·rename_i g;exact m (.tup []) σ h (.inr ⟨g,rfl,rfl⟩)
  cases h
theorem I3{ls:List aq}{a:List cr}{ss:List aw}:∀{c:List (Nat×Nat)},rG C env ls a ss c=some ()→∀n j,(n,j)∈c→∃I τ,a[n]?=some I∧ss[j]?=some τ∧bH C env (ls.take n) τ I.op=some (pC ls n,τ)
 |[],_,n,j,h=>by cases h
 |(n0,j0)::r,h,n,j,b=>by
  simp only[rG]at h;split at h
  ·rename_i I τ i f;obtain⟨q,g,e⟩:=bN h;split at e
   ·rename_i d;simp only[ax]at d;rcases dY.1 b with b|b
    ·cases b;refine⟨I,τ,i,f,?_⟩;rw[g,←tj d.1,←Hg d.2]
    exact I3 e n j b
   cases e
  cases h
theorem WI{a:List cr}{σ b:aw}{ls:List aq}{ss:List aw}{c:List (Nat×Nat)}(h:uO C env a [] [] σ=some (ls,ss,b))(r:rG C env ls a (ss++[b]) c=some ()) :
  ∃s,AR C env a ls s∧s 0=σ∧s a.length=b∧∀(n j:Nat) (I:cr),(n,j)∈c→a[n]?=some I→bH C env (ls.take n) (s j) I.op=some (pC ls n,s j):=by
 obtain⟨u,s,f,l,k,q,d,g⟩:=Fb a [] [] σ ls ss b h;simp only[bT]at f g d;subst f;refine⟨s,⟨l,g⟩,k,q,fun n j I t m=>?_⟩;obtain⟨v,τ,i,e,p⟩:=I3 r n j t;rw[m]at i;cases i;rw[d,eE]at e;obtain⟨j',j1,j2⟩:=bJ e;have:j'=j:=by
  obtain⟨_,o⟩:=ak.1 j1;simpa using o.symm
 subst this;rw[j2];exact p
def W4(cA:Nat→Bool):IK→Nat
 |.mov _|.pick ..|.build ..|.mkl ..|.fldv ..|.idxv ..|.idxt ..|.bin ..|.eqb ..|.eqa ..|.una ..|.conv ..|.slicet ..|.lent _|.cap _|.mins ..|.maxs ..|.mkfn ..|.ext ..|.bad=>0
 |.load ..|.nils ..|.fld ..|.idxs ..|.idxa ..|.nilck _|.slice ..|.slice0 _|.aslice ..|.len _|.look ..|.mlen _|.b2s _|.lookk ..=>1
 |.call f _ mat=>if !mat&&cA f then 1 else 2
 |_=>2
def wk(cA:Nat→Bool)(C:ir):Prop:=∀f args σ v σ',cA f=true→C f args σ=some (v,σ')→σ'=σ
theorem NB{v:aq}{σ:aw}:(mater false (v,σ)).2=σ:=by
 unfold mater vO;dsimp only;split
 ·split<;>rfl
 split<;>rfl
theorem aiB{cA:Nat→Bool}(s:wk cA C){ls:List aq}{o:IK}(h:W4 cA o≤1){σ g:aw}{v:aq}(b:bH C env ls σ o=some (v,g)):g=σ:=by
 have m:∀{q:Option aq},q.map (·,σ)=some (v,g)→g=σ:=fun {q} h=>by
  cases q with
  |none=>cases h
  |some a=>cases h;rfl
 have ite:∀{p:Prop} [Decidable p] {q:Option (aq×aw)},(if p then q else none)=some (v,g)→q=some (v,g):=fun {p} _ {q} h=>by
  split at h
  ·exact h
  cases h
 cases o with
 |call f args t=>
  simp only[W4]at h;split at h
  ·rename_i j;simp only[ax,gI]at j;simp only[bH]at b;obtain⟨⟨r,n⟩,u,d⟩:=bJ b;have:=s _ _ _ _ _ j.2 u;subst this;rw[j.1]at d;have e:=NB (v:=r) (σ:=n);rw[d]at e;exact e
  omega
 |mov x=>cases b;rfl
 |mkl k xs=>simp only[bH]at b;have:=ite b;cases this;rfl
 |pick c x y=>exact m b
 |build z w=>simp only[bH]at b;obtain⟨_,_,d⟩:=bJ b;cases d;rfl
 |fldv=>exact m b
 |idxv=>simp only[bH]at b;obtain⟨_,_,d⟩:=bN b;exact m (ite d)
 |idxt=>simp only[bH]at b;obtain⟨_,_,d⟩:=bN b;exact m d
 |bin=>exact m b
 |eqb=>exact m b
 |eqa=>exact m b
 |una=>exact m b
 |conv=>exact m b
 |slicet=>
  simp only[bH]at b;obtain⟨_,_,d⟩:=bN b;obtain⟨_,_,i⟩:=bN d;obtain⟨_,_,l⟩:=bN i;exact m l
 |lent=>simp only[bH]at b;obtain⟨_,_,d⟩:=bJ b;cases d;rfl
 |cap=>exact m b
 |mins=>exact m b
 |maxs=>exact m b
 |mkfn=>cases b;rfl
 |ext=>exact m b
 |bad=>cases b
 |load=>exact m b
 |nils=>exact m b
 |fld=>exact m b
 |idxs=>simp only[bH]at b;obtain⟨_,_,d⟩:=bN b;exact m d
 |idxa=>simp only[bH]at b;obtain⟨_,_,d⟩:=bN b;exact m (ite d)
 |nilck=>exact m b
 |slice=>
  simp only[bH]at b;obtain⟨_,_,d⟩:=bN b;obtain⟨_,_,i⟩:=bN d;obtain⟨_,_,l⟩:=bN i;exact m l
 |slice0=>simp only[bH]at b;obtain⟨_,_,d⟩:=bJ b;cases d;rfl
 |aslice=>exact m b
 |len=>simp only[bH]at b;obtain⟨_,_,d⟩:=bJ b;cases d;rfl
 |look=>
  simp only[bH]at b;obtain⟨_,_,d⟩:=bN (ite b);obtain⟨_,_,i⟩:=bJ d;cases i;rfl
 |mlen=>simp only[bH]at b;obtain⟨_,_,d⟩:=bJ b;cases d;rfl
 |b2s=>exact m b
 |lookk=>
  simp only[bH]at b;obtain⟨_,_,d⟩:=bN (ite b);obtain⟨_,_,i⟩:=bJ d;cases i;rfl
 |_=>simp[W4]at h
theorem XO{cA:Nat→Bool}{ls:List aq}{o:IK}(h:W4 cA o=0){σ g:aw}{v:aq}(b:bH C env ls σ o=some (v,g))(τ:aw):bH C env ls τ o=some (v,τ):=by
 have m:∀{q:Option aq},q.map (·,σ)=some (v,g)→q.map (·,τ)=some (v,τ):=fun {q} h=>by
  cases q with
  |none=>cases h
  |some a=>cases h;rfl
 cases o with
 |call f args n=>simp only[W4]at h;split at h<;>cases h
 |mov x=>cases b;rfl
 |mkl k xs=>
  simp only[bH]at b ⊢;split at b
  ·rename_i i;rw[if_pos i];cases b;rfl
  cases b
 |pick c x y=>exact m b
 |build z s=>simp only[bH]at b ⊢;obtain⟨_,e,d⟩:=bJ b;rw[e];cases d;rfl
 |fldv=>exact m b
 |idxv=>
  simp only[bH]at b ⊢;obtain⟨k,e,d⟩:=bN b;rw[e];simp only[cH];split at d
  ·rename_i i;rw[if_pos i];exact m d
  cases d
 |idxt=>simp only[bH]at b ⊢;obtain⟨k,e,d⟩:=bN b;rw[e];exact m d
 |bin=>exact m b
 |eqb=>exact m b
 |eqa=>exact m b
 |una=>exact m b
 |conv=>exact m b
 |slicet=>
  simp only[bH]at b ⊢;obtain⟨_,e,d⟩:=bN b;obtain⟨_,l,p⟩:=bN d;obtain⟨_,r,j⟩:=bN p;rw[e];simp only[cH];rw[l];simp only[cH];rw[r];exact m j
 |lent=>simp only[bH]at b ⊢;obtain⟨_,e,d⟩:=bJ b;rw[e];cases d;rfl
 |cap=>exact m b
 |mins=>exact m b
 |maxs=>exact m b
 |mkfn=>cases b;rfl
 |ext=>exact m b
 |bad=>cases b
 |_=>simp[W4]at h
end Go.AM
namespace Go.AM
variable {M:dm} {P:Program}
abbrev GF:=List (db×Option Nat)
def sX(its:GF)(k:Nat):db:=((its[k]?).map (·.1)).getD (.val .any)
def fM(its:GF)(k:Nat):Option Nat:=(its[k]?).bind (·.2)
def P1(ops:List Oper)(t:Tmp):Option Nat:=ops.findIdx? fun o=>o.dst==some t
def Ju(ops:List Oper)(em:List Tmp)(its:GF)(bef:Nat→Nat)(i:Nat)(t:Tmp):Option db:=
 match P1 ops t with
 |none=>(em.idxOf? t).map .env
 |some k=>if (bef i).testBit k then some (sX its k) else if k==i ||(bef k).testBit i then (em.idxOf? t).map .env else none
def Ti:Value→Option aq
 |.int k n=>some (.int k n)
 |.bool b=>some (.bool b)
 |.string s=>some (.str s.data.toList)
 |.pointer none=>some .nilp
 |.nilFunc=>some .nilf
 |.map none=>some .nilm
 |_=>none
theorem anV{w:World}{c:dk}{v:Value}{a:aq}(h:Ti v=some a):R M w c a v:=by
 unfold Ti at h;split at h<;>first|(cases h;done)|(cases h;first|exact .int|exact .bool|exact .str rfl|exact .nilp|exact .nilf|exact .nilm)
def Vy:Op→Option Operand
 |.move x=>some x
 |.assign x=>some x
 |_=>none
def lu(cA:Nat→Bool)(ins:List cr)(chk:List (Nat×Nat))(n:Nat):Bool:=match ins[n]? with
 |some I=>W4 cA I.op==2&&!chk.contains (n,n)
 |none=>false
def zQ(its:GF)(bef:Nat→Nat)(ops:List Oper)(i:Nat):Option (Nat×Bool)→Option (db×Bool)→Bool
 |none,none=>true
 |some (j,b),some (x,b')=>b==b'&&(bef i).testBit j&&FE (sX its j) x&&((ops[j]?).bind (·.dst)).isSome
 |_,_=>false
def RJ(ops:List Oper)(em:List Tmp)(its:GF)(bef:Nat→Nat)(i:Nat)(o:Oper):Bool:=o.guard.isNone&&(match Vy o.op with
 |some (.tmp t)=>(match Ju ops em its bef i t with
  |some x=>FE x (sX its i)
  |none=>false)
 |some (.const v)=>(match Ti v with
  |some a=>FE (.val a) (sX its i)
  |none=>false)
 |_=>false)
structure xQ (M:dm) (P:Program) (cA:Nat→Bool) (ops:Array Oper) (ins:List cr) (em:List Tmp) (its:GF) (bef:Nat→Nat) (chk:List (Nat×Nat)) (late:Option Nat) (nt:Nat):Prop where
 size:its.length=ops.size
 dst:∀(i:Nat) (o:Oper) (d:Tmp),ops[i]?=some o→o.dst=some d→d<nt
 uniq:∀(i k:Nat) (oi ok:Oper) (d:Tmp),ops[i]?=some oi→ops[k]?=some ok→oi.dst=some d→ok.dst=some d→i=k
 low:∀i k,(bef i).testBit k=true→k<i
 mono:∀k i n m,fM its k=some n→fM its i=some m→k<i→n<m
 onto:∀n,n<ins.length→∃k,fM its k=some n∧k<ops.size
 bound:∀k n,fM its k=some n→n<ins.length
 item:∀(i:Nat) (o:Oper),ops[i]?=some o→(fM its i=none∧RJ ops.toList em its bef i o=true) ∨
  ∃n I,fM its i=some n∧ins[n]?=some I∧sX its i=.loc n∧G8 M P (Ju ops.toList em its bef i) o.op I.op=true∧zQ its bef ops.toList i o.guard I.guard=true ∧
   (lu cA ins chk n=true→late≠some i→∀k m,k<i→fM its k=some m→lu cA ins chk m=true→(bef i).testBit k=true) ∧
   (lu cA ins chk n=false→W4 cA I.op=0 ∨
    ((∃k m,fM its k=some m∧lu cA ins chk m=true∧(bef i).testBit k=true)∨(∀k m,fM its k=some m→lu cA ins chk m=true→¬m<n)∨(n,0)∈chk) ∧
    ∀k m,fM its k=some m→lu cA ins chk m=true→(bef k).testBit i=true∨(∃k' m',fM its k'=some m'∧lu cA ins chk m'=true∧m<m'∧(bef i).testBit k'=true) ∨
     (m<n∧∀k' m',fM its k'=some m'→lu cA ins chk m'=true→m<m'→¬m' < n)∨(n,m+1)∈chk)
 lateOk:∀d,late=some d→bef d=0∧∃o T t n kk z,ops[d]?=some o∧o.op=.alloc T∧o.guard=none∧o.dst=some t∧fM its d=some n∧ins[n]?=some ⟨.box kk (.val z),none⟩∧lu cA ins chk n=true ∧
  (∀j,(bef j).testBit d=true→∀k m,fM its k=some m→lu cA ins chk m=true→m<n→(bef j).testBit k=true)∧∀j,j<ops.size→j≠d→Ju ops.toList em its bef j t≠none→(bef j).testBit d=true
 guards:∀(n j:Nat) (I:cr),(n,j)∈chk→ins[n]?=some I→I.guard=none
theorem Kw{ops:Array Oper}{t:Tmp}(h:P1 ops.toList t=none){k:Nat}{o:Oper}(a:ops[k]?=some o):o.dst≠some t:=by
 unfold P1 at h;rw[List.findIdx?_eq_none_iff]at h;have b:o∈ops.toList:=by
  rw[List.mem_iff_getElem?];exact⟨k,by simpa using a⟩
 have:=h o b;simpa using this
theorem Kb{ops:Array Oper}{t:Tmp}{k:Nat}(h:P1 ops.toList t=some k):∃o,ops[k]?=some o∧o.dst=some t:=by
 unfold P1 at h;rw[dD]at h;obtain⟨a,b,_⟩:=h;exact⟨ops[k]'(by simpa using a),by simp,by simpa using b⟩
theorem R.undef{w:World}{c:dk}:R M w c (.tup []) undef:=.tup (fun _=>.nilFunc) rfl (fun i h=>absurd h (by simp)) (fun i h=>absurd h (by simp))
theorem DW{env ls:List aq}{x:db}(n:Nat):x.eval env (ls.take n)=x.eval env ls∨x.eval env (ls.take n)=.any:=by
 cases x with
 |env i=>exact .inl rfl
 |val v=>exact .inl rfl
 |loc j=>
  simp only[db.eval,pC,gu];by_cases h:j<n
  ·simp[h]
  simp[h]
theorem R.take{w:World}{c:dk}{env ls:List aq}{x:db}{v:Value}(h:R M w c (x.eval env ls) v)(n:Nat):R M w c (x.eval env (ls.take n)) v:=by
 rcases DW (env:=env) (ls:=ls) (x:=x) n with e|e
 ·rw[e];exact h
 rw[e];exact .any
section
variable {cA:Nat→Bool} {ops:Array Oper} {ins:List cr} {em:List Tmp} {its:GF} {bef:Nat→Nat} {chk:List (Nat×Nat)} {env ls:List aq} {s:Nat→aw} {C:ir} {w0:World} {c0:dk} {a0:Act}
def Cut(cA:Nat→Bool)(ins:List cr)(its:GF)(chk:List (Nat×Nat))(S:Nat→Prop)(p:Nat):Prop:=
 (p=0∨∃k n,S k∧fM its k=some n∧lu cA ins chk n=true∧p=n+1) ∧
 ∀k n,fM its k=some n→lu cA ins chk n=true→(S k↔n<p)
def yq(M:dm)(cA:Nat→Bool)(ops:Array Oper)(ins:List cr)(its:GF)(bef:Nat→Nat)(chk:List (Nat×Nat))(env ls:List aq)(s:Nat→aw)(c0:dk)(w0:World)(a0:Act)(x:Option (Tmp×Nat×Go.Obj))(S:Nat→Prop)(a:Act)(w:World):Prop:=
 (∀i k,S i→(bef i).testBit k=true→S k)∧(∀i,S i→i<ops.size)∧∃c p,fd M w c (s p)∧iR c0 w0 c w∧Cut cA ins its chk S p ∧
  (∀(i:Nat) (o:Oper) (d:Tmp),S i→ops[i]?=some o→o.dst=some d→R M w c ((sX its i).eval env ls) (a.tmps.getD d undef)) ∧
  (∀t,(∀(i:Nat) (o:Oper),S i→ops[i]?=some o→o.dst≠some t)→(∀b ob,x≠some (t,b,ob))→a.tmps.getD t undef=a0.tmps.getD t undef)∧a.tmps.size=a0.tmps.size∧a.defers=a0.defers ∧
  ∀t b ob,x=some (t,b,ob)→a.tmps.getD t undef=.pointer (some ⟨b,0,none⟩)∧w0.heap.size≤b∧w.heap[b]?=some ob∧¬c.bor b∧∀id,c.H id≠.dead→c.place id≠some b
theorem Bh(i:AR C env ins ls s)(t:wk cA C)(c:∀(n j:Nat) (I:cr),(n,j)∈chk→ins[n]?=some I→bH C env (ls.take n) (s j) I.op=some (pC ls n,s j))(l:∀(n j:Nat) (I:cr),(n,j)∈chk→ins[n]?=some I→I.guard=none)
  {p n:Nat} (k:p≤n) (u:n≤ins.length) (h:∀m,p≤m→m<n→lu cA ins chk m=false):s n=s p:=by
 induction n with
 |zero=>rw[show p=0 by omega]
 |succ n o=>
  by_cases e:p=n+1
  ·rw[e]
  rw[←o (by omega) (by omega) (fun m g d=>h m g (by omega))];have b:n<ins.length:=by omega
  have a:=h n (by omega) (by omega);have v:=i.len;rcases i.step n b (by omega) with⟨g,d⟩|⟨_,_,q⟩
  ·unfold lu at a;rw[au b]at a;simp only[kZ,gn,Bool.not_eq_false',iM]at a;rcases a with f|f
   ·have:W4 cA ins[n].op≤1:=by
     have:W4 cA ins[n].op≤2:=by
      cases ins[n].op<;>simp[W4];split<;>omega
     omega
    exact aiB t this d
   have r:=c n n ins[n] f (au b);rw[r]at d;simp only[aL,dZ]at d;exact d.2.symm
  exact q
theorem C5(l:AR C env ins ls s)(o:wk cA C)(a:∀(n j:Nat) (I:cr),(n,j)∈chk→ins[n]?=some I→bH C env (ls.take n) (s j) I.op=some (pC ls n,s j))(b:∀(n j:Nat) (I:cr),(n,j)∈chk→ins[n]?=some I→I.guard=none)
  (c:∀n,n<ins.length→∃k,fM its k=some n∧k<ops.size) {p n:Nat} (d:p≤ins.length) (q:n≤ins.length)
  (h:∀k m,fM its k=some m→lu cA ins chk m=true→(m<p↔m<n)):s p=s n:=by
 have i:∀m,m<ins.length→lu cA ins chk m=true→(m<p↔m<n):=fun m v t=>by
  obtain⟨k,u,_⟩:=c m v;exact h k m u t
 by_cases f:p≤n
 ·refine (Bh l o a b f q fun m r g=>?_).symm;cases e:lu cA ins chk m with
  |false=>rfl
  |true=>exact absurd ((i m (by omega) e).2 g) (by omega)
 refine Bh l o a b (by omega) d fun m r g=>?_;cases e:lu cA ins chk m with
 |false=>rfl
 |true=>exact absurd ((i m (by omega) e).1 g) (by omega)
theorem Uu{w:World}{c:dk}{a:Act}{i n:Nat}{o:Oper}{g:Option (db×Bool)}{t:Bool}(h:zQ its bef ops.toList i o.guard g=true)(l:wanted env (ls.take n) g=some t)
  (D:∀(j:Nat) (r:Oper) (d:Tmp),(bef i).testBit j=true→ops[j]?=some r→r.dst=some d→R M w c ((sX its j).eval env ls) (a.tmps.getD d undef)):Region.wanted o (yielded ops a.tmps)=t:=by
 unfold Region.wanted;cases hg:o.guard with
 |none=>
  rw[hg]at h;cases g with
  |none=>simp only[wanted,aL]at l;exact l
  |some x=>simp[zQ]at h
 |some E=>
  obtain⟨j,b⟩:=E;rw[hg]at h;cases g with
  |none=>simp[zQ]at h
  |some A=>
   obtain⟨x,H⟩:=A;simp only[zQ,ax,aX]at h;obtain⟨⟨⟨rfl,G⟩,B⟩,C⟩:=h;have F:=wi B;obtain⟨d,hd⟩:=dc.1 C;obtain⟨r,z,m⟩:=bN hd;have p:ops[j]?=some r:=by simpa using z
   have k:=D j r d G p m;rw[F]at k;simp only[wanted]at l;split at l
   ·rename_i s f;simp only[aL]at l;have y:x.eval env ls=.bool s:=by
     rcases DW (env:=env) (ls:=ls) (x:=x) n with e|e
     ·rw[←e];exact f
     rw[e]at f;cases f
    rw[y]at k;have q:a.tmps[d]?=some (.bool s):=by
     rw[bV]at k;cases hq:a.tmps[d]? with
     |none=>rw[hq]at k;simp[undef]at k;cases k
     |some v=>rw[hq]at k;simp at k;cases k;rfl
    have u:yielded ops a.tmps j=some s:=by
     unfold yielded;simp[p,m,q]
    show (yielded ops a.tmps j==some b)=t;rw[u,←l];cases s<;>cases b<;>rfl
   ·rename_i f;simp only[aL]at l;have y:x.eval env ls=.tup []:=by
     rcases DW (env:=env) (ls:=ls) (x:=x) n with e|e
     ·rw[←e];exact f
     rw[e]at f;cases f
    rw[y]at k;show (yielded ops a.tmps j==some b)=t;have u:yielded ops a.tmps j=none:=by
     unfold yielded;rw[bV]at k;simp only[p,cH,m];cases hq:a.tmps[d]? with
     |none=>rfl
     |some v=>
      rw[hq]at k;simp only[dd]at k;cases k;rfl
    rw[u,←l];cases b<;>rfl
   cases l
end
end Go.AM
namespace Go.AM
variable {M:dm} {P:Program}
variable {cA:Nat→Bool} {ops:Array Oper} {ins:List cr} {em:List Tmp} {its:GF} {bef:Nat→Nat} {chk:List (Nat×Nat)} {late:Option Nat} {nt:Nat} {env ls:List aq} {s:Nat→aw} {C:ir} {w0:World} {c0:dk} {a0:Act}
theorem Lp{ls:List aq}{n:Nat}(h:n<ls.length):pC ls n=ls[n]:=by
 unfold pC;rw[au h];rfl
theorem LP(l:xQ M P cA ops ins em its bef chk late nt)(hT:AR C env ins ls s)(hp:wk cA C)(G:∀(n j:Nat) (I:cr),(n,j)∈chk→ins[n]?=some I→bH C env (ls.take n) (s j) I.op=some (pC ls n,s j))
  (hC:lN M P C) (hR:kY M P C) {F:Fence} {n0:Nat} (hF:u6 F) (hg:kS M w0 c0) (bt:ot M w0 c0 env [] (fun t=>(em.idxOf? t).map .env) a0.tmps) (Y:nt≤a0.tmps.size)
  {Q:Exit→Act→World→Prop} {i:Nat} {o:Oper} (W:ops[i]?=some o) {x:Option (Tmp×Nat×Go.Obj)} (a7:∀t b ob,x=some (t,b,ob)→Ju ops.toList em its bef i t=none∧o.dst≠some t) {S:Nat→Prop} (hi:¬S i) (af:∀n,fM its i=some n→lu cA ins chk n=true→∀k m,k<i→fM its k=some m→lu cA ins chk m=true→S k) (hb:∀k,(bef i).testBit k=true→S k) {a:Act} {w:World}
  (bb:yq M cA ops ins its bef chk env ls s c0 w0 a0 x S a w) :
  wpOpIn F n0 P ops Q i (yq M cA ops ins its bef chk env ls s c0 w0 a0 x fun j=>S j∨j=i) a w:=by
 obtain⟨cl,lt,c,p,hs,ar,g,hv,a6,K,be,bg⟩:=bb;have b9:i<ops.size:=(bE.1 W).1;have bs:kS M w c:=hg.ext ar.toExt
 have bk:ot M w c env ls (Ju ops.toList em its bef i) a.tmps:=by
  intro t x' B;have av:∀b ob,x≠some (t,b,ob):=fun b ob e=>by rw[(a7 t b ob e).1]at B;cases B
  unfold Ju at B;have base:(em.idxOf? t).map db.env=some x'→(∀(i:Nat) (o:Oper),S i→ops[i]?=some o→o.dst≠some t)→R M w c (x'.eval env ls) (a.tmps.getD t undef):=fun E z=>by
   rw[a6 t z av];have:=(bt t x' E).ext ar.toExt;obtain⟨j,_,rfl⟩:=bJ E;exact this
  split at B
  ·rename_i D;exact base B fun k ok _ r=>Kw D r
  rename_i k D;obtain⟨ok,r,bf⟩:=Kb D;split at B
  ·rename_i b6;cases B;exact hv k ok t (hb k b6) r bf
  split at B
  ·rename_i hc;refine base B fun k' bp X b8 bz=>?_;have:=l.uniq k' k bp ok t b8 r bz bf;subst this;simp only[dL,aX]at hc;rcases hc with rfl|hc
   ·exact hi X
   exact hi (cl _ _ X hc)
  cases B
 have b0:∀n,ot M w c env (ls.take n) (Ju ops.toList em its bef i) a.tmps:=fun n t x B=>(bk t x B).take n
 have ad:∀(cv:Value) (w':World) (c':dk) (Z:Nat),fd M w' c' (s Z)→iR c w c' w'→Cut cA ins its chk (fun j=>S j∨j=i) Z→R M w' c' ((sX its i).eval env ls) cv →
   yq M cA ops ins its bef chk env ls s c0 w0 a0 x (fun j=>S j∨j=i) (a.put o.dst cv) w':=fun cv w' c' Z E z h3 h4=>by
  refine⟨fun j k J r=>?_,fun j J=>?_,c',Z,E,ar.trans z,h3,fun j oj d J ab hd=>?_,fun t ht av=>?_,?_,?_,fun t b ob e=>?_⟩
  ·rcases J with J|rfl
   ·exact .inl (cl j k J r)
   exact .inl (hb k r)
  ·rcases J with J|rfl
   ·exact lt j J
   exact b9
  ·by_cases e:j=i
   ·subst e;rw[W]at ab;cases ab;rw[hd,uC (by rw[K];exact bu (l.dst _ _ _ W hd) Y),if_pos rfl];exact h4
   have bn:S j:=J.resolve_right e;have:=(hv j oj d bn ab hd).ext z.toExt;cases hod:o.dst with
   |none=>exact this
   |some d'=>
    have V:¬d=d':=fun e2=>by
     subst e2;exact e (l.uniq _ _ _ _ _ ab W hd hod)
    rw[uC (by rw[K];exact bu (l.dst _ _ _ W hod) Y),if_neg V];exact this
  ·have V:o.dst≠some t:=ht i o (.inr rfl) W;have:=a6 t (fun j oj J=>ht j oj (.inl J)) av;cases hod:o.dst with
   |none=>exact this
   |some d'=>
    have L:¬t=d':=fun e2=>V (by rw[hod,e2]);rw[uC (by rw[K];exact bu (l.dst _ _ _ W hod) Y),if_neg L];exact this
  ·cases hod:o.dst with
   |none=>exact K
   |some d=>simp[Act.put,K]
  ·cases hod:o.dst with
   |none=>exact be
   |some d=>exact be
  obtain⟨y1,y2,y3,y4,y5⟩:=bg t b ob e;have V:=(a7 t b ob e).2;have a3:b<w.heap.size:=(bE.1 y3).1;refine⟨?_,y2,by rw[z.frame b a3 y5];exact y3,fun hb=>?_,fun id z1 z2=>?_⟩
  ·cases hod:o.dst with
   |none=>exact y1
   |some d'=>
    have L:¬t=d':=fun e2=>V (by rw[hod,e2]);rw[uC (by rw[K];exact bu (l.dst _ _ _ W hod) Y),if_neg L];exact y1
  ·rcases z.oldb b hb a3 with hb|⟨q,q1,q2⟩
   ·exact y4 hb
   exact y5 q q1 q2
  obtain⟨q,q1,q2⟩:=z.liv id b z1 z2 a3;exact y5 q q1 q2
 have a5:p≤ins.length:=by
  rcases g.1 with rfl|⟨k,n,_,r,_,rfl⟩
  ·exact cK _
  exact l.bound k n r
 unfold wpOpIn;rw[W];simp only;rcases l.item i o W with⟨H,u⟩|⟨n,I,H,hI,bi,bo,bh,bc,B⟩
 ·
  unfold RJ at u;simp only[ax,jo]at u;obtain⟨ca,u⟩:=u;have D:Region.wanted o (yielded ops a.tmps)=true:=by unfold Region.wanted;rw[ca]
  rw[if_pos D];have aj:Cut cA ins its chk (fun j=>S j∨j=i) p:=by
   refine⟨g.1.imp id fun ⟨k,n,E,z⟩=>⟨k,n,.inl E,z⟩,fun k n r bc=>?_⟩;rw[←g.2 k n r bc];refine⟨fun h=>h.resolve_right fun e=>?_,.inl⟩;rw[e,H]at r;cases r
  have a9:∀y,Vy o.op=some y→R M w c ((sX its i).eval env ls) (a.eval y)→o.wpIn F n0 P a w (yq M cA ops ins its bef chk env ls s c0 w0 a0 x fun j=>S j∨j=i) Q:=fun y A hr=>by
   refine⟨fun f _=>hF.fn f,?_⟩;have bx:(execOp a.eval o)=pure (.value (a.eval y)):=by
    unfold execOp;cases hopp:o.op<;>rw[hopp]at A<;>simp only[Vy]at A<;>first|(cases A;done)|(cases A;rfl)
   rw[Oper.semAt_eq _ _ _ (fun d e=>by rw[e]at A;cases A),bx];exact ad _ w c p hs (.refl c w) aj hr
  split at u
  ·rename_i t A;split at u
   ·rename_i x B;refine a9 _ A ?_;have:=bk t x B;rw[wi u]at this;exact this
   cases u
  ·rename_i v A;split at u
   ·rename_i x B;refine a9 _ A ?_;rw[←wi u];exact anV B
   cases u
  cases u
 obtain⟨ao,a8⟩:=ak.1 hI;have T:n<ls.length:=by rw[hT.len];exact ao
 have a4:∀(j:Nat) (oj:Oper) (d:Tmp),(bef i).testBit j=true→ops[j]?=some oj→oj.dst=some d→R M w c ((sX its j).eval env ls) (a.tmps.getD d undef):=fun j oj d J=>hv j oj d (hb j J);have U:(sX its i).eval env ls=ls[n]:=by
  rw[bi];exact Lp T
 have O:lu cA ins chk n=true→s p=s n:=fun D=>by
  refine C5 hT hp G l.guards l.onto a5 (by omega) fun k m r A=>?_;rw[←g.2 k m r A];rcases gh k i with h|h|h
  ·exact⟨fun _=>l.mono _ _ _ _ r H h,fun _=>af n H D k m h r A⟩
  ·subst h;rw[H]at r;cases r;exact⟨fun h=>absurd h hi,fun h=>absurd h (dI _)⟩
  have cc:=l.mono _ _ _ _ H r h;refine⟨fun X=>absurd ((g.2 i n H D).2 (by have:=(g.2 k m r A).1 X;omega)) hi,fun z=>?_⟩;omega
 have ag:lu cA ins chk n=true→Cut cA ins its chk (fun j=>S j∨j=i) (n+1):=fun D=>by
  refine⟨.inr ⟨i,n,.inr rfl,H,D,rfl⟩,fun k m r A=>?_⟩;rcases gh k i with h|h|h
  ·have:=l.mono _ _ _ _ r H h;exact⟨fun _=>by omega,fun _=>.inl (af n H D k m h r A)⟩
  ·subst h;rw[H]at r;cases r;exact⟨fun _=>by omega,fun _=>.inr rfl⟩
  have:=l.mono _ _ _ _ H r h;refine⟨fun X=>?_,fun z=>by omega⟩;rcases X with X|rfl
  ·exact absurd ((g.2 i n H D).2 (by have:=(g.2 k m r A).1 X;omega)) hi
  exact absurd h (dI _)
 have ae:lu cA ins chk n=false→Cut cA ins its chk (fun j=>S j∨j=i) p:=fun D=>by
  refine⟨g.1.imp id fun ⟨k,n,E,z⟩=>⟨k,n,.inl E,z⟩,fun k m r A=>?_⟩;rw[←g.2 k m r A];refine⟨fun h=>h.resolve_right fun e=>?_,.inl⟩;rw[e,H]at r;cases r;rw[D]at A;cases A
 rcases hT.step n ao T with⟨E,z⟩|⟨E,z,h3⟩
 ·
  rw[a8]at E z;have D:Region.wanted o (yielded ops a.tmps)=true:=Uu bh E a4;rw[if_pos D];have run:∀Z,bH C env (ls.take n) (s p) I.op=some (ls[n],s Z)→Cut cA ins its chk (fun j=>S j∨j=i) Z→o.wpIn F n0 P a w (yq M cA ops ins its bef chk env ls s c0 w0 a0 x fun j=>S j∨j=i) Q:=fun Z al b5=>
   akC hF hC hR hs (b0 n) bs bo al fun cv w' c' b1 b2 b3=>ad cv w' c' Z b1 b2 b5 (by rw[U];exact b3)
  cases hw2:lu cA ins chk n with
  |true=>
   refine run (n+1) ?_ (ag hw2);rw[O hw2];exact z
  |false=>
   refine run p ?_ (ae hw2);have cb:s (n+1)=s n:=Bh hT hp G l.guards (eL n) ao fun m a1 a2=>by
    have:m=n:=by omega
    rw[this];exact hw2
   rw[cb]at z;have same:(∀k m,fM its k=some m→lu cA ins chk m=true→(m<p↔m<n))→bH C env (ls.take n) (s p) I.op=some (ls[n],s p):=fun h=>by
    rw[C5 hT hp G l.guards l.onto a5 (by omega) h];exact z
   have N:(n,p)∈chk→bH C env (ls.take n) (s p) I.op=some (ls[n],s p):=fun h=>by
    rw[G n p I h hI,Lp T]
   rcases B hw2 with h0|⟨hz,r⟩
   ·exact XO h0 z (s p)
   rcases g.1 with rfl|⟨k,m,X,bl,b7,rfl⟩
   ·rcases hz with⟨k,m,b1,b2,b3⟩|hz|hz
    ·have:=(g.2 k m b1 b2).1 (hb k b3);omega
    ·exact same fun k m b1 b2=>⟨fun h=>by omega,fun h=>absurd h (hz k m b1 b2)⟩
    exact N hz
   rcases r k m bl b7 with h|⟨k',m',b1,b2,b3,b4⟩|⟨b1,b2⟩|h
   ·exact absurd (cl k i X h) hi
   ·have:=(g.2 k' m' b1 b2).1 (hb k' b4);omega
   ·exact same fun k' m' e1 e2=>⟨fun h=>by omega,fun h=>by
     by_cases e:m<m'
     ·exact absurd h (b2 k' m' e1 e2 e)
     omega⟩
   exact N h
 rw[a8]at E;have D:Region.wanted o (yielded ops a.tmps)=false:=Uu bh E a4;rw[if_neg (by rw[D];simp)];refine⟨fun f _=>hF.fn f,?_⟩;have ah:R M w c ((sX its i).eval env ls) undef:=by rw[U,z];exact R.undef
 cases hw2:lu cA ins chk n with
 |true=>exact ad _ w c (n+1) (by rw[h3,←O hw2];exact hs) (.refl c w) (ag hw2) ah
 |false=>exact ad _ w c p hs (.refl c w) (ae hw2) ah
end Go.AM
