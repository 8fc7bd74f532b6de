/- Part of the proof. -/
import Derived.Test.YtmpmbfpkpannjaaGreatDoorCm03
import Derived.Laws.BytesArg
import Derived.OrdersIn
set_option linter.unusedVariables false
set_option linter.unusedSimpArgs false
set_option linter.unusedSectionVars false
namespace Go.AM
variable {M:dm} {w:World} {P:Program}
theorem abO{c:dk}{op:BinOp}{T:TypeId}{a b:ByteArray}{v:aq}(h:eT op a.data.toList b.data.toList=some v) :
  ∃cv,(binOp op T (.string a) (.string b)).run P w=.ok cv w∧R M w c v cv:=by
 have f:∀op,(binOp op T (.string a) (.string b))=Op.stringOp op a b:=fun op=>by cases op<;>rfl
 rw[f];have d:a.toList=a.data.toList:=ByteArray.toList_eq ..;have e:b.toList=b.data.toList:=ByteArray.toList_eq ..;have l:bD=68719476736:=rfl;cases op<;>simp only[eT]at h<;>first|(cases h;done)|skip
 case add=>
  split at h
  ·rename_i k;cases h;have i:¬(((a.size+b.size:Nat):Int)>IntKind.i64.max):=by
    have j:a.data.toList.length=a.size:=by rw[cR];rfl
    have g:b.data.toList.length=b.size:=by rw[cR];rfl
    have:IntKind.i64.max=9223372036854775807:=by decide
    rw[this];omega
   refine⟨.string (a++b),?_,.str (by simp[ByteArray.data_append])⟩;simp only[Op.stringOp,i,cH];rfl
  cases h
 all_goals
  cases h;refine⟨.bool _,?_,.bool⟩;simp only[Op.stringOp,d,e];rfl
theorem YP{c:dk}{x v:aq}{e:Value}(o:R M w c x e){n l h:Nat}(m:JK x=some n){lo hi:Option Value}(d:(lo=none∧l=0)∨∃k,lo=some (.int k (l:Int)))
  (b:(hi=none∧h=n)∨∃k,hi=some (.int k (h:Int))) (a:vK x l h=some v) {T:TypeId} (g:P.underlying T=some .string) :
  ∃cv,(Instr.sliceAt T e lo hi none).run P w=.ok cv w∧R M w c v cv:=by
 obtain⟨s,t,rfl,rfl,f,p⟩:=aaG o m;simp only[vK]at a;split at a
 ·rename_i j;cases a;have q:s.length=t.size:=by rw[←f,cR];rfl
  refine⟨.string (t.extract l h),?_,.str (by rw[ByteArray.data_extract,Array.toList_extract,f])⟩;have i:=xF (P:=P) (w:=w) (len:=t.size) (cap:=t.size) (isS:=false) d (by rw[p];exact b) j.1 (by omega);simp[Instr.sliceAt,run_underlying g,Instr.slice,i]
 cases a
theorem aiz{c:dk}{x v:aq}{d a:Value}(p:R M w c x d){n:Nat}(hi:∃k,a=.int k (n:Int))(h:N8 n x=some v){T:TypeId}(m:P.underlying T=some .string) :
  ∃cv,(Instr.index T d a).run P w=.ok cv w∧R M w c v cv:=by
 obtain⟨k,rfl⟩:=hi;unfold N8 at h;split at h
 ·cases p with|@str _ s t o=>
  simp only[aT]at h;obtain⟨b,e,rfl⟩:=h;have f:t[n]?=some b:=by
   rw[←o]at e;have g:t.data[n]?=some b:=by simpa using e
   obtain⟨i,j⟩:=bF.1 g;have l:n<t.size:=i;rw[getElem?_pos t n l];exact congrArg some j
  refine⟨_,?_,.int⟩;simp[Instr.index,asIntOf,run_underlying m,f]
 cases h
theorem G9{c:dk}(lt:Bool):∀(f:List aq) (d:List Value) (x v:aq) (g:Value),R M w c x g→d.length=f.length→(∀i (h:i<f.length) (B:i<d.length),R M w c f[i] d[i])→xa lt x f=some v →
  ∃cv,(d.foldlM (if lt then Builtin.min2 else Builtin.max2) g).run P w=.ok cv w∧R M w c v cv
 |[],[],x,v,g,m,_,_,h=>by simp only[xa,aK]at h;subst h;exact⟨g,rfl,m⟩
 |[],_::_,_,_,_,_,h,_,_=>by simp at h
 |_::_,[],_,_,_,_,h,_,_=>by simp at h
 |y::f,cy::d,x,v,g,m,A,o,h=>by
  have p:=o 0 (by simp) (by simp);simp only[cX]at p;unfold xa at h;split at h
  ·rename_i u;cases u
  ·rename_i k a C b r j;injection j with q s;subst q s;split at h
   ·rename_i z;subst z;cases m;cases p;obtain⟨cv,n,t⟩:=G9 lt f d _ v _ (.int (M:=M) (w:=w) (c:=c)) (by simpa using A) (fun i hi l=>by have:=o (i+1) (by simpa using hi) (by simpa using l);simpa using this) h;refine⟨cv,?_,t⟩;rw[List.foldlM_cons,Sem.run_bind];cases lt
    ·have e:((if false=true then Builtin.min2 else Builtin.max2) (.int k a) (.int k b)).run P w=.ok (.int k (if b>a then b else a)) w:=rfl;rw[e];simpa using n
    have e:((if true=true then Builtin.min2 else Builtin.max2) (.int k a) (.int k b)).run P w=.ok (.int k (if b<a then b else a)) w:=rfl;rw[e];simpa using n
   cases h
  cases h
theorem Y3{c:dk}{σ:aw}(D:fd M w c σ){x v:aq}{q:Value}(a:R M w c x q){n:Nat}(h:abB σ n x=some v){T e:TypeId}(s:P.underlying T=some (.array n e))(u:(P.info? e).map (·.size)=some 1)(y:n≠0) :
  ∃cv,(Instr.sliceAt T q none none none).run P w=.ok cv w∧R M w c v cv:=by
 unfold abB at h;split at h
 ·split at h
  ·rename_i id ep i o C;cases h;obtain⟨k,b,g,r,m,rfl⟩:=zX D a C;refine⟨_,?_,.asl g r m⟩;have p:=xF (P:=P) (w:=w) (len:=n) (cap:=n) (isS:=false) (l:=0) (h:=n) (lo:=none) (hi:=none) (.inl ⟨rfl,rfl⟩) (.inl ⟨rfl,rfl⟩) (cI _) (aF _);simp[Instr.sliceAt,run_underlying s,Instr.sureAddr,p,gf u,y,kJ]
  cases h
 ·split at h
  ·rename_i cs B;obtain⟨rfl,d⟩:=B;cases h;have z:∀x∈cs,aM x=1∧isAgg x=false:=fun x a=>by
    have:=bd.1 d x a;simpa using this
   cases a with
   |@cptr _ _ _ _ o blk f g r m A=>
    refine⟨.slice (some ⟨blk,o,none⟩) cs.length cs.length,?_,?_⟩
    ·have p:=xF (P:=P) (w:=w) (len:=cs.length) (cap:=cs.length) (isS:=false) (l:=0) (h:=cs.length) (lo:=none) (hi:=none) (.inl ⟨rfl,rfl⟩) (.inl ⟨rfl,rfl⟩) (cI _) (aF _);simp[Instr.sliceAt,run_underlying s,Instr.sureAddr,p,gf u,y,kJ]
    refine .aa 1 (fun i _=>f i) (by simpa using g) rfl (aF _) (by omega) (fun x a=>(z x a).1) (fun i j hi t=>?_) (fun i hi j t=>?_)
    ·have:j=0:=by omega
     subst this;have:=m i hi;simpa using this
    have e:=rt (z _ (aJ hi)).2;simp only[e,bw,bE]at t ⊢;have:j=0:=by omega
    subst this;exact A i hi
  cases h
 cases h
theorem fd.setRow{c:dk}{σ:aw}{w':World}(q:fd M w c σ){id k ep b:Nat}{es es':List aq}(v:σ[id]?=some (.arr k ep es))(n:c.place id=some b){cs cs':Array Value}{T:TypeId}(A:w.heap[b]?=some (.cells cs T (0,0)))
  (r:u7 w w' b (.cells cs' T (0,0))) (E:cs'.size=cs.size) (l:c.room id=cs.size) (B:k≠0) (m:∀x∈es',aM x=k) (t:es'.length*k≤cs.size) (f:Nat→Nat→Value)
  (z:∀i j,i<es'.length→j<k→cs'[i*k+j]?=some (f i j)∧(f i j).oneCell'=true) (C:∀i (hi:i<es'.length) j (s:j<(cellsOf es'[i]).length),R M w c (cellsOf es'[i])[j] (f i j)) :
  fd M w' c (σ.set id (.arr k ep es'))∧iW c w c w':=by
 have a:c.H id≠.dead:=by rw[q.H,fe v];simp
 have g:=q.plow id b a n;have d:Ext c w c w':=⟨fun _ h=>h,fun _ h=>h,fun y D=>by rw[r.get _ g.1,if_neg (fun e=>by subst e;exact g.2 (D.elim (fun h=>h) (q.sb _)))],aF _,fun _ _=>.inl rfl,fun _ _ _ _=>⟨rfl,rfl,rfl⟩⟩
 have p:wF M w' c id (.arr k ep es'):=⟨B,m,fun u=>(by rw[n]at u;cases u),fun F o=>by
  rw[n]at o;cases o;exact⟨cs',T,f,by rw[r.get _ g.1,if_pos rfl],by omega,by rw[E];exact l,z,fun i hi j s=>(C i hi j s).ext d⟩⟩
 exact⟨(q.setObj v n r p).1,iW.setB q a n r d⟩
theorem sl_inv{c:dk}{σ:aw}(j:fd M w c σ){id ep off n:Nat}{e:Value}(l:R M w c (.sl id ep off n) e){k:Nat}{es:List aq}(i:σ[id]?=some (.arr k ep es)) :
  (n=0∧∃a cap,e=.slice a 0 cap)∨∃b cap,c.place id=some b∧e=.slice (some ⟨b,off*k,none⟩) n cap:=by
 have f:c.H id=.arr k ep:=by rw[j.H,fe i]
 cases l with
 |sl g d h o p=>rw[f]at d;cases d;exact .inr ⟨_,_,h,rfl⟩
 |sl0=>exact .inl ⟨rfl,_,_,rfl⟩
 |slOld m g d=>exact absurd (d _ _ f) (dG _)
theorem Rr{f:Type}{p:f→Prop}{es e:List f}{a b:Nat}(d:∀x∈es,p x)(g:∀x∈e,p x):∀x∈es.take a++e++es.drop b,p x:=fun x c=>by
 rcases ba.1 c with c|c
 ·rcases ba.1 c with c|c
  ·exact d x (cL c)
  exact g x c
 exact d x (dR c)
theorem fd.lay{c:dk}{σ:aw}(D:fd M w c σ){id k ep b off:Nat}{es a:List aq}(B:σ[id]?=some (.arr k ep es))(y:c.place id=some b){A:Array Value}(L:pz M w c k a A)(l:∀x∈a,aM x=k)(q:off+a.length≤es.length) :
  ∃w',(storeCells ⟨b,off*k,none⟩ A.toList).run P w=.ok () w'∧fd M w' c (σ.set id (.arr k ep (es.take off++a++es.drop (off+a.length))))∧iW c w c w':=by
 obtain⟨E,U,o3,V⟩:=D.obj id _ B;obtain⟨cs,T,F,G,q2,W,X,H⟩:=V b y;obtain⟨r,g,t,I⟩:=L;have N:(off+a.length)*k≤es.length*k:=cu k q;rw[dN]at N
 obtain⟨w',cs',O,R,S,f⟩:=nT (P:=P) b (off*k) T A.toList 0 cs w G (by simp[r];omega) (fun v Q=>by
  obtain⟨p,C,rfl⟩:=cM.1 Q;simp only[cR,r]at C;have z:0<k:=gn E;have u:p/k<a.length:=(kY z).2 C;have s:p%k<k:=Nat.mod_lt _ z;have:=t _ _ u s;have e:p/k*k+p%k=p:=by have:=pv p k;rw[ij]at this;omega
  rw[e]at this;rw[cQ (by omega)]at this;simp only[iU];rw[dW this.1];exact this.2)
 have d:(es.take off++a++es.drop (off+a.length)).length=es.length:=by simp;omega
 have o:∀p,cs'[p]?=if off*k≤p∧p<off*k+a.length*k then A[p-off*k]? else cs[p]?:=fun p=>by
  rw[f p];simp only[ew,cR,r,ff]
 refine⟨w',O,D.setRow B y G R S W E (Rr U l) (by rw[d];omega) (fun i j=>if off≤i∧i<off+a.length then g (i-off) j else F i j) (fun i j hi f=>?_) (fun i hi j f=>?_)⟩
 ·rw[d]at hi;rw[o];by_cases m:off≤i∧i<off+a.length
  ·rw[if_pos m];have K:i*k+j-off*k=(i-off)*k+j:=by rw[Nat.sub_mul];have:=cu k m.1;omega
   have Z:=rF (i:=i-off) (j:=j) (k:=k) (n:=a.length) (by omega) f;have e3:=cu k m.1;rw[if_pos ⟨by omega,by omega⟩,K];exact t (i-off) j (by omega) f
  rw[if_neg m,if_neg]
  ·exact X i j hi f
  rintro⟨Y,J⟩;rw[←Nat.add_mul]at J;apply m;constructor
  ·by_cases h:off≤i
   ·exact h
   have:(i+1)*k≤off*k:=cu k (by omega);rw[dN]at this;omega
  by_cases h:i<off+a.length
  ·exact h
  have:(off+a.length)*k≤i*k:=cu k (by omega);omega
 rw[d]at hi;by_cases u:i<off
 ·have e:(es.take off++a++es.drop (off+a.length))[i]'(by rw[d];exact hi)=es[i]:=by
   rw[cg (by simp;omega),cg (by simp;omega),dO]
  simp only[e]at f ⊢;rw[if_neg (by omega)];exact H i hi j f
 by_cases s:i<off+a.length
 ·have e:(es.take off++a++es.drop (off+a.length))[i]'(by rw[d];exact hi)=a[i-off]'(by omega):=by
   rw[cg (by simp;omega),cP (by simp;omega)];have:i-(es.take off).length=i-off:=by rw[de,eK (by omega)]
   simp only[this]
  simp only[e]at f ⊢;rw[if_pos ⟨by omega,s⟩];exact I (i-off) (by omega) j f
 have e:(es.take off++a++es.drop (off+a.length))[i]'(by rw[d];exact hi)=es[i]:=by
  rw[cP (by simp;omega)];simp only[eH];congr 1;simp;omega
 simp only[e]at f ⊢;rw[if_neg (by omega)];exact H i hi j f
theorem ano{c:dk}{σ t:aw}(o:fd M w c σ){x zero:aq}{D:Value}(v:R M w c x D)(h:ZI σ zero x=some t){T ty e:TypeId}(u:P.underlying T=some (.slice e))(S:rn M P e zero=true) :
  ∃cv w',(Builtin.clear_ #[T] ty #[D]).run P w=.ok cv w'∧fd M w' c t∧iW c w c w':=by
 obtain⟨i,z,_,_,U,V⟩:=so S;have B:R M w c zero z:=tt V;unfold ZI at h;split at h
 ·rename_i id ep off n;split at h
  ·rename_i k E es r;split at h
   ·rename_i O;obtain⟨rfl,q,C⟩:=O;cases h;obtain⟨W,_⟩:=o.obj id _ r;rcases sl_inv o v r with⟨rfl,a,cap,rfl⟩|⟨b,cap,N,rfl⟩
    ·have f:es.take off++List.replicate 0 zero++es.drop (off+0)=es:=by simp
     have p:σ.set id (.arr k E es)=σ:=by
      apply eY;intro j;rw[dx];split
      ·rename_i d;subst d;split
       ·exact r.symm
       rename_i l;rw[fR (by omega)]
      rfl
     rw[f,p];refine⟨.tuple #[],w,?_,o,.refl c w⟩;cases a<;>simp[Builtin.clear_,run_underlying u]
    by_cases H:n=0
    ·subst H;have f:es.take off++List.replicate 0 zero++es.drop (off+0)=es:=by simp
     have p:σ.set id (.arr k E es)=σ:=by
      apply eY;intro j;rw[dx];split
      ·rename_i d;subst d;split
       ·exact r.symm
       rename_i l;rw[fR (by omega)]
      rfl
     rw[f,p];refine⟨.tuple #[],w,?_,o,.refl c w⟩;simp[Builtin.clear_,run_underlying u]
    obtain⟨g,G,Q,y⟩:=tR B (by omega);have L:pz M w c k (List.replicate n zero) (Builtin.zeroCells z.cells n):=by
     have s:z.cells.size=k:=by omega
     refine⟨by simp[Builtin.zeroCells,s],fun _ j=>g j,fun i j hi d=>?_,fun i hi j d=>?_⟩
     ·have A:i<n:=by simpa using hi
      have l:=rF A d;have f:(i*k+j)%k=j:=by rw[ij,ml,ll d]
      have p:=y j (by omega);have I:z.cells[j]! = g j:=by rw[getElem!_def,p]
      refine⟨?_,G.one j (by omega)⟩;simp[Builtin.zeroCells,s,l,f,I]
     have f:(List.replicate n zero)[i]=zero:=kx ..;simp only[f]at d ⊢;exact G.rel j d
    obtain⟨w',J,F,K⟩:=o.lay (P:=P) (off:=off) r N L (fun x v=>by rw[(List.mem_replicate.1 v).2];exact C) (by simpa using q);simp only[List.length_replicate]at F;refine⟨.tuple #[],w',?_,F,K⟩;obtain⟨m,rfl⟩:=Nat.exists_eq_succ_of_ne_zero H;simp[Builtin.clear_,run_underlying u,U,J]
   cases h
  cases h
 ·cases h;cases v with|@ai _ a=>
  refine⟨.tuple #[],w,?_,o,.refl c w⟩;cases a<;>simp[Builtin.clear_,run_underlying u]
 cases h
theorem WQ{a:Addr}{v:Value}{b:World}(h:(load a).run P w=.ok v b):b=w:=by
 rw[run_load]at h;split at h
 ·cases h;rfl
 split at h<;>cases h;rfl
theorem Fo(a:Addr):∀(n i:Nat) (b arr:Array Value) (w':World),(loadCellsFrom a i n b).run P w=.ok arr w' →
  ∃l:List Value,l.length=n∧arr=b++l.toArray∧∀j v,l[j]?=some v→(load (a.add (i+j))).run P w=.ok v w
 |0,i,b,arr,w',h=>by
  simp[loadCellsFrom]at h;exact⟨[],rfl,by simp[h.1],by simp⟩
 |n+1,i,b,arr,w',h=>by
  unfold loadCellsFrom at h;rw[Sem.run_bind]at h;cases hr:(load (a.add i)).run P w with
  |halt m g=>
   rw[hr]at h;cases h
  |ok v g=>
   have e:g=w:=WQ hr;rw[e]at hr;rw[hr]at h;obtain⟨l,k,d,c⟩:=Fo a n (i+1) (b.push v) arr w' h;refine⟨v::l,by simp[k],by simp[d],?_⟩;intro j u f;cases j with
   |zero=>
    simp at f;subst f;simpa using hr
   |succ j=>
    have:=c j u (by simpa using f);rw[show i+(j+1)=i+1+j by omega];exact this
theorem ZM{a:Addr}{n m:Nat}(y:m≤n){A:Array Value}{w':World}(h:(loadCells a n).run P w=.ok A w'):(loadCells a m).run P w=.ok (A.extract 0 m) w:=by
 obtain⟨l,x,s,g⟩:=Fo a n 0 #[] A w' h;have e:A.extract 0 m=(l.take m).toArray:=by
  rw[s];apply Array.ext';simp
 rw[e];have k:(l.take m).length=m:=by rw[de];omega
 have key:∀(q i:Nat) (b:Array Value) (d:List Value),d.length=q→(∀j v,d[j]?=some v→(load (a.add (i+j))).run P w=.ok v w)→(loadCellsFrom a i q b).run P w=.ok (b++d.toArray) w:=by
  intro q;induction q with
  |zero=>intro i b d f _;simp[loadCellsFrom,dc f]
  |succ q t=>
   intro i b d f o
   match d,f with
   |v::r,f=>
    have p:=o 0 v rfl;simp only[ew]at p;simp only[loadCellsFrom,Sem.run_bind,p,Result.andThen]
    rw[t (i+1) (b.push v) r (by simpa using f) (fun j u c=>by
     have:=o (j+1) u (by simpa using c)
     rwa [show i+(j+1)=i+1+j by omega]at this)]
    congr 1;apply Array.ext';simp
 have:=key m 0 #[] (l.take m) k (fun j v c=>g j v (by
  rw[gp]at c;split at c
  ·exact c
  cases c))
 simpa [loadCells] using this
theorem UJ{c:dk}{σ:aw}(s:fd M w c σ){y:aq}{cy:Value}(C:R M w c y cy){n:Nat}{m:List aq}(h:KU σ n y=some m)(z:m.length≤n){k:Nat}(G:k≠0)(g:∀x∈m,aM x=k) :
  ∃L,Nat.min L n=m.length∧(∀w',(Builtin.lenOf cy).run P w'=.ok L w')∧∃A,pz M w c k m A∧∀w',w'.heap=w.heap→(Builtin.firstCells k m.length cy).run P w'=.ok A w':=by
 unfold KU at h;split at h
 ·rename_i id ep off len;obtain⟨l,H,rfl⟩:=aT.1 h;have d:=H;simp only[rd,sliceAt]at d;split at d
  ·rename_i r e es I;split at d
   ·rename_i S;obtain⟨rfl,F⟩:=S;cases d;have p:((es.drop off).take len).length=len:=by simp;omega
    rcases sl_inv s C I with⟨rfl,a,cap,rfl⟩|⟨b,cap,W,rfl⟩
    ·refine⟨0,by simp,fun w'=>rfl,#[],by simpa using pz.nil,fun w' _=>?_⟩;cases a<;>simp[Builtin.firstCells,loadCells,loadCellsFrom]
    refine⟨len,by rw[de,p];exact Nat.min_comm ..,fun w'=>rfl,?_⟩;by_cases E:((es.drop off).take len).take n=[]
    ·rw[E];exact⟨#[],pz.nil,fun w' _=>by simp[Builtin.firstCells,loadCells,loadCellsFrom]⟩
    obtain⟨_,J,_⟩:=s.obj id _ I;have v:r=k:=by
     obtain⟨x,t⟩:=gy _ E;rw[←g x t];exact (J x (dR (cL (cL t)))).symm
    subst v;obtain⟨_,A,⟨K,f,D,N⟩,u⟩:=ac5 (P:=P) s C H G (fun x t=>J x (dR (cL t)));have q:(((es.drop off).take len).take n).length≤len:=by simp only[de,jp];omega
    rw[p]at K D u;have B:(((es.drop off).take len).take n).length*r≤len*r:=cu r q;refine⟨A.extract 0 ((((es.drop off).take len).take n).length*r),⟨by rw[Array.size_extract];omega,f,fun i j hi o=>?_,fun i hi j o=>?_⟩,fun w' U=>ZM B (u w' U)⟩
    ·have T:=rF (n:=(((es.drop off).take len).take n).length) hi o;have:=D i j (by omega) o;refine⟨?_,this.2⟩;rw[oQ,if_pos (by omega),cE];exact this.1
    have O:(((es.drop off).take len).take n)[i]=((es.drop off).take len)[i]'(by omega):=dO ..;simp only[O]at o ⊢;exact N i (by omega) j o
   cases d
  cases d
 obtain⟨V,A,Q,u⟩:=ac5 (P:=P) s C h G g;exact⟨m.length,eK z,V,A,Q,u⟩
theorem Je{T U ty e:TypeId}{k:Nat}(d:P.underlying T=some (.slice e))(g:(P.info? e).map (·.size)=some k){a:Option Addr}{n cap L m:Nat}{cy:Value}{A:Array Value}{w':World}(h:(Builtin.lenOf cy).run P w=.ok L w)(i:Nat.min L n=m)(f:(Builtin.firstCells k m cy).run P w=.ok A w)
  (c:∀b,a=some b→(storeCells b A.toList).run P w=.ok () w') (j:a=none→w'=w):(Builtin.copy_ #[T,U] ty #[.slice a n cap,cy]).run P w=.ok (.int .i64 m) w':=by
 cases a with
 |none=>obtain rfl:=j rfl;simp[Builtin.copy_,run_underlying d,h,i,gf g,f,goInt]
 |some b=>have:=c b rfl;simp[Builtin.copy_,run_underlying d,h,i,gf g,f,this,goInt]
theorem aiC{c:dk}{σ X:aw}(D:fd M w c σ){x y:aq}{cx cy:Value}(hx:R M w c x cx)(z:R M w c y cy){l:List aq}(V:KU σ (ack x) y=some l){k:Nat}(h:N7 σ k l x=some X){T U ty e:TypeId}(hT:P.underlying T=some (.slice e))(hk:(P.info? e).map (·.size)=some k) :
  ∃w',(Builtin.copy_ #[T,U] ty #[cx,cy]).run P w=.ok (.int .i64 (l.length:Int)) w'∧fd M w' c X∧iW c w c w':=by
 unfold N7 at h;split at h
 ·rename_i id ep i off n;split at h
  ·rename_i d e' es G;split at h
   ·rename_i hc;obtain⟨rfl,rfl,J,r⟩:=hc;simp only[aL]at h;obtain⟨q,ag,h⟩:=h;split at h
    ·rename_i ad;obtain⟨aj,Q⟩:=ad;cases h;have hH:c.H id=.arr d e':=by rw[D.H,fe G]
     obtain⟨b,hb,rfl⟩:∃b,c.place id=some b∧cx=.slice (some ⟨b,i*d+off,none⟩) n n:=by
      cases hx with
      |asl Y E h3=>rw[hH]at E;cases E;exact⟨_,h3,rfl⟩
      |aslOld Y E=>exact absurd (E _ _ hH) (dG _)
     have t:∀y∈l,aM y=1∧isAgg y=false:=fun y z=>by
      have:=bd.1 r y z;simpa using this
     obtain⟨L,Z,r1,A,⟨a1,g,a2,a3⟩,r3⟩:=UJ (P:=P) D z V J (k:=1) (by omega) (fun y z=>(t y z).1);obtain⟨o1,o2,o3,o4⟩:=D.obj id _ G;obtain⟨cs,T',F,q1,q2,q3,q4,q5⟩:=o4 b hb;obtain⟨hi,K⟩:=ak.1 ag;have ar:aM q=d:=by rw[←K];exact o2 _ (aJ _)
     have an:=pB (v:=q) (by omega);have al:i*d+d≤es.length*d:=by have:(i+1)*d≤es.length*d:=cu d hi;rwa [dN,Nat.one_mul]at this
     obtain⟨w',cs',hr,hw,hz,hj⟩:=nT (P:=P) b (i*d+off) T' A.toList 0 cs w q1 (by simp[a1];omega) (fun v hv=>by
      obtain⟨p,hp,rfl⟩:=cM.1 hv;simp only[cR,a1,jX]at hp;have:=a2 p 0 hp (by omega);rw[jX,ew,cQ (by omega)]at this;simp only[iU];rw[dW this.1];exact this.2)
     have O:∀p,cs'[p]?=if i*d+off≤p∧p<i*d+off+l.length then A[p-(i*d+off)]? else cs[p]?:=fun p=>by
      rw[hj p];simp only[ew,cR,a1,ff,jX]
     have S:((cellsOf q).take off++l++(cellsOf q).drop (off+l.length)).length=d:=by simp;omega
     have I:=D.setRow (es':=es.set i (.agg ((cellsOf q).take off++l++(cellsOf q).drop (off+l.length)))) G hb q1 hw hz q3 o1 (fun y z=>by
       rcases eV z with h|h
       ·exact o2 y h
       ·rw[h];exact S) (by simpa using q2) (fun f j=>if f=i∧off≤j∧j<off+l.length then g (j-off) 0 else F f j) (fun f j u o=>by
       simp only[gg]at u;rw[O];by_cases m:f=i
       ·subst m;by_cases N:off≤j∧j<off+l.length
        ·rw[if_pos ⟨by omega,by omega⟩,if_pos ⟨rfl,N⟩];have B:f * d+j-(f * d+off)=(j-off)*1+0:=by omega
         rw[B];exact a2 (j-off) 0 (by omega) (by omega)
        rw[if_neg (by omega),if_neg (fun h=>N h.2)];exact q4 f j u o
       have af:¬(i*d+off≤f * d+j∧f * d+j<i*d+off+l.length):=by
        rintro⟨b1,b2⟩;rcases Nat.lt_or_gt_of_ne m with h|h
        ·have:(f+1)*d≤i*d:=cu d h;rw[dN]at this;omega
        have:(i+1)*d≤f * d:=cu d h;rw[dN]at this;omega
       rw[if_neg af,if_neg (fun h=>m h.1)];exact q4 f j u o)
      (fun f u j o=>by
       have ae:f < es.length:=by simpa using u
       by_cases m:f=i
       ·subst m;have e0:∀L,cellsOf (.agg L)=L:=fun _=>rfl;simp only[iJ,e0]at o ⊢;rw[S]at o;have H:∀(h:j<(cellsOf q).length),R M w c (cellsOf q)[j] (F f j):=fun h=>by
         have:=q5 f hi j (by rw[K];exact h);simp only[K]at this;exact this
        by_cases Y:j<off
        ·rw[if_neg (by omega),cg (by simp;omega),cg (by simp;omega),dO];exact H (by omega)
        by_cases E:j<off+l.length
        ·rw[if_pos ⟨trivial,by omega,E⟩,cg (by simp;omega),cP (by simp;omega)];have B:j-((cellsOf q).take off).length=j-off:=by rw[de,eK (by omega)]
         simp only[B];have W:=t _ (aJ (show j-off<l.length by omega));have:=a3 (j-off) (by omega) 0 (by rw[rt W.2];simp);simpa [rt W.2] using this
        rw[if_neg (by omega),cP (by simp;omega)];simp only[eH];have B:off+l.length+(j-((cellsOf q).take off++l).length)=j:=by simp;omega
        simp only[B];exact H (by omega)
       have B:(es.set i (.agg ((cellsOf q).take off++l++(cellsOf q).drop (off+l.length))))[f]=es[f]:=by rw[gV (fun h=>m h.symm)]
       simp only[B]at o ⊢;rw[if_neg (fun h=>m h.1)];exact q5 f ae j o)
     exact⟨w',Je hT hk (r1 w) Z (r3 w rfl) (fun b' C=>by cases C;exact hr) (fun h=>by cases h),I.1,I.2⟩
    cases h
   cases h
  cases h
 ·rename_i id ep off n;split at h
  ·rename_i d e' es G;split at h
   ·rename_i hc;obtain⟨rfl,rfl,J,Q,r⟩:=hc;cases h;obtain⟨o1,_⟩:=D.obj id _ G;have s:∀y∈l,aM y=d:=fun y z=>by simpa using bd.1 r y z
    obtain⟨L,Z,r1,A,hA,r3⟩:=UJ (P:=P) D z V J o1 s;rcases sl_inv D hx G with⟨rfl,a,cap,rfl⟩|⟨b,cap,hb,rfl⟩
    ·have ah:l=[]:=dc (by omega);subst ah;have B:es.take off++[]++es.drop (off+([]:List aq).length)=es:=by simp
     have e2:σ.set id (.arr d e' es)=σ:=by
      apply eY;intro j;rw[dx];split
      ·rename_i hj;subst hj;split
       ·exact G.symm
       rename_i ao;rw[fR (by omega)]
      rfl
     rw[B,e2];have ab:A=#[]:=by have:=hA.1;simp at this;exact this
     subst ab;exact⟨w,Je hT hk (r1 w) Z (r3 w rfl) (fun b' C=>by simp[storeCells]) (fun _=>rfl),D,.refl c w⟩
    obtain⟨w',Y,E,h3⟩:=D.lay (P:=P) (off:=off) G hb hA s (by omega);exact⟨w',Je hT hk (r1 w) Z (r3 w rfl) (fun b' C=>by cases C;exact Y) (fun h=>by cases h),E,h3⟩
   cases h
  cases h
 cases h
end Go.AM
namespace Go.AM
variable {M:dm} {w:World} {P:Program}
theorem I3:∀{ks:List Nat} {a b:List aq},eR ks a b=some true→a.length=ks.length→b.length=ks.length→a=b
 |[],[],[],_,_,_=>rfl
 |[],_::_,_,_,h,_=>by simp at h
 |[],[],_::_,_,_,h=>by simp at h
 |k::ks,[],_,_,h,_=>by simp at h
 |k::ks,_::_,[],_,_,h=>by simp at h
 |k::ks,x::a,y::b,h,c,d=>by
  simp only[eR]at h;split at h
  ·cases hc:lR x y with
   |none=>rw[hc]at h;cases h
   |some t=>
    rw[hc]at h;cases t with
    |false=>simp at h
    |true=>
     simp only[cF,cw]at h;rw[FL hc,I3 h (by simpa using c) (by simpa using d)]
  cases h
theorem yI{ks:List Nat}{k:aq}(h:gZ ks k=true):lX k=true:=by
 cases k<;>simp_all[gZ,lX]
theorem JV{ks:List Nat}{k e:aq}(d:gZ ks k=true)(h:o5 ks k e=some true):k=e:=by
 unfold o5 at h;split at h
 ·rename_i c;split at h
  ·simp only[aK,aX]at h;rw[h]
  ·rename_i a b;simp only[gZ,ax,aX]at d c;rw[I3 h (by rw[←d.1.2];simp) (by rw[←c.1.2];simp)]
  cases h
 cases h
theorem DO{c:dk}{k:aq}{x y:Value}(e:R M w c k x)(f:R M w c k y)(h:oF k=true):x=y:=by
 cases k<;>simp[oF]at h<;>cases e<;>cases f
 ·rfl
 ·rfl
 rename_i t b a d;have:t.data=a.data:=by apply Array.toList_inj.1;rw[b,d]
 have:t=a:=by cases t;cases a;simp_all
 rw[this]
theorem UF{c:dk}{k:aq}{x y:Value}(a:R M w c k x)(b:R M w c k y)(h:lX k=true):x=y:=by
 cases k with
 |int=>exact DO a b rfl
 |str=>exact DO a b rfl
 |agg cs=>
  simp only[lX,bd]at h;cases a with|agg f o j p l=>cases b with|agg g m d n e=>
  congr 1;apply eN;intro i;by_cases hi:i<cs.length
  ·rw[(j i hi).1,(d i hi).1,DO (l i hi) (e i hi) (h _ (aJ hi))]
  rw[dq (by omega),dq (by omega)]
 |_=>simp[lX]at h
theorem BC{c:dk}{k:aq}{x:Value}(a:R M w c k x)(h:oF k=true)(n:Nat):Instr.sameBits n x x=true:=by
 cases k<;>simp[oF]at h<;>cases a<;>cases n<;>first|(simp[Instr.sameBits];done)|(simp only[Instr.sameBits];rw[KA];simp)
theorem ZT{c:dk}{k:aq}{x:Value}(d:R M w c k x)(h:lX k=true):Instr.sameBits 10000 x x=true:=by
 cases k with
 |int=>exact BC d rfl _
 |str=>exact BC d rfl _
 |agg cs=>
  simp only[lX,bd]at h;cases d with|@agg _ _ vs f n j o l=>
  simp only[Instr.sameBits,eE,ej,bd];rintro⟨p,q⟩ m;obtain⟨i,hi,b⟩:=cM.1 m;simp only[List.getElem_zip,dY]at b;obtain⟨rfl,rfl⟩:=b;have a:i<cs.length:=by simp at hi;omega
  have e:=(j i a).1;rw[cQ (by omega)]at e;have g:vs.toList[i]'(by simp;omega)=f i:=by simpa using e
  rw[g];exact BC (l i a) (h _ (aJ a)) _
 |_=>simp[lX]at h
def rf(P:Program)(T:TypeId)(ks:List Nat):Bool:=match ks with
 |[]=>(match P.underlying T with|some .string=>true|_=>false)
 |ks=>(match P.underlying T with|some (.struct fs)=>!P.stoodInHeld T&&oq P 0 fs.toList ks|_=>false)
theorem Qi{e:Bool}{n:Nat}{T:TypeId}{k:Nat}(h:ri P T k=true)(v:Value):(Instr.checkKey e (n+1) T v).run P w=.ok () w:=by
 unfold ri at h;simp only[ax]at h;have a:=h.2;unfold Instr.checkKey;cases hd:P.underlying T with
 |none=>rw[hd]at a;cases a
 |some d=>
  simp only[Sem.run_bind,run_underlying hd,Result.andThen_ok];rw[hd]at a;cases d<;>first|(simp at a;done)|(cases v<;>rfl)
theorem ET{c:dk}{e:Bool}{n:Nat}{cs:Array Value}:∀{fs:List Field} {ks:List Nat} {i:Nat} {x:List aq},oq P i fs ks=true→gi M w c i x cs→x.length=ks.length →
  (forIn (m:=Sem) fs PUnit.unit fun f _=>(if f.name ≠ "_" then do (Instr.checkKey e (n+1) f.type (← part f.type cs f.offset));pure (.yield PUnit.unit) else pure (.yield PUnit.unit))).run P w=.ok PUnit.unit w
 |[],[],_,_,_,_,_=>rfl
 |[],_::_,_,_,h,_,_=>by simp[oq]at h
 |_::_,[],_,_,h,_,_=>by simp[oq]at h
 |f::fs,k::ks,i,[],_,_,h=>by simp at h
 |f::fs,k::ks,i,a::x,h,hx,hl=>by
  simp only[oq,ax,gQ,aX]at h;obtain⟨⟨⟨f1,f2⟩,f3⟩,f4⟩:=h;have hty:uo P f.type false 1=true:=by unfold ri at f3;simp only[ax]at f3;exact f3.1
  obtain⟨v1,p1,r1⟩:=hx.head;subst f2;simp only[List.forIn_cons,ne_eq,f1,kH,cw,Sem.run_bind,rz hty p1,Result.andThen_ok,Qi f3,Sem.run_pure];exact ET f4 hx.tail (by simpa using hl)
theorem AS{c:dk}{ks:List Nat}{k:aq}{ck:Value}(i:R M w c k ck)(b:gZ ks k=true){T:TypeId}(a:rf P T ks=true)(e:Bool):(Instr.checkKey e 10000 T ck).run P w=.ok () w:=by
 cases k with
 |str s=>
  have h:ks=[]:=by simpa [gZ] using b
  subst h;unfold rf at a;simp only at a;cases hd:P.underlying T with
  |none=>rw[hd]at a;cases a
  |some d=>
   rw[hd]at a;cases i;unfold Instr.checkKey;simp only[Sem.run_bind,run_underlying hd,Result.andThen_ok];cases d<;>first|(simp at a;done)|rfl
 |agg cs=>
  simp only[gZ,ax,gQ,aX]at b;obtain⟨⟨j,l⟩,t⟩:=b;unfold rf at a;split at a
  ·exact absurd rfl j
  split at a
  ·rename_i fs g;simp only[ax]at a;cases i with|@agg _ _ vs f m o p q=>
   have r:oA M w c cs vs:=R.rcells (.agg f m o p q);have:=ET (P:=P) (M:=M) (w:=w) (e:=e) (n:=9998) a.2 r.from (by rw[←l];simp);unfold Instr.checkKey;simp only[Sem.run_bind,run_underlying g,Result.andThen_ok];rw[←Array.forIn_toList]
   first|exact this|(simp only[Sem.run_bind,this,Result.andThen_ok];rfl)
  cases a
 |_=>simp[gZ]at b
theorem vv{c:dk}{ks:List Nat}{k e:aq}{ck n:Value}(D:R M w c k ck)(C:R M w c e n){t:Bool}(h:o5 ks k e=some t)(p:ks≠[]){T:TypeId}(d:rf P T ks=true):(Op.equal T ck n).run P w=.ok t w:=by
 unfold o5 at h;split at h
 ·rename_i o;split at h
  ·simp[gZ]at o;exact absurd o p
  ·rename_i a b;unfold rf at d;split at d
   ·exact absurd rfl p
   split at d
   ·rename_i fs g;simp only[ax]at d;have i:P.stoodInHeld T=false:=by simpa using d.1
    have f:P.fieldsOf T=fs:=by unfold Program.fieldsOf;rw[g]
    cases D with|@agg _ _ xs A q r s u=>cases C with|@agg _ _ m B v x y z=>
    have j:oA M w c a xs:=R.rcells (.agg A q r s u);have l:oA M w c b m:=R.rcells (.agg B v x y z);show (Op.equalIn 10000 T (.agg xs) (.agg m)).run P w=_;rw[run_equalIn_struct w 9999 T xs m (by rw[f];exact g) i,f];exact BT 9998 _ fs.toList 0 a b t d.2 j.from l.from h
   cases d
  cases h
 cases h
theorem xI{c:dk}{k e:aq}{ck a:Value}(i:R M w c k ck)(f:R M w c e a){t:Bool}(h:o5 [] k e=some t):Instr.sameNow .string ck a=some t:=by
 unfold o5 at h;split at h
 ·rename_i g;split at h
  ·cases i with|str b=>cases f with|str d=>
   cases h;simp only[Instr.sameNow];rw[KA,b,d]
  ·simp[gZ]at g
  cases h
 cases h
theorem Ff{c:dk}{k:aq}{ck:Value}(f:R M w c k ck):∀{es:List (aq×aq)} {en:List MapEntry} (n:Nat) {r:Option aq},kG M w c es en→dz [] k es=some r →
  (r=none∧Instr.findNow .string ck en n=some none)∨∃v i cv,r=some v∧Instr.findNow .string ck en n=some (some (i,cv))∧R M w c v cv
 |[],[],n,r,_,h=>by simp only[dz,aK]at h;exact .inl ⟨h.symm,rfl⟩
 |[],_::_,_,_,h,_=>by simp[kG]at h
 |_::_,[],_,_,h,_=>by simp[kG]at h
 |x::es,e::en,n,r,l,h=>by
  obtain⟨_,j,o⟩:=l.head;simp only[dz]at h;split at h
  ·rename_i g;have a:=xI f j g;cases h;exact .inr ⟨_,n,_,rfl,by simp[Instr.findNow,a],o⟩
  ·rename_i g;have a:=xI f j g;rcases Ff f (n+1) l.tail h with⟨b,d⟩|⟨v,i,cv,b,d,m⟩
   ·exact .inl ⟨b,by simp[Instr.findNow,a,d]⟩
   exact .inr ⟨v,i,cv,b,by simp[Instr.findNow,a,d],m⟩
  cases h
theorem FG{c:dk}{ks:List Nat}(j:ks≠[]){T:TypeId}(f:rf P T ks=true){k:aq}{ck:Value}(g:R M w c k ck):∀{es:List (aq×aq)} {en:List MapEntry} (n:Nat) {r:Option aq},kG M w c es en→dz ks k es=some r →
  (r=none∧(Instr.findAsking T ck en n).run P w=.ok none w)∨∃v i cv,r=some v∧(Instr.findAsking T ck en n).run P w=.ok (some (i,cv)) w∧R M w c v cv
 |[],[],n,r,_,h=>by simp only[dz,aK]at h;exact .inl ⟨h.symm,rfl⟩
 |[],_::_,_,_,h,_=>by simp[kG]at h
 |_::_,[],_,_,h,_=>by simp[kG]at h
 |x::es,e::en,n,r,o,h=>by
  obtain⟨_,m,q⟩:=o.head;simp only[dz]at h;split at h
  ·rename_i l;have a:=vv g m l j f;cases h;exact .inr ⟨_,n,_,rfl,by simp[Instr.findAsking,a],q⟩
  ·rename_i l;have a:=vv g m l j f;rcases FG j f g (n+1) o.tail h with⟨b,d⟩|⟨v,i,cv,b,d,p⟩
   ·exact .inl ⟨b,by simp[Instr.findAsking,a,d]⟩
   exact .inr ⟨v,i,cv,b,by simp[Instr.findAsking,a,d],p⟩
  cases h
theorem zY{T:TypeId}(a:rf P T []=true):P.underlying T=some .string:=by
 unfold rf at a;simp only at a;split at a
 ·assumption
 cases a
theorem vI{ks:List Nat}(c:ks≠[]){T:TypeId}(b:rf P T ks=true){ck:Value}{en:List MapEntry}{q:Option (Nat×Value)}(h:(Instr.findAsking T ck en 0).run P w=.ok q w):(Instr.findKey T ck en).run P w=.ok q w:=by
 unfold rf at b;split at b
 ·exact absurd rfl c
 split at b
 ·rename_i fs a;cases en with
  |nil=>
   simp only[Instr.findAsking,Sem.run_pure]at h;simp[Instr.findKey,run_underlying a,Instr.findNow,h]
  |cons e en=>
   have:Instr.findNow (.struct fs) ck (e::en) 0=none:=by
    unfold Instr.findNow;have:Instr.sameNow (.struct fs) ck e.key=none:=by cases ck<;>rfl
    rw[this]
   simp[Instr.findKey,run_underlying a,this,h]
 cases b
theorem Kp{c:dk}{ks:List Nat}{T:TypeId}(d:rf P T ks=true){k:aq}{ck:Value}(j:R M w c k ck){es:List (aq×aq)}{en:List MapEntry}{r:Option aq}(g:kG M w c es en)(h:dz ks k es=some r) :
  (r=none∧(Instr.findKey T ck en).run P w=.ok none w)∨∃v i cv,r=some v∧(Instr.findKey T ck en).run P w=.ok (some (i,cv)) w∧R M w c v cv:=by
 by_cases e:ks=[]
 ·subst e;rcases Ff j 0 g h with⟨a,b⟩|⟨v,i,cv,a,b,f⟩
  ·exact .inl ⟨a,kO (zY d) b⟩
  exact .inr ⟨v,i,cv,a,kO (zY d) b,f⟩
 rcases FG e d j 0 g h with⟨a,b⟩|⟨v,i,cv,a,b,f⟩
 ·exact .inl ⟨a,vI e d b⟩
 exact .inr ⟨v,i,cv,a,vI e d b,f⟩
theorem aeF{c:dk}{σ:aw}(H:fd M w c σ){ks:List Nat}{m k:aq}{u ck:Value}(G:R M w c m u)(o:R M w c k ck)(p:gZ ks k=true){es:List (aq×aq)}(h:zj σ m=some es){r:Option aq}(q:dz ks k es=some r)
  {T s y:TypeId} (n:P.underlying T=some (.map s y)) (g:rf P s ks=true) {zero:aq} (I:rn M P y zero=true) (ok:Bool) :
  ∃cv,(Instr.lookup T u ck ok).run P w=.ok cv w∧R M w c (if ok then .tup [r.getD zero,.bool r.isSome] else r.getD zero) cv:=by
 obtain⟨i,z,_,_,C,J⟩:=so I;have l:R M w c zero z:=tt J;have a:∀(x:aq) (j:Value) (t:Bool),R M w c x j→R M w c (if ok then .tup [x,.bool t] else x) (if ok then .tuple #[j,.bool t] else j):=fun x j t B=>by
  cases ok with
  |false=>exact B
  |true=>
   refine .tup (fun i=>if i=0 then j else .bool t) rfl (fun i hi=>?_) (fun i hi=>?_)
   ·simp at hi;have:i=0∨i=1:=by omega
    rcases this with rfl|rfl<;>rfl
   simp at hi;have:i=0∨i=1:=by omega
   rcases this with rfl|rfl
   ·exact B
   exact .bool
 have f:=fun e=>AS (P:=P) o p g e;rcases TD H G h with⟨rfl,rfl⟩|⟨b,en,K,rfl,A,E⟩
 ·simp only[dz,aK]at q;subst q;have F:(Instr.findKey s ck []).run P w=.ok none w:=by
   rcases Kp (es:=[]) (en:=[]) (r:=none) g o ⟨rfl,fun i hi=>absurd hi (by simp)⟩ rfl with⟨_,d⟩|⟨_,_,_,d,_⟩
   ·exact d
   cases d
  refine⟨_,?_,a zero z false l⟩;simp[Instr.lookup,run_underlying n,f,F,C]
 rcases Kp g o E q with⟨rfl,d⟩|⟨v,i,cv,rfl,d,D⟩
 ·refine⟨_,?_,a zero z false l⟩;simp[Instr.lookup,run_underlying n,nO A,f,d,C]
 refine⟨_,?_,a v cv true D⟩;simp[Instr.lookup,run_underlying n,nO A,f,d]
theorem JU{c:dk}{k v:aq}{ck cv:Value}(g:R M w c k ck)(y:R M w c v cv)(f:gZ [] k=true)(a:Nat):∀{es:List (aq×aq)} {en:List MapEntry} (n:Nat) {es':List (aq×aq)},kG M w c es en→re [] k v es=some es' →
  (Instr.findNow .string ck en n=some none∧kG M w c es' (en++[{ key:=ck,val:=cv,born:=a }])) ∨
  ∃i e b,Instr.findNow .string ck en n=some (some (n+i,b))∧en[i]?=some e∧e.key=ck∧kG M w c es' (en.set i { e with key:=ck,val:=cv })
 |[],[],n,_,_,h=>by
  simp only[re,aK]at h;subst h;refine .inl ⟨rfl,rfl,fun i hi=>?_⟩;have:i=0:=by simp at hi;exact hi
  subst this;exact⟨_,rfl,yI f,g,y⟩
 |[],_::_,_,_,h,_=>by simp[kG]at h
 |_::_,[],_,_,h,_=>by simp[kG]at h
 |x::es,e::en,n,es',p,h=>by
  obtain⟨t,o,E⟩:=p.head;simp only[re]at h;split at h
  ·rename_i q;have m:=xI g o q;cases h;have A:=JV f q;have l:e.key=ck:=UF o (A▸g) t;refine .inr ⟨0,e,e.val,by simp[Instr.findNow,m],rfl,l,by simpa using p.1,fun i hi=>?_⟩;cases i with
   |zero=>exact⟨_,rfl,t,A▸g,y⟩
   |succ i=>
    have:=p.2 (i+1) (by simpa using hi);simpa only [mU,eS,eg] using this
  ·rename_i q;have m:=xI g o q;simp only[aT]at h;obtain⟨j,u,rfl⟩:=h
   have cons:∀{d},kG M w c j d→kG M w c (x::j) (e::d):=fun {d} z=>⟨by simpa using z.1,fun i hi=>by
    cases i with
    |zero=>exact⟨_,rfl,t,o,E⟩
    |succ i=>
     have:=z.2 i (by simpa using hi);simpa only [eS,eg] using this⟩
   rcases JU g y f a (n+1) p.tail u with⟨r,s⟩|⟨i,D,b,r,s,B,C⟩
   ·exact .inl ⟨by simp[Instr.findNow,m,r],cons s⟩
   exact .inr ⟨i+1,D,b,by simp[Instr.findNow,m,r];omega,by simpa using s,B,by simpa using cons C⟩
  cases h
theorem J0{c:dk}{ks:List Nat}(z:ks≠[]){T:TypeId}(u:rf P T ks=true){k v:aq}{ck cv:Value}(g:R M w c k ck)(A:R M w c v cv)(f:gZ ks k=true)(a:Nat):∀{es:List (aq×aq)} {en:List MapEntry} (n:Nat) {es':List (aq×aq)},kG M w c es en→re ks k v es=some es' →
  ((Instr.findAsking T ck en n).run P w=.ok none w∧kG M w c es' (en++[{ key:=ck,val:=cv,born:=a }])) ∨
  ∃i e b,(Instr.findAsking T ck en n).run P w=.ok (some (n+i,b)) w∧en[i]?=some e∧e.key=ck∧kG M w c es' (en.set i { e with key:=ck,val:=cv })
 |[],[],n,_,_,h=>by
  simp only[re,aK]at h;subst h;refine .inl ⟨rfl,rfl,fun i hi=>?_⟩;have:i=0:=by simp at hi;exact hi
  subst this;exact⟨_,rfl,yI f,g,A⟩
 |[],_::_,_,_,h,_=>by simp[kG]at h
 |_::_,[],_,_,h,_=>by simp[kG]at h
 |x::es,e::en,n,es',p,h=>by
  obtain⟨t,o,G⟩:=p.head;simp only[re]at h;split at h
  ·rename_i q;have m:=vv g o q z u;cases h;have C:=JV f q;have l:e.key=ck:=UF o (C▸g) t;refine .inr ⟨0,e,e.val,by simp[Instr.findAsking,m],rfl,l,by simpa using p.1,fun i hi=>?_⟩;cases i with
   |zero=>exact⟨_,rfl,t,C▸g,A⟩
   |succ i=>
    have:=p.2 (i+1) (by simpa using hi);simpa only [mU,eS,eg] using this
  ·rename_i q;have m:=vv g o q z u;simp only[aT]at h;obtain⟨j,y,rfl⟩:=h
   have cons:∀{d},kG M w c j d→kG M w c (x::j) (e::d):=fun {d} B=>⟨by simpa using B.1,fun i hi=>by
    cases i with
    |zero=>exact⟨_,rfl,t,o,G⟩
    |succ i=>
     have:=B.2 i (by simpa using hi);simpa only [eS,eg] using this⟩
   rcases J0 z u g A f a (n+1) p.tail y with⟨r,s⟩|⟨i,F,b,r,s,D,E⟩
   ·exact .inl ⟨by simp[Instr.findAsking,m,r],cons s⟩
   exact .inr ⟨i+1,F,b,by simp[Instr.findAsking,m,r];omega,by simpa using s,D,by simpa using cons E⟩
  cases h
theorem aeg{c:dk}{ks:List Nat}{T:TypeId}(g:rf P T ks=true){k v:aq}{ck cv:Value}(p:R M w c k ck)(q:R M w c v cv)(j:gZ ks k=true)(a:Nat){es:List (aq×aq)}{en:List MapEntry}{es':List (aq×aq)}(o:kG M w c es en)(h:re ks k v es=some es') :
  ((Instr.findKey T ck en).run P w=.ok none w∧kG M w c es' (en++[{ key:=ck,val:=cv,born:=a }])) ∨
  ∃i e b,(Instr.findKey T ck en).run P w=.ok (some (i,b)) w∧en[i]?=some e∧e.key=ck∧kG M w c es' (en.set i { e with key:=ck,val:=cv }):=by
 by_cases l:ks=[]
 ·subst l;rcases JU p q j a 0 o h with⟨d,f⟩|⟨i,e,b,d,f,m,n⟩
  ·exact .inl ⟨kO (zY g) d,f⟩
  exact .inr ⟨i,e,b,kO (zY g) (by simpa using d),f,m,n⟩
 rcases J0 l g p q j a 0 o h with⟨d,f⟩|⟨i,e,b,d,f,m,n⟩
 ·exact .inl ⟨vI l g d,f⟩
 exact .inr ⟨i,e,b,vI l g (by simpa using d),f,m,n⟩
theorem U8{c:dk}{σ U:aw}(C:fd M w c σ){ks:List Nat}{m k v:aq}{cm ck cv:Value}(hm:R M w c m cm)(hk:R M w c k ck)(hv:R M w c v cv)(h:Iy ks σ k v m=some U)
  {T kt et:TypeId} (hT:P.underlying T=some (.map kt et)) (K:rf P kt ks=true) :
  ∃w',(Instr.mapUpdate T cm ck cv).run P w=.ok () w'∧fd M w' c U∧iW c w c w':=by
 unfold Iy at h;split at h
 ·rename_i id;simp only[aL]at h;obtain⟨es,W,X⟩:=h;split at X
  ·rename_i B;simp only[aT]at X;obtain⟨es',h3,rfl⟩:=X;unfold ic at W;split at W
   ·rename_i ah L;cases W;obtain⟨b,D,en,f,g,S,Z,q3,q4,q5,q6⟩:=C.obj id _ L;have hH:c.H id=.map:=by rw[C.H,fe L]
    have s:kG M w c es en.toList:=⟨by simpa using q3,fun i hi=>by
     obtain⟨e,q,E,F,G⟩:=q4 i hi;exact⟨e,by simpa using q,G.1,E▸q5 i hi,F▸q6 i hi⟩⟩
    have hB:∀e∈en.toList,e.born<D:=fun e s=>by
     obtain⟨i,hi,rfl⟩:=cM.1 s;obtain⟨e',q,_,_,_,e5⟩:=q4 i (by simpa [q3] using hi);rw[cQ (by simpa using hi)]at q;cases q;simpa using e5
    have ad:cm=.map (some b):=by
     cases hm with
     |mp a1 a2 a3=>rw[S]at a3;cases a3;rfl
     |mpOld a0 a1 a2=>rw[hH]at a2;cases a2
    subst ad;have af:=(ak.1 L).1;have H:∀(a:Array MapEntry) (d:Nat),kG M w c es' a.toList→(∀e∈a.toList,e.born<d)→(Instr.mapUpdate T (.map (some b)) ck cv).run P w=.ok () { w with heap:=w.heap.setIfInBounds b (.map a d) } →
      ∃w',(Instr.mapUpdate T (.map (some b)) ck cv).run P w=.ok () w'∧fd M w' c (σ.set id (.map es'))∧iW c w c w':=fun a d r ab O=>by
     have n:u7 w { w with heap:=w.heap.setIfInBounds b (.map a d) } b (.map a d):=⟨⟨rfl,rfl,rfl,aF _⟩,rfl⟩;have p:c.H id≠.dead:=by rw[hH];simp
     have z:=C.plow id b p S;have o:Ext c w c { w with heap:=w.heap.setIfInBounds b (.map a d) }:=⟨fun _ h=>h,fun _ h=>h,fun y hy=>by rw[n.get _ z.1,if_neg (fun e=>by subst e;exact z.2 (hy.elim (fun h=>h) (C.sb _)))],aF _,fun _ _=>.inl rfl,fun _ _ _ _=>⟨rfl,rfl,rfl⟩⟩;have N:wF M { w with heap:=w.heap.setIfInBounds b (.map a d) } c id (.map es'):=by
      refine⟨b,d,a,fun i=>((a[i]?).map (·.key)).getD undef,fun i=>((a[i]?).map (·.val)).getD undef,S,by rw[n.get _ z.1,if_pos rfl],by simpa using r.1,fun i hi=>?_,fun i hi=>?_,fun i hi=>?_⟩
      ·obtain⟨e,q,E,F,G⟩:=r.2 i hi;have l:a[i]?=some e:=by simpa using q
       exact⟨e,l,by dsimp only;rw[l];rfl,by dsimp only;rw[l];rfl,E,ab e (aN (by simpa using l))⟩
      ·obtain⟨e,q,E,F,G⟩:=r.2 i hi;have l:a[i]?=some e:=by simpa using q
       dsimp only;rw[l];exact F.ext o
      obtain⟨e,q,E,F,G⟩:=r.2 i hi;have l:a[i]?=some e:=by simpa using q
      dsimp only;rw[l];exact G.ext o
     obtain⟨Q,_⟩:=C.setObj' L (by simp) (by rw[fe (aW af),fe L]) S n N;exact⟨_,O,Q,iW.setB C p S n o⟩
    have I:=fun e=>AS (P:=P) hk B K e;rcases aeg K hk hv B D s h3 with⟨b1,V⟩|⟨i,e,ag,b1,V,b3,b4⟩
    ·refine H (en.push { key:=ck,val:=cv,born:=D }) (D+1) (by simpa using V) (fun e s=>by
      simp only[Array.toList_push,ba,aP]at s;rcases s with s|rfl
      ·exact nP (hB e s)
      exact oW _) ?_
     simp[Instr.mapUpdate,run_underlying hT,nO Z,I,b1,w8 _ Z]
    have u:en[i]?=some e:=by simpa using V
    have hi:i<en.size:=(bF.1 u).1;have ae:en[i]=e:=(bF.1 u).2;have t:(en.modify i fun e=>{ e with key:=ck,val:=cv }).toList=en.toList.set i { e with key:=ck,val:=cv }:=by
     apply eY;intro j;simp only[ff,gw,dx];by_cases J:i=j
     ·subst J;simp[hi,ae]
     simp[J]
    refine H (en.modify i fun e=>{ e with key:=ck,val:=cv }) D ?_ (fun x Y=>by
     rw[t]at Y;rcases eV Y with Y|rfl
     ·exact hB x Y
     exact hB e (aN V)) ?_
    ·rw[t];exact b4
    have A:(Instr.keyThatStays ck ck).run P w=.ok ck w:=by simp[Instr.keyThatStays,ZT hk (yI B)]
    simp[Instr.mapUpdate,run_underlying hT,nO Z,I,b1,u,b3,A,w8 _ Z]
   cases W
  cases X
 cases h
end Go.AM
namespace Go.AM
variable {M:dm} {w:World} {P:Program}
theorem Fi:∀{d:List aq} {a:List UInt8},yJ d=some a→∃b:List Int,d=b.map (aq.int .u8)∧a=b.map fun n=>UInt8.ofNat n.toNat
 |[],a,h=>by
  simp only[yJ,aK]at h;exact⟨[],rfl,h.symm⟩
 |x::r,a,h=>by
  unfold yJ at h;split at h
  ·rename_i c;cases c
  ·rename_i n g c;cases c;obtain⟨f,e,rfl⟩:=aT.1 h;obtain⟨b,rfl,rfl⟩:=Fi e;exact⟨n::b,rfl,rfl⟩
  cases h
theorem Fe:∀(a:List Int) (s:ByteArray),(a.foldl (fun r n=>r.push (UInt8.ofNat n.toNat)) s).data.toList=s.data.toList++a.map fun n=>UInt8.ofNat n.toNat
 |[],s=>by simp
 |n::a,s=>by
  rw[dZ,Fe a];have:(s.push (UInt8.ofNat n.toNat)).data.toList=s.data.toList++[UInt8.ofNat n.toNat]:=by
   show (s.data.push _).toList=_;simp
  rw[this];simp
theorem anH{c:dk}{σ:aw}(E:fd M w c σ){x v:aq}{m:Value}(F:R M w c x m)(h:abd σ x=some v){S T e:TypeId}(B:P.underlying S=some (.slice e))(D:P.underlying e=some (.int .u8))(C:P.underlying T=some .string) :
  ∃cv,(convert S T m).run P w=.ok cv w∧R M w c v cv:=by
 unfold abd at h;split at h
 ·cases h
 rename_i r;obtain⟨Z,b,H⟩:=aL.1 h;obtain⟨W,I,rfl⟩:=aT.1 H;obtain⟨g,rfl,rfl⟩:=Fi I;obtain⟨Q,A,o,j⟩:=ac5 (P:=P) E F b (k:=1) (by omega) (fun y O=>by obtain⟨n,_,rfl⟩:=bM.1 O;rfl);have d:=Q w;have s:=j w rfl;obtain⟨l,f,K,J⟩:=o;cases m with
 |slice a len cap=>
  have p:len=g.length:=by simpa [Builtin.lenOf] using d
  subst p;cases a with
  |none=>
   simp only[Builtin.firstCells,Sem.run_pure,Result.ok.injEq,and_true]at s;subst s;have L:g=[]:=by
    apply dc;simpa using l.symm
   subst L;exact⟨.string ByteArray.empty,run_convert_bytes_nil w S e B D _ _ _ C,.str rfl⟩
  |some a=>
   have p:(loadCells a g.length).run P w=.ok (g.map (Value.int .u8)).toArray w:=by
    have o:A=(g.map (Value.int .u8)).toArray:=by
     apply eN;intro i;by_cases hi:i<g.length
     ·have z:=(K i 0 (by simpa using hi) (by omega)).1;rw[jX,ew]at z;rw[z];have u:=J i (by simpa using hi) 0 (by simp[cellsOf]);simp only[dn,cellsOf,cX]at u;generalize f i 0=q at u;cases u;simp[hi]
     have Y:A.size=g.length:=by simpa using l
     rw[dq (by omega),dq (by simp;omega)]
    rw[←o];simpa [Builtin.firstCells] using s
   refine⟨_,(run_convert_bytes_string w S T e (some a) _ cap B D C).trans (run_bytesToString w a _ cap g p),.str ?_⟩;rw[Fe];rfl
 |string t=>
  exfalso;cases F with
  |any=>simp[rd]at b
  |str h=>exact r _ rfl
  |slOld U V G=>
   simp only[rd]at b;unfold sliceAt at b;split at b
   ·rename_i N;split at b
    ·rename_i X;have:=G _ _ (by rw[E.H,fe N]);omega
    cases b
   cases b
  |ptrOld=>simp[rd]at b
  |aslOld=>simp[rd]at b
  |mpOld=>simp[rd]at b
  |yldOld=>simp[rd]at b
  |itOld=>simp[rd]at b
 |_=>simp[Builtin.lenOf,stuck]at d
end Go.AM
namespace Go.AM
section
variable (M:dm) (P:Program) (rs:Tmp→Option dd)
def G3(o:Op)(ao:If):Bool:=
 match o,ao with
 |.move x,.mov x'=>lW M rs x x'
 |.assign x,.mov x'=>lW M rs x x'
 |.assign (.const (.slice none 0 0)),.mknil k=>k != 0
 |.pick c a b,.pick c' a' b'=>lW M rs c c'&&lW M rs a a'&&lW M rs b b'
 |.alloc T,.box k (.val z)=>CZ P T k&&rn M P T z
 |.box T x,.box k x'=>CZ P T k&&lW M rs x x'
 |.build T parts,.build zero parts'=>rn M P T (.agg zero)&&(match P.underlying T with
   |some (.struct fs)=>(match fs.toList.mapM (fun f=>(P.info? f.type).map fun i=>(f.offset,i.size)) with
    |some places=>vk M rs (places.toArray[·]?) parts.toList parts'
    |none=>false)
   |some (.array _ e)=>(match P.info? e with
    |some ie=>vk M rs (fun i=>some (i*ie.size,ie.size)) parts.toList parts'
    |none=>false)
   |_=>false)
 |.buildSlice T len parts,.mkl k xs=>(match og P T with
   |some e=>CZ P e k&&rP P e k&&decide (len*k≤2^24)&&len != 0&&((parts.toList.map (·.1))==List.range len)&&xX M rs (parts.toList.map (·.2)) xs
   |none=>false)
 |.buildSlice T 0 parts,.mknil k=>(match og P T with
   |some e=>CZ P e k&&parts.size==0
   |none=>false)
 |.makeSlice T l n,.make k zero l' n'=>(match og P T with
   |some e=>CZ P e k&&rP P e k&&rn M P e zero&&lW M rs l l'&&lW M rs n n'
   |none=>false)
 |.makeMap _ none,.mkmap=>true
 |.lookup T m k ok,.look zero ok' m' k'=>(match P.underlying T with
   |some (.map kt et)=>Bx P kt&&rn M P et zero&&ok==ok'&&lW M rs m m'&&lW M rs k k'
   |_=>false)
 |.mapUpdate T m k v,.mput m' k' v'=>(match P.underlying T with
   |some (.map kt _)=>Bx P kt&&lW M rs m m'&&lW M rs k k'&&lW M rs v v'
   |_=>false)
 |.insert T m k v,.mput m' k' v'=>(match P.underlying T with
   |some (.map kt _)=>Bx P kt&&lW M rs m m'&&lW M rs k k'&&lW M rs v v'
   |_=>false)
 |.load T x,.load a s x'=>uo P T a s&&lW M rs x x'
 |.store T x v,.store s x' v'=>CZ P T s&&lW M rs x x'&&lW M rs v v'
 |.fieldAddr S x i,.fld off x'=>(match GH P S i with
   |some f=>f.offset==off&&(match (P.info? f.type).map (·.size) with|some n=>n != 0|none=>false)&&lW M rs x x'
   |none=>false)
 |.field S x i,.fldv a s off x'=>(match GH P S i with
   |some f=>f.offset==off&&uo P f.type a s&&lW M rs x x'
   |none=>false)
 |.indexAddr T x i,.idxs k x' i'=>(match og P T with
   |some e=>CZ P e k&&lW M rs x x'&&lW M rs i i'
   |none=>false)
 |.indexAddr T x i,.idxa m s x' i'=>(match P.underlying T with
   |some (.array m' e)=>m==m'&&(P.info? e).map (·.size)==some s&&lW M rs x x'&&lW M rs i i'
   |_=>false)
 |.index T x i,.idxv a m s x' i'=>(match P.underlying T with
   |some (.array m' e)=>m==m'&&uo P e a s&&lW M rs x x'&&lW M rs i i'
   |_=>false)
 |.index T x i,.idxt x' i'=>Jm P T&&lW M rs x x'&&lW M rs i i'
 |.binOp op T x y _,.eqb n x' y'=>(op==if n then .neq else .eql)&&(match P.underlying T with|some .bool=>true|_=>false)&&lW M rs x x'&&lW M rs y y'
 |.binOp op T x y _,.eqa n ks x' y'=>(op==if n then .neq else .eql)&&aaE P T ks&&lW M rs x x'&&lW M rs y y'
 |.binOp op _ x y _,.bin op' x' y'=>op==op'&&lW M rs x x'&&lW M rs y y'
 |.unOp op _ x,.una op' x'=>op==op'&&lW M rs x x'
 |.convert S T x,.conv k x'=>Bx P S&&Uc P T k&&lW M rs x x'
 |.slice T x lo hi none,.slice k x' lo' hi'=>(match og P T with
   |some e=>CZ P e k&&lW M rs x x'&&Fs M rs lo lo'&&Fs M rs hi hi'
   |none=>false)
 |.slice T x lo hi none,.slicet x' lo' hi'=>Jm P T&&lW M rs x x'&&Fs M rs lo lo'&&Fs M rs hi hi'
 |.slice T x none none none,.aslice n x'=>(match P.underlying T with
   |some (.array m e)=>m==n&&n != 0&&(P.info? e).map (·.size)==some 1&&lW M rs x x'
   |_=>false)
 |.extract x i,.ext i' x'=>i==i'&&lW M rs x x'
 |.makeFunc (.func f) first cap,.mkfn n first' cap'=>M.fm n==f&&xX M rs first.toList first'&&xX M rs cap.toList cap'
 |.nilCheck x,.nilck x'=>lW M rs x x'
 |.call c,.len x'=>(match c.callee,c.args.toList,c.argTypes.toList with
   |.builtin .len,[x],[T]=>(og P T).isSome&&lW M rs x x'
   |_,_,_=>false)
 |.call c,.lent x'=>(match c.callee,c.args.toList,c.argTypes.toList with
   |.builtin .len,[x],[T]=>Jm P T&&lW M rs x x'
   |_,_,_=>false)
 |.call c,.app k x' y'=>(match c.callee,c.args.toList,c.argTypes.toList with
   |.builtin .append,[x,y],[T,U]=>(match og P T with
    |some e=>CZ P e k&&rP P e k&&XS P U&&lW M rs x x'&&lW M rs y y'
    |none=>false)
   |_,_,_=>false)
 |.call c,.cap x'=>(match c.callee,c.args.toList,c.argTypes.toList with
   |.builtin .cap,[x],[T]=>(og P T).isSome&&lW M rs x x'
   |_,_,_=>false)
 |.call c,.clr zero x'=>(match c.callee,c.args.toList,c.argTypes.toList with
   |.builtin .clear,[x],[T]=>(match og P T with
    |some e=>rn M P e zero&&lW M rs x x'
    |none=>false)
   |_,_,_=>false)
 |.call c,.copy k x' y'=>(match c.callee,c.args.toList,c.argTypes.toList with
   |.builtin .copy,[x,y],[T,_]=>(match og P T with
    |some e=>CZ P e k&&lW M rs x x'&&lW M rs y y'
    |none=>false)
   |_,_,_=>false)
 |.call c,.mins x' xs'=>(match c.callee,c.args.toList with
   |.builtin .min,x::xs=>lW M rs x x'&&xX M rs xs xs'
   |_,_=>false)
 |.call c,.maxs x' xs'=>(match c.callee,c.args.toList with
   |.builtin .max,x::xs=>lW M rs x x'&&xX M rs xs xs'
   |_,_=>false)
 |.call c,.call n args _=>(match c.callee with
   |.value (.func f)=>M.fm n==f&&xX M rs c.args.toList args
   |_=>false)
 |.call c,.callv x' args=>(match c.callee with
   |.value x=>lW M rs x x'&&xX M rs c.args.toList args
   |_=>false)
 |.binOp op T x (.const (.slice none 0 0)) _,.nils n x'=>(op==if n then .neq else .eql)&&(og P T).isSome&&lW M rs x x'
 |.buildSlice T 0 parts,.mov (.val .ai)=>(match og P T with
   |some e=>(P.info? e).isSome&&parts.size==0
   |none=>false)
 |.call c,.appz k zero x' n'=>(match c.callee,c.args.toList,c.argTypes.toList with
   |.builtin .append,[x,n],[T,U]=>(match og P T with
    |some e=>CZ P e k&&rP P e k&&rn M P e zero&&Bx P U&&lW M rs x x'&&lW M rs n n'
    |none=>false)
   |_,_,_=>false)
 |.range T x,.rngs x'=>Jm P T&&lW M rs x x'
 |.next x true,.nexts x'=>lW M rs x x'
 |.lookup T m k ok,.lookk ks zero ok' m' k'=>(match P.underlying T with
   |some (.map kt et)=>rf P kt ks&&rn M P et zero&&ok==ok'&&lW M rs m m'&&lW M rs k k'
   |_=>false)
 |.mapUpdate T m k v,.mputk ks m' k' v'=>(match P.underlying T with
   |some (.map kt _)=>rf P kt ks&&lW M rs m m'&&lW M rs k k'&&lW M rs v v'
   |_=>false)
 |.insert T m k v,.mputk ks m' k' v'=>(match P.underlying T with
   |some (.map kt _)=>rf P kt ks&&lW M rs m m'&&lW M rs k k'&&lW M rs v v'
   |_=>false)
 |.convert S T x,.b2s x'=>(match og P S with
   |some e=>Uc P e .u8&&Jm P T&&lW M rs x x'
   |none=>false)
 |.buildSlice T len parts,.mksl k xs=>(match og P T with
   |some e=>CZ P e k&&rP P e k&&decide (len*k≤2^24)&&len != 0&&((parts.toList.map (·.1))==List.range len)&&xX M rs (parts.toList.map (·.2)) xs
   |none=>false)
 |_,.bad=>true
 |_,_=>false
end
variable {M:dm} {w:World} {P:Program} {rs:Tmp→Option dd}
theorem Kn{c:dk}{env ls:List aq}{a:Act}(f:nI M w c env ls rs a.tmps)(e:kK M w c){place:Nat→Option (Nat×Nat)}:∀{b:List (Nat×Operand)} {qs:List (Nat×Nat×dd)},vk M rs place b qs=true →
  b.length=qs.length∧∀i (h:i<b.length) (p:i<qs.length),place b[i].1=some (qs[i].1,qs[i].2.1)∧R M w c (qs[i].2.2.eval env ls) (a.eval b[i].2)
 |[],[],_=>⟨rfl,fun i h=>absurd h (by simp)⟩
 |[],_::_,h=>by simp[vk]at h
 |_::_,[],h=>by simp[vk]at h
 |(i,x)::b,(off,s,q)::qs,h=>by
  simp only[vk,ax,aX]at h;obtain⟨⟨g,k⟩,l⟩:=h;obtain⟨m,n⟩:=Kn f e l;refine⟨by simp[m],fun j o d=>?_⟩;cases j with
  |zero=>exact⟨g,Ks f e k⟩
  |succ j=>simpa using n j (by simpa using o) (by simpa using d)
theorem Ci{c:dk}{env ls:List aq}{a:Act}(e:nI M w c env ls rs a.tmps)(d:kK M w c){xs:List Operand}{b:List dd}(h:xX M rs xs b=true) :
  xs.length=b.length∧∀i (h:i<b.length),∃x,(xs.map a.eval)[i]?=some x∧R M w c (b[i].eval env ls) x:=by
 simp only[xX,ax,aX]at h;exact⟨h.1,YZ e d h.1 h.2⟩
theorem Uv{c:dk}{env ls:List aq}{a:Act}(i:nI M w c env ls rs a.tmps)(f:kK M w c){x:Option Operand}{b:Option dd}(h:Fs M rs x b=true){d n:Nat}(e:ZJ env ls d b=some n) :
  (x.map a.eval=none∧n=d)∨∃k,x.map a.eval=some (.int k (n:Int)):=by
 cases x with
 |none=>cases b with
  |none=>simp only[ZJ,aK]at e;exact .inl ⟨rfl,e.symm⟩
  |some _=>simp[Fs]at h
 |some x=>cases b with
  |none=>simp[Fs]at h
  |some b=>
   simp only[Fs]at h;obtain⟨k,g⟩:=vE (Ks i f h) e;exact .inr ⟨k,by rw[dJ,g]⟩
theorem jC{ρ:Operand→Value}{c:Call}{ty:TypeId}{b:Builtin}(h:c.callee=.builtin b):(do let d ←Go.resolve ρ c ty;invoke d.target d.args:Sem Next)=builtin b c.argTypes ty (c.args.map fun|.const _=>true|_=>false) (c.args.map ρ):=by
 unfold Go.resolve;rw[h];rfl
theorem TJ{ρ:Operand→Value}{xs:Array Operand}{x:Operand}(h:xs.toList=[x]):xs.map ρ=#[ρ x]:=by
 cases xs with|mk l=>simp at h;subst h;simp
theorem XP{ρ:Operand→Value}{xs:Array Operand}{x y:Operand}(h:xs.toList=[x,y]):xs.map ρ=#[ρ x,ρ y]:=by
 cases xs with|mk l=>simp at h;subst h;simp
theorem Bz{a:Type}{xs:Array a}{l:List a}(h:xs.toList=l):xs=l.toArray:=by
 cases xs with|mk l=>simp at h;subst h;rfl
theorem alZ{c:dk}{x y v:aq}{d cy:Value}(i:R M w c x d)(j:R M w c y cy){op:BinOp}(h:bin op x y=some v){T:TypeId}(f g:Operand) :
  ∃cv,(do eqGuard op T f g d cy;binOp op T d cy:Sem Value).run P w=.ok cv w∧R M w c v cv:=by
 unfold bin at h;split at h
 ·rename_i k a q b;cases i;cases j;simp only[Sem.run_bind,vH op T f g (.inl ⟨k,a,rfl⟩),Result.andThen_ok];split at h
  ·exact JZ h
  ·exact JZ h
  rename_i o p;split at h
  ·rename_i n;subst n;exact RM ⟨fun e=>o e,fun e=>p e⟩ h
  cases h
 ·rename_i a b;cases i with|str l=>cases j with|str m=>
  simp only[Sem.run_bind,vH op T f g (.inr (.inl ⟨_,rfl⟩)),Result.andThen_ok];exact abO (by rw[l,m];exact h)
 cases h
theorem qF.ex{c:dk}{σ:aw}{s:Sem Value}{v:aq}(d:fd M w c σ)(h:∃cv,s.run P w=.ok cv w∧R M w c v cv):qF M P c w (do pure (.value (←s))) v σ:=
 let ⟨_,a,b⟩:=h
 .quiet d a b
theorem qF.unit{c:dk}{a:aw}{s:Sem Unit}(h:∃w',s.run P w=.ok () w'∧fd M w' c a∧iW c w c w'):qF M P c w (do s;pure .skip) .any a:=by
 obtain⟨w',b,d,e⟩:=h;exact⟨.skip,w',c,undef,by simp[b],.inr ⟨rfl,rfl⟩,d,e,.any⟩
theorem qF.any{c:dk}{a:aw}{s:Sem Value}(h:∃cv w',s.run P w=.ok cv w'∧fd M w' c a∧iW c w c w'):qF M P c w (do pure (.value (←s))) .any a:=by
 obtain⟨cv,w',b,d,e⟩:=h;exact .of b d e .any
theorem uh{T:TypeId}(h:Bx P T=true):∃q,P.underlying T=some (.int q):=by
 unfold Bx at h;split at h
 ·exact⟨_,by assumption⟩
 cases h
theorem Ky{T:TypeId}{k:IntKind}(h:Uc P T k=true):P.underlying T=some (.int k):=by
 unfold Uc at h;split at h
 ·rename_i j a;have:j=k:=by simpa using h
  rw[←this];exact a
 cases h
theorem wr{T:TypeId}(h:Jm P T=true):P.underlying T=some .string:=by
 unfold Jm at h;split at h
 ·assumption
 cases h
theorem bK{c d:Type}{f:c→d}{o:Option c}{b:d}(h:o.map f=some b):∃a,o=some a∧f a=b:=by
 cases o with
 |none=>cases h
 |some a=>exact⟨a,rfl,dW h⟩
theorem bR{c d:Type}{f:c→Option d}{o:Option c}{b:d}(h:o.bind f=some b):∃a,o=some a∧f a=some b:=by
 cases o with
 |none=>cases h
 |some a=>exact⟨a,rfl,h⟩
theorem alq{c:dk}{i:Nat}{x v:aq}{a:Value}(e:R M w c x a)(h:aaI i x=some v):∃cv,(Instr.extract a i).run P w=.ok cv w∧R M w c v cv:=by
 unfold aaI at h;split at h
 ·rename_i vs;cases e with|@tup _ _ cvs f g b d=>
  obtain⟨hi,rfl⟩:=ak.1 h;refine⟨f i,?_,d i hi⟩;simp[Instr.extract,b i hi]
 cases h
theorem Fb{S:TypeId}{i:Nat}{f:Field}(h:GH P S i=some f):∃fs,P.underlying S=some (.struct fs)∧fs[i]?=some f:=by
 unfold GH at h;split at h
 ·exact⟨_,by assumption,h⟩
 cases h
theorem Vp{c:dk}{a:Bool}{s off:Nat}{x v:aq}{b:Value}(f:R M w c x b)(h:Im a s off x=some v){T:TypeId}(e:uo P T a s=true):∃A cv,b=.agg A∧(part T A off).run P w=.ok cv w∧R M w c v cv:=by
 unfold Im at h;split at h
 ·rename_i d;exact ain f d.1 d.2 e h
 cases h
theorem Ew{c:dk}{env ls:List aq}{a:Act}(k:nI M w c env ls rs a.tmps)(j:kK M w c){xs:Array Operand}{b:List dd}(h:xX M rs xs.toList b=true) :
  (xs.map a.eval).size=b.length∧∀i (hi:i<(b.map (·.eval env ls)).length),∃x,(xs.map a.eval)[i]?=some x∧R M w c (b.map (·.eval env ls))[i] x:=by
 obtain⟨d,e⟩:=Ci k j h;refine⟨by simpa using d,fun i hi=>?_⟩;obtain⟨x,f,g⟩:=e i (by simpa using hi);exact⟨x,by simpa using f,by simpa using g⟩
theorem aeE{c:dk}{σ al:aw}{env ls:List aq}{a:Act}{C:ip}{o:Oper}{ao:If}{v:aq}(J:fd M w c σ)(ht:nI M w c env ls rs a.tmps)(hg:kK M w c)
  (u:G3 M P rs o.op ao=true) (D:bJ C env ls σ ao=some (v,al)) (a9:∀f x m,ao≠.call f x m) (bb:∀f x,ao≠.callv f x):qF M P c w (execOp a.eval o) v al:=by
 have X:∀{x:Operand} {N:dd},lW M rs x N=true→R M w c (N.eval env ls) (a.eval x):=fun h=>Ks ht hg h;unfold G3 at u;unfold execOp;split at u<;>rename_i be<;>(try simp only[be])
 case h_1=>cases D;exact .now J (X u)
 case h_2=>cases D;exact .now J (X u)
 case h_3 k=>
  cases D;obtain⟨c',G,E,I⟩:=GG J (show k≠0 by simpa using u) none;exact⟨_,w,c',_,rfl,.inl rfl,G,E,I⟩
 case h_4 x y z N y' z'=>
  simp only[ax]at u;obtain⟨⟨G,E⟩,I⟩:=u;simp only[bJ]at D;obtain⟨r,H,K⟩:=bK D;cases K;unfold Tl at H;have hc:=X G;split at H
  ·rename_i t bg;rw[bg]at hc;cases H;generalize a.eval x=cx at hc;cases hc;refine⟨.value (if t then a.eval y else a.eval z),w,c,_,by simp[asBool],.inl rfl,J,.refl c w,?_⟩;cases t
   ·exact X I
   exact X E
  cases H
 case h_5 T k z=>
  simp only[ax]at u;obtain⟨G,E⟩:=u;obtain⟨I,L⟩:=lH G;obtain⟨i,v0,i1,i2,i3,i4⟩:=so E;have af:(if aM z=k then some (aq.ptr σ.length 0 0 0,σ++[.arr k 0 [z]]) else none)=some (v,al):=D;split at af
  ·rename_i hk;cases af;obtain⟨nx,w',c',cv,b1,b2,b3,b4,b5⟩:=af3 (P:=P) J (tt (M:=M) (w:=w) (c:=c) i4) (T:=T) hk L;refine⟨nx,w',c',cv,?_,b2,b3,b4,b5⟩;rw[←b1];simp[Instr.alloc,Instr.box,i3]
  cases af
 case h_6 T x k N=>
  simp only[ax]at u;obtain⟨G,E⟩:=u;obtain⟨I,L⟩:=lH G;simp only[bJ]at D;split at D
  ·rename_i hk;cases D;exact af3 J (X E) hk L
  cases D
 case h_7 T parts zero parts'=>
  simp only[ax]at u;obtain⟨G,E⟩:=u;obtain⟨i,v0,i1,i2,i3,i4⟩:=so G;simp only[bJ]at D;obtain⟨cs,hf,K⟩:=bK D;cases K;have hz:R M w c (.agg zero) v0:=tt i4;obtain⟨A,rfl⟩:∃A,v0=.agg A:=by cases hz;exact⟨_,rfl⟩
  have bi:=hz.rcells;have key:∀place,vk M rs place parts.toList parts'=true→∃B,Instr.fill place A ((parts.map fun (i,x)=>(i,a.eval x)).toList)=some B∧oA M w c cs B:=fun place hp=>by
   obtain⟨p1,p2⟩:=Kn ht hg hp;refine abS place _ (parts'.map fun p=>(p.1,p.2.1,p.2.2.eval env ls)) zero cs A bi (by simp;simpa using p1) (fun i hi O=>?_) hf;have:=p2 i (by simpa using hi) (by simpa using O);simpa using this
  have ag:∃B,P.built T ((parts.map fun (i,x)=>(i,a.eval x)).toList)=some B∧oA M w c cs B:=by
   split at E
   ·rename_i fs ah;split at E
    ·rename_i a0 bf;obtain⟨B,b1,b2⟩:=key _ E;exact⟨B,by unfold Program.built;rw[i1,ah];simp only[i2,bf];exact b1,b2⟩
    cases E
   ·rename_i n e ah;split at E
    ·rename_i ie a6;obtain⟨B,b1,b2⟩:=key _ E;exact⟨B,by unfold Program.built;rw[i1,ah];simp only[i2,a6];exact b1,b2⟩
    cases E
   cases E
  obtain⟨B,b1,b2⟩:=ag;exact .quiet J (run_build w T _ B b1) b2.agg
 case h_8 T len parts k xs=>
  split at u
  ·rename_i e K;simp only[ax,aX,gQ,bZ]at u;obtain⟨⟨⟨⟨⟨G,E⟩,I⟩,L⟩,h5⟩,h6⟩:=u;obtain⟨W,Z⟩:=lH G;simp only[bJ]at D;split at D
   ·rename_i ae;cases D;obtain⟨p1,p2⟩:=Ci ht hg h6;have Y:parts.toList.length=len:=by rw[←List.length_map (f:=(·.1)),h5,List.length_range]
    refine M8 (cvs:=(parts.toList.map (·.2)).map a.eval) J (gA K) W Z E I ?_ ?_ ?_ ?_ L ?_
    ·rw[df,←p1,df,Y]
    ·rw[df,df,Y]
    ·intro i hi O;obtain⟨x,x1,x2⟩:=p2 i (by simpa using hi);rw[au O]at x1;cases x1;simpa using x2
    ·intro v hv;simpa using bd.1 ae v hv
    rw[←h5];simp[List.zip_map',nN]
   cases D
  cases u
 case h_9 T parts k=>
  split at u
  ·rename_i e K;simp only[ax,aX]at u;obtain⟨G,E⟩:=u;obtain⟨W,Z⟩:=lH G;cases D;have hp:parts=#[]:=kq E;subst hp;obtain⟨I,L⟩:=J.addStill (.cells #[] e (0,0));obtain⟨c',b1,b2,b3⟩:=GG I Z (some ⟨w.heap.size,0,none⟩);refine⟨.value (.slice (some ⟨w.heap.size,0,none⟩) 0 0),lg w (.cells #[] e (0,0)),c',_,?_,.inl rfl,b1,L.trans b2,b3⟩;simp[Instr.buildSlice,run_underlying (gA K),gf W,newRow,Instr.fill,Array.range_zero'];rfl
  cases u
 case h_10 T l n k zero l' n'=>
  split at u
  ·rename_i e K;simp only[ax]at u;obtain⟨⟨⟨⟨G,E⟩,I⟩,L⟩,h5⟩:=u;obtain⟨W,Z⟩:=lH G;simp only[bJ]at D;obtain⟨m,m1,D⟩:=bR D;obtain⟨d,d1,D⟩:=bR D;split at D
   ·rename_i hc;obtain⟨rfl,hk,hm⟩:=hc;cases D;obtain⟨k1,e1⟩:=vE (X L) m1;obtain⟨k2,e2⟩:=vE (X h5) d1;rw[e1,e2];exact aiG J (gA K) Z E I hk hm W
   cases D
  cases u
 case h_11 T=>cases D;exact ady J T
 case h_12 T m k ok zero ok' m' k'=>
  split at u
  ·rename_i kt et hT;simp only[ax,aX]at u;obtain⟨⟨⟨⟨G,E⟩,rfl⟩,L⟩,h5⟩:=u;obtain⟨q,hq⟩:=uh G;simp only[bJ]at D;split at D
   ·rename_i hk;obtain⟨es,e1,D⟩:=bR D;obtain⟨r,r1,K⟩:=bK D;cases K;exact .ex J (ais J (X L) (X h5) hk e1 r1 hT hq E ok)
   cases D
  cases u
 case h_13 T m k v m' k' v'=>
  split at u
  ·rename_i kt et hT;simp only[ax]at u;obtain⟨⟨⟨G,E⟩,I⟩,L⟩:=u;obtain⟨q,hq⟩:=uh G;simp only[bJ]at D;obtain⟨an,r1,K⟩:=bK D;cases K;exact .unit (Yl J (X E) (X I) (X L) r1 hT hq)
  cases u
 case h_14 T m k v m' k' v'=>
  split at u
  ·rename_i kt et hT;simp only[ax]at u;obtain⟨⟨⟨G,E⟩,I⟩,L⟩:=u;obtain⟨q,hq⟩:=uh G;simp only[bJ]at D;obtain⟨an,r1,K⟩:=bK D;cases K;exact .unit (Yl J (X E) (X I) (X L) r1 hT hq)
  cases u
 case h_15 T x b s N=>
  simp only[ax]at u;simp only[bJ]at D;obtain⟨r,H,K⟩:=bK D;cases K;exact .ex J (YX J (X u.2) u.1 H)
 case h_16 T x y s N y'=>
  simp only[ax]at u;obtain⟨⟨G,E⟩,I⟩:=u;obtain⟨W,Z⟩:=lH G;simp only[bJ]at D;obtain⟨r,H,K⟩:=bK D;cases K;exact .unit (acV J (X E) (X I) W Z H)
 case h_17 S x i off N=>
  split at u
  ·rename_i f hf;simp only[ax,aX]at u;obtain⟨⟨G,E⟩,I⟩:=u;obtain⟨fs,f1,f2⟩:=Fb hf;split at E
   ·rename_i n hn;simp only[bJ]at D;obtain⟨r,H,K⟩:=bK D;cases K;exact .ex J (an6 J (X I) f1 f2 G hn (by simpa using E) H)
   cases E
  cases u
 case h_18 S x i b s off N=>
  split at u
  ·rename_i f hf;simp only[ax,aX]at u;obtain⟨⟨G,E⟩,I⟩:=u;obtain⟨fs,f1,f2⟩:=Fb hf;simp only[bJ]at D;obtain⟨r,H,K⟩:=bK D;cases K;obtain⟨A,cv,a1,a2,a3⟩:=Vp (P:=P) (X I) H E;refine .quiet J ?_ a3;subst G;simp[Instr.field,run_underlying f1,f2,a1,asAgg,a2]
  cases u
 case h_19 T x i k N i'=>
  split at u
  ·rename_i e K;simp only[ax]at u;obtain⟨⟨G,E⟩,I⟩:=u;obtain⟨W,Z⟩:=lH G;simp only[bJ]at D;obtain⟨n,n1,D⟩:=bR D;obtain⟨r,H,F⟩:=bK D;cases F;exact .ex J (ah2 J (X E) (vE (X I) n1) (gA K) W Z H)
  cases u
 case h_20 T x i m s N i'=>
  split at u
  ·rename_i m' e K;simp only[ax,aX]at u;obtain⟨⟨⟨rfl,E⟩,I⟩,L⟩:=u;simp only[bJ]at D;obtain⟨n,n1,D⟩:=bR D;split at D
   ·rename_i hn;obtain⟨r,H,F⟩:=bK D;cases F;exact .ex J (aic J (X I) (vE (X L) n1) K E hn H)
   cases D
  cases u
 case h_21 T x i b m s N i'=>
  split at u
  ·rename_i m' e K;simp only[ax,aX]at u;obtain⟨⟨⟨rfl,E⟩,I⟩,L⟩:=u;simp only[bJ]at D;obtain⟨n,n1,D⟩:=bR D;split at D
   ·rename_i hn;obtain⟨r,H,F⟩:=bK D;cases F;obtain⟨A,cv,a1,a2,a3⟩:=Vp (P:=P) (X I) H E;obtain⟨k,hk⟩:=vE (X L) n1;refine .quiet J ?_ a3;simp[Instr.index,hk,asIntOf,run_underlying K,a1,hn,gf (wu E),a2]
   cases D
  cases u
 case h_22 T x i N i'=>
  simp only[ax]at u;obtain⟨⟨G,E⟩,I⟩:=u;simp only[bJ]at D;obtain⟨n,n1,D⟩:=bR D;obtain⟨r,H,F⟩:=bK D;cases F;exact .ex J (aiz (X E) (vE (X I) n1) H (wr G))
 case h_23 op T x y _ n N y'=>
  simp only[ax,aX]at u;obtain⟨⟨⟨G,E⟩,I⟩,L⟩:=u;simp only[bJ]at D;obtain⟨r,H,F⟩:=bK D;cases F;split at E
  ·rename_i hT;exact .ex J (akS (X I) (X L) H hT G x y)
  cases E
 case h_24 op T x y _ n ks N y'=>
  simp only[ax,aX]at u;obtain⟨⟨⟨G,E⟩,I⟩,L⟩:=u;simp only[bJ]at D;obtain⟨r,H,F⟩:=bK D;cases F;exact .ex J (amI (X I) (X L) H E G x y)
 case h_25 op T x y _ op' N y'=>
  simp only[ax,aX]at u;obtain⟨⟨rfl,E⟩,I⟩:=u;simp only[bJ]at D;obtain⟨r,H,F⟩:=bK D;cases F;exact .ex J (alZ (X E) (X I) H x y)
 case h_26 op _ x op' N=>
  simp only[ax,aX]at u;obtain⟨rfl,E⟩:=u;simp only[bJ]at D;obtain⟨r,H,F⟩:=bK D;cases F;exact .ex J (adI (X E) H)
 case h_27 S T x k N=>
  simp only[ax]at u;obtain⟨⟨G,E⟩,I⟩:=u;simp only[bJ]at D;obtain⟨r,H,F⟩:=bK D;cases F;have Q:=X I;unfold TE at H;split at H
  ·rename_i k' n V;rw[V]at Q;cases H;obtain⟨q,hq⟩:=uh G;generalize a.eval x=cx at Q;cases Q;exact .quiet J (Zl (c:=c) hq (Ky E) ⟨q,rfl⟩) .int
  cases H
 case h_28 T x lo hi k N lo' O=>
  split at u
  ·rename_i e K;simp only[ax]at u;obtain⟨⟨⟨G,E⟩,I⟩,L⟩:=u;simp only[bJ]at D;obtain⟨n,n1,D⟩:=bR D;obtain⟨l,l1,D⟩:=bR D;obtain⟨h,hh,D⟩:=bR D;obtain⟨r,H,F⟩:=bK D;cases F;exact .ex J (adm J (X E) n1 (Uv ht hg I l1) (Uv ht hg L hh) H (gA K) (lH G).1)
  cases u
 case h_29 T x lo hi N lo' O=>
  simp only[ax]at u;obtain⟨⟨⟨G,E⟩,I⟩,L⟩:=u;simp only[bJ]at D;obtain⟨n,n1,D⟩:=bR D;obtain⟨l,l1,D⟩:=bR D;obtain⟨h,hh,D⟩:=bR D;obtain⟨r,H,F⟩:=bK D;cases F;exact .ex J (YP (X E) n1 (Uv ht hg I l1) (Uv ht hg L hh) H (wr G))
 case h_30 T x n N=>
  split at u
  ·rename_i m e K;simp only[ax,aX,gQ]at u;obtain⟨⟨⟨rfl,E⟩,I⟩,L⟩:=u;simp only[bJ]at D;obtain⟨r,H,F⟩:=bK D;cases F;exact .ex J (Y3 J (X L) H K I E)
  cases u
 case h_31 x i i' N=>
  simp only[ax,aX]at u;obtain⟨rfl,E⟩:=u;simp only[bJ]at D;obtain⟨r,H,F⟩:=bK D;cases F;exact .ex J (alq (X E) H)
 case h_32 f first cap n first' cap'=>
  simp only[ax,aX]at u;obtain⟨⟨G,E⟩,I⟩:=u;cases D;obtain⟨a1,a2⟩:=Ew ht hg E;obtain⟨b1,b2⟩:=Ew ht hg I;refine .quiet J rfl ?_;subst G;refine .fn (fun i=>(first.map a.eval).getD i undef) (fun i=>(cap.map a.eval).getD i undef) (by rw[a1];simp) (by rw[b1];simp) (fun i hi=>?_) (fun i hi=>?_) (fun i hi=>?_) (fun i hi=>?_)
  ·obtain⟨x,x1,_⟩:=a2 i hi;simp only[bV,x1,cT]
  ·obtain⟨x,x1,_⟩:=b2 i hi;simp only[bV,x1,cT]
  ·obtain⟨x,x1,x2⟩:=a2 i hi;simp only[bV,x1,cT];exact x2
  obtain⟨x,x1,x2⟩:=b2 i hi;simp only[bV,x1,cT];exact x2
 case h_33 x N=>
  simp only[bJ]at D;obtain⟨r,H,F⟩:=bK D;cases F;have Q:=X u;unfold NB at H;split at H
  ·rename_i id ep i o' V;rw[V]at Q;split at H
   ·rename_i hf;cases H;obtain⟨k,b,G,E,I,L⟩:=zX J Q hf;rw[L]at Q ⊢;exact .now J Q
   cases H
  ·rename_i b y o' V;rw[V]at Q;cases H;generalize a.eval x=cx at Q;have:∃ad,cx=.pointer (some ad):=by cases Q;exact⟨_,rfl⟩
   obtain⟨ad,rfl⟩:=this;exact .now J Q
  ·rename_i f p q V;rw[V]at Q;cases H;generalize a.eval x=cx at Q;have:∃fi fs cs,cx=.func (.func fi) fs cs:=by cases Q;exact⟨_,_,_,rfl⟩
   obtain⟨fi,fs,cs,rfl⟩:=this;exact .now J Q
  cases H
 case h_34 c' N=>
  split at u
  ·rename_i x T G E I;simp only[ax]at u;obtain⟨k1,k2⟩:=u;obtain⟨e,K⟩:=cN.1 k1;simp only[bJ]at D;obtain⟨r,H,F⟩:=bK D;cases F;rw[jC G,TJ E,Bz I];exact .ex J ⟨_,anv J (X k2) H (gA K),.int⟩
  cases u
 case h_35 c' N=>
  split at u
  ·rename_i x T G E I;simp only[ax]at u;obtain⟨k1,k2⟩:=u;simp only[bJ]at D;obtain⟨r,H,F⟩:=bK D;cases F;rw[jC G,TJ E,Bz I];exact .ex J ⟨_,ajB (X k2) H (wr k1),.int⟩
  cases u
 case h_36 c' k N y'=>
  split at u
  ·rename_i x y T U G E I;split at u
   ·rename_i e K;simp only[ax]at u;obtain⟨⟨⟨⟨k1,k2⟩,k3⟩,k4⟩,k5⟩:=u;obtain⟨W,Z⟩:=lH k1;simp only[bJ]at D;obtain⟨ys,y1,D⟩:=bR D;rw[jC G,XP E,Bz I];obtain⟨i,z,z1,z2,z3,z4,z5,_⟩:=rX k2;have aj:i.size=k:=by rw[z1]at W;simpa using W
    have hU:∃d,P.underlying U=some d∧∀q,d≠.int q:=by
     unfold XS at k3;split at k3
     ·cases k3
     ·rename_i d hd hn;exact⟨d,hn,fun q e=>hd q e⟩
     cases k3
    obtain⟨d,d1,d2⟩:=hU;exact aal J (X k4) (X k5) y1 D ⟨⟨e,i,z,d,gA K,z1,aj,z2,z3,z4,z5,d1,d2⟩,Z⟩
   cases u
  cases u
 case h_37 c' N=>
  split at u
  ·rename_i x T G E I;simp only[ax]at u;obtain⟨k1,k2⟩:=u;obtain⟨e,K⟩:=cN.1 k1;simp only[bJ]at D;obtain⟨r,H,F⟩:=bK D;cases F;rw[jC G,TJ E,Bz I];have Q:=X k2;unfold adt at H;split at H
   ·rename_i V;rw[V]at Q;cases H;generalize a.eval x=cx at Q;cases Q;refine .ex J ⟨_,?_,.int⟩;simp[Builtin.cap_,run_underlying (gA K),goInt]
   cases H
  cases u
 case h_38 c' zero N=>
  split at u
  ·rename_i x T G E I;split at u
   ·rename_i e K;simp only[ax]at u;obtain⟨k1,k2⟩:=u;simp only[bJ]at D;obtain⟨r,H,F⟩:=bK D;cases F;rw[jC G,TJ E,Bz I];exact .any (ano J (X k2) H (gA K) k1)
   cases u
  cases u
 case h_39 c' k N y'=>
  split at u
  ·rename_i x y T U G E I;split at u
   ·rename_i e K;simp only[ax]at u;obtain⟨⟨k1,k2⟩,k3⟩:=u;simp only[bJ]at D;obtain⟨ys,y1,D⟩:=bR D;obtain⟨r,H,F⟩:=bK D;cases F;rw[jC G,XP E,Bz I];obtain⟨w',c1,c2,c3⟩:=aiC J (X k2) (X k3) y1 H (gA K) (lH k1).1;exact .of c1 c2 c3 .int
   cases u
  cases u
 case h_40 c' N xs'=>
  split at u
  ·rename_i x xs G E;simp only[ax]at u;obtain⟨k1,k2⟩:=u;simp only[bJ]at D;obtain⟨r,H,F⟩:=bK D;cases F;rw[jC G];obtain⟨p1,p2⟩:=Ci ht hg k2;have ab:(c'.args.map a.eval).toList=a.eval x::xs.map a.eval:=by simp[E]
   obtain⟨cv,r1,r2⟩:=G9 (P:=P) true _ (xs.map a.eval) _ _ _ (X k1) (by simpa using p1) (fun i hi O=>by
    obtain⟨y,y1,y2⟩:=p2 i (by simpa using hi);rw[au O]at y1;cases y1;simpa using y2) H
   refine .ex J ⟨cv,?_,r2⟩;unfold Builtin.min_;rw[ab];exact r1
  cases u
 case h_41 c' N xs'=>
  split at u
  ·rename_i x xs G E;simp only[ax]at u;obtain⟨k1,k2⟩:=u;simp only[bJ]at D;obtain⟨r,H,F⟩:=bK D;cases F;rw[jC G];obtain⟨p1,p2⟩:=Ci ht hg k2;have ab:(c'.args.map a.eval).toList=a.eval x::xs.map a.eval:=by simp[E]
   obtain⟨cv,r1,r2⟩:=G9 (P:=P) false _ (xs.map a.eval) _ _ _ (X k1) (by simpa using p1) (fun i hi O=>by
    obtain⟨y,y1,y2⟩:=p2 i (by simpa using hi);rw[au O]at y1;cases y1;simpa using y2) H
   refine .ex J ⟨cv,?_,r2⟩;unfold Builtin.max_;rw[ab];exact r1
  cases u
 case h_42=>exact absurd rfl (a9 _ _ _)
 case h_43=>exact absurd rfl (bb _ _)
 case h_44 op T x q n N=>
  simp only[ax,aX]at u;obtain⟨⟨G,E⟩,I⟩:=u;obtain⟨e,K⟩:=cN.1 E;simp only[bJ]at D;obtain⟨r,H,F⟩:=bK D;cases F;exact .ex J (ajq J (X I) H (gA K) G _ _)
 case h_45 T parts=>
  split at u
  ·rename_i e K;simp only[ax,aX]at u;obtain⟨G,E⟩:=u;obtain⟨i,hi⟩:=cN.1 G;have W:(P.info? e).map (·.size)=some i.size:=by rw[hi];rfl
   cases D;have hp:parts=#[]:=kq E;subst hp;obtain⟨I,L⟩:=J.addStill (.cells #[] e (0,0));refine⟨.value (.slice (some ⟨w.heap.size,0,none⟩) 0 0),lg w (.cells #[] e (0,0)),_,_,?_,.inl rfl,I,L,.ai⟩;simp[Instr.buildSlice,run_underlying (gA K),gf W,newRow,Instr.fill,Array.range_zero'];rfl
  cases u
 case h_46 c' k zero N n'=>
  split at u
  ·rename_i x n T U g1 g2 g3;split at u
   ·rename_i e K;simp only[ax]at u;obtain⟨⟨⟨⟨⟨k1,k2⟩,k3⟩,k4⟩,k5⟩,k6⟩:=u;obtain⟨W,Z⟩:=lH k1;obtain⟨i,z,z1,z2,z3,zb,zn,z4⟩:=rX k2;obtain⟨i',z',y1,y2,y3,y4⟩:=so k3;rw[z1]at y1;cases y1;rw[z2]at y2;cases y2;have aj:i.size=k:=by rw[z1]at W;simpa using W
    have bh:R M w c zero z:=tt y4;simp only[bJ]at D;obtain⟨m,m1,D⟩:=bR D;split at D
    ·rename_i hc;obtain⟨kn,a7⟩:=vE (X k6) m1;rw[jC g1];obtain⟨g,hg,bk,a5⟩:=tR bh (by omega);have hA:pz M w c k (List.replicate m zero) (Builtin.zeroCells z.cells m):=by
      refine⟨by simp[Builtin.zeroCells,z3],fun _ j=>g j,fun i j hi hj=>?_,fun i hi j hj=>?_⟩
      ·have O:i<m:=by simpa using hi
       have a8:=rF O hj;have e1:(i*k+j)%k=j:=by rw[ij,ml,ll hj]
       have e2:=a5 j (by omega);have e3:z.cells[j]! = g j:=by rw[getElem!_def,e2]
       refine⟨?_,hg.one j (by omega)⟩;simp[Builtin.zeroCells,z3,a8,e1,e3]
      have e1:(List.replicate m zero)[i]=zero:=kx ..;simp only[e1]at hj ⊢;exact hg.rel j hj
     have a4:=abn (P:=P) (w:=w) (T:=T) (U:=U) (ty:=o.type) (e:=e) (k:=k) (i:=i) (z:=z) ⟨gA K,z1,aj,z2,z3,zb,zn,uh k4,Z⟩ (q:=kn) (m:=m) hc.2;have:=Fy (P:=P) (T:=T) (U:=U) (ty:=o.type) (cy:=.int kn m) J (X k5) Z D fun _=>⟨_,hA,by simpa using a4⟩;rw[XP g2,Bz g3];have ar:a.eval n=.int kn (m:Int):=a7;rw[ar];exact this
    cases D
   cases u
  cases u
 case h_47 T x N=>
  simp only[ax]at u;exact ajg J (X u.2) D (wr u.1)
 case h_48 x N=>exact acE J (X u) D
 case h_49 T m k ok ks zero ok' m' k'=>
  split at u
  ·rename_i kt et hT;simp only[ax,aX]at u;obtain⟨⟨⟨⟨G,E⟩,rfl⟩,L⟩,h5⟩:=u;simp only[bJ]at D;split at D
   ·rename_i hk;obtain⟨es,e1,D⟩:=bR D;obtain⟨r,r1,K⟩:=bK D;cases K;exact .ex J (aeF J (X L) (X h5) hk e1 r1 hT G E ok)
   cases D
  cases u
 case h_50 T m k v ks m' k' v'=>
  split at u
  ·rename_i kt et hT;simp only[ax]at u;obtain⟨⟨⟨G,E⟩,I⟩,L⟩:=u;simp only[bJ]at D;obtain⟨an,r1,K⟩:=bK D;cases K;exact .unit (U8 J (X E) (X I) (X L) r1 hT G)
  cases u
 case h_51 T m k v ks m' k' v'=>
  split at u
  ·rename_i kt et hT;simp only[ax]at u;obtain⟨⟨⟨G,E⟩,I⟩,L⟩:=u;simp only[bJ]at D;obtain⟨an,r1,K⟩:=bK D;cases K;exact .unit (U8 J (X E) (X I) (X L) r1 hT G)
  cases u
 case h_52 S T x N=>
  split at u
  ·rename_i e K;simp only[ax]at u;obtain⟨⟨G,E⟩,I⟩:=u;simp only[bJ]at D;obtain⟨r,H,F⟩:=bK D;cases F;exact .ex J (anH J (X I) H (gA K) (Ky G) (wr E))
  cases u
 case h_53 T len parts k xs=>
  split at u
  ·rename_i e K;simp only[ax,aX,gQ,bZ]at u;obtain⟨⟨⟨⟨⟨G,E⟩,I⟩,L⟩,h5⟩,h6⟩:=u;obtain⟨W,Z⟩:=lH G;obtain⟨p1,p2⟩:=Ci ht hg h6;have Y:parts.toList.length=len:=by rw[←List.length_map (f:=(·.1)),h5,List.length_range]
   have av:xs.length=len:=by rw[←p1,df,Y]
   have bc:¬(xs.map (·.eval env ls)=[]):=fun e=>L (by rw[←av,←List.length_map (f:=fun x:dd=>x.eval env ls),e];rfl);simp only[bJ]at D;rw[if_neg bc]at D;split at D
   ·rename_i ae;cases D;have hl:(xs.map (·.eval env ls)).length=len:=by rw[df,av]
    refine Qk (len:=len) (cvs:=(parts.toList.map (·.2)).map a.eval) J (gA K) W Z E I hl ?_ ?_ ?_ L ?_
    ·rw[df,df,Y]
    ·intro i hi O;obtain⟨x,x1,x2⟩:=p2 i (by simpa using hi);rw[au O]at x1;cases x1;simpa using x2
    ·intro v hv;simpa using bd.1 ae v hv
    rw[←h5];simp[List.zip_map',nN]
   cases D
  cases u
 case h_54=>cases D
 case h_55=>cases u
end Go.AM
namespace Go.AM
variable {M:dm} {w:World} {P:Program} {rs:Tmp→Option dd}
theorem It{c:dk}{env ls:List aq}{a:Act}(g:nI M w c env ls rs a.tmps)(f:kK M w c){xs:Array Operand}{b:List dd}(h:xX M rs xs.toList b=true) :
  lU M w c (b.map (·.eval env ls)) (xs.map a.eval):=by
 obtain⟨d,e⟩:=Ew g f h;exact⟨by rw[d];simp,e⟩
theorem lU.append{c:dk}{xs e:List aq}{A B:Array Value}(h:lU M w c xs A)(k:lU M w c e B):lU M w c (xs++e) (A++B):=by
 refine⟨by simp[h.1,k.1],fun i hi=>?_⟩;by_cases d:i<xs.length
 ·obtain⟨x,a,b⟩:=h.2 i d;refine⟨x,?_,by rw[cg d];exact b⟩;rw[eh (by rw[h.1];exact d)];exact a
 obtain⟨x,a,b⟩:=k.2 (i-xs.length) (by simp at hi;omega);refine⟨x,?_,by rw[cP (by omega)];exact b⟩;rw[lE (by rw[h.1];omega),h.1];exact a
theorem Pj{c:dk}{f:Nat}{first cap:List aq}{a:Value}(h:R M w c (.fn f first cap) a):∃fs cs,a=.func (.func (M.fm f)) fs cs∧lU M w c first fs∧lU M w c cap cs:=by
 cases h with
 |fn b d e g j k l m=>exact⟨_,_,rfl,⟨e,fun i hi=>⟨b i,j i hi,l i hi⟩⟩,g,fun i hi=>⟨d i,k i hi,m i hi⟩⟩
theorem Xz{c d:Type}{f:c→d}{o:Option c}{b:d}(h:o.map f=some b):∃a,o=some a∧f a=b:=bK h
theorem akW{F:Fence}{n:Nat}{c:dk}{σ T:aw}{env ls:List aq}{a:Act}{C:ip}{o:Oper}{G:If}{v:aq}(t:vc F)(hC:lN M P C)(hR:kX M P C)
  (O:fd M w c σ) (Z:nI M w c env ls rs a.tmps) (y:kK M w c) (h:G3 M P rs o.op G=true) (p:bJ C env ls σ G=some (v,T))
  {K:Act→World→Prop} {Q:Exit→Act→World→Prop} (X:∀cv w' c',fd M w' c' T→iW c w c' w'→R M w' c' v cv→K (a.put o.dst cv) w'):o.wpIn F n P a w K Q:=by
 have k:∀c,o.op≠.defer c:=by
  intro d e;rw[e]at h;cases G<;>simp[G3]at h;cases p
 by_cases h1:∃f x m,G=.call f x m
 ·obtain⟨f,args,af,rfl⟩:=h1;cases hop:o.op with
  |call d=>
   rw[hop]at h;simp only[G3]at h;split at h
   ·rename_i g ae;simp only[ax,aX]at h;obtain⟨W,h3⟩:=h;simp only[bJ]at p;obtain⟨⟨E,j⟩,s,Y⟩:=Xz p;have q:∀n,rL F n P (M.fm f) (d.args.map a.eval) w (gW M c w j E):=fun n=>(hC f _ σ E j s F n w c _ t O y (It Z y h3)).1;refine rL.wp t q ?_ k fun cv w' J=>?_
    ·unfold execOp;rw[hop];simp only[Go.resolve,ae,Act.eval,W];show callFunc g (#[]++d.args.map a.eval++#[])=_;simp
    obtain⟨c',z,S,A⟩:=J.mater af;rw[Y]at z A;exact X cv w' c' z S A
   cases h
  |_=>rw[hop]at h;simp[G3]at h
 by_cases W:∃f x,G=.callv f x
 ·obtain⟨f,args,rfl⟩:=W;cases hop:o.op with
  |call d=>
   rw[hop]at h;simp only[G3]at h;split at h
   ·rename_i x hx;simp only[ax]at h;obtain⟨h3,h4⟩:=h;simp only[bJ]at p;obtain⟨⟨E,j⟩,s,Y⟩:=Xz p;have r:=Ks Z y h3;have i:=It Z y h4;unfold HU at s;split at s
    ·rename_i g first cap D
     rw[D]at r;obtain⟨fs,cs,U,V,e3⟩:=Pj r;have q:∀n,rL F n P (M.fm g) (fs++d.args.map a.eval++cs) w (gW M c w j E):=fun n=>(hC g _ σ E j s F n w c _ t O y ((V.append i).append e3)).1;refine rL.wp t q ?_ k fun cv w' J=>?_
     ·unfold execOp;rw[hop];simp only[Go.resolve,hx,U];rfl
     obtain⟨c',z,S,A⟩:=J.mater false;rw[Y]at z A;exact X cv w' c' z S A
    ·rename_i l B u D;split at s
     ·rename_i L;rw[D]at r;obtain⟨b,tmps,w1,U,V,_⟩:=hR B l u _ σ E j s F n w c _ _ t O y i L r;have N:(execOp a.eval o).run P w=.ok (.round b (c.loops l).fn tmps (c.loops l).assign (c.loops l).body) w1:=by
       rw[←V];unfold execOp;rw[hop];simp only[Go.resolve,hx,U];show (Instr.yield b (#[]++d.args.map a.eval)).run P w=_;simp
      refine⟨fun f _=>t.fn f,?_⟩;rw[Oper.semAt_eq _ _ _ k,N];refine⟨fun hx=>absurd hx (by rw[t.depth];simp),?_⟩;obtain⟨b',ag,ah,H,I,ab⟩:=hR B l u _ σ E j s F (n-1) w c _ _ t O y i L r;rw[U]at H;cases H;rw[V]at I;cases I;refine ab.mono fun e w' ⟨cv,ad,J⟩=>?_;subst ad;obtain⟨c',z,S,A⟩:=J.mater false;rw[Y]at z A;exact X cv w' c' z S A
     cases s
    cases s
   cases h
  |_=>rw[hop]at h;simp[G3]at h
 exact (aeE O Z y h p (fun f x m e=>h1 ⟨f,x,m,e⟩) (fun f x e=>W ⟨f,x,e⟩)).wp t k X
end Go.AM
namespace Go.AM
mutual
theorem tG:∀{a b:aq},same a b=true→a=b
 |.agg a,b,h=>by
  cases b<;>simp only[same,bq]at h;rw[ou h]
 |.tup a,b,h=>by
  cases b<;>simp only[same,bq]at h;rw[ou h]
 |.aa _ a,b,h=>by
  cases b<;>simp only[same,bq,ax,aX]at h;rw[ou h.2,h.1]
 |.lst a,b,h=>by
  cases b<;>simp only[same,bq]at h;rw[ou h]
 |.cptr _ x _,b,h=>by
  cases b<;>simp only[same,bq,ax,aX]at h;obtain⟨⟨d,e⟩,f⟩:=h;rw[tG e,d,f]
 |.fn _ a c,b,h=>by
  cases b<;>simp only[same,bq,ax,aX]at h;obtain⟨⟨d,e⟩,f⟩:=h;rw[ou e,ou f,d]
 |.imap _ a,b,h=>by
  cases b<;>simp only[same,bq,ax,aX]at h;rw[CO h.2,h.1]
 |.yld _ _ a,b,h=>by
  cases b<;>simp only[same,bq,ax,aX]at h;obtain⟨⟨d,e⟩,f⟩:=h;rw[ou f,d,e]
 |.frs _ a,b,h=>by
  cases b<;>simp only[same,bq,ax,aX]at h;rw[ou h.2,h.1]
 |.int ..,b,h=>by cases b<;>simp[same]at h<;>simp[h]
 |.bool _,b,h=>by cases b<;>simp[same]at h<;>simp[h]
 |.str _,b,h=>by cases b<;>simp[same]at h<;>simp[h]
 |.nilp,b,h=>by cases b<;>simp[same]at h<;>rfl
 |.nilf,b,h=>by cases b<;>simp[same]at h<;>rfl
 |.nilm,b,h=>by cases b<;>simp[same]at h<;>rfl
 |.ai,b,h=>by cases b<;>simp[same]at h<;>rfl
 |.sl ..,b,h=>by cases b<;>simp[same]at h<;>simp[h]
 |.ptr ..,b,h=>by cases b<;>simp[same]at h<;>simp[h]
 |.asl ..,b,h=>by cases b<;>simp[same]at h<;>simp[h]
 |.mp _,b,h=>by cases b<;>simp[same]at h<;>simp[h]
 |.emp _,b,h=>by cases b<;>simp[same]at h<;>simp[h]
 |.it _,b,h=>by cases b<;>simp[same]at h<;>simp[h]
 |.any,b,h=>by cases b<;>simp[same]at h<;>rfl
theorem ou:∀{a b:List aq},qY a b=true→a=b
 |[],[],_=>rfl
 |[],_::_,h=>by simp[qY]at h
 |_::_,[],h=>by simp[qY]at h
 |a::x,b::y,h=>by
  simp only[qY,ax]at h;rw[tG h.1,ou h.2]
theorem CO:∀{a b:List (aq×aq)},yM a b=true→a=b
 |[],[],_=>rfl
 |[],_::_,h=>by simp[yM]at h
 |_::_,[],h=>by simp[yM]at h
 |(a,b)::x,(f,g)::y,h=>by
  simp only[yM,ax]at h;obtain⟨⟨c,d⟩,e⟩:=h;rw[tG c,tG d,CO e]
end
mutual
theorem tW:∀(a:aq),same a a=true
 |.agg a=>by simp only[same];exact jO a
 |.tup a=>by simp only[same];exact jO a
 |.aa _ a=>by simp only[same,eE,ej];exact jO a
 |.lst a=>by simp only[same];exact jO a
 |.cptr _ x _=>by simp only[same,eE,ej,lL];exact tW x
 |.fn _ a c=>by simp only[same,eE,ej,ax];exact⟨jO a,jO c⟩
 |.imap _ a=>by simp only[same,eE,ej];exact BP a
 |.yld _ _ a=>by simp only[same,eE,ej];exact jO a
 |.frs _ a=>by simp only[same,eE,ej];exact jO a
 |.int ..=>by simp[same]
 |.bool _=>by simp[same]
 |.str _=>by simp[same]
 |.nilp=>by simp[same]
 |.nilf=>by simp[same]
 |.nilm=>by simp[same]
 |.ai=>by simp[same]
 |.sl ..=>by simp[same]
 |.ptr ..=>by simp[same]
 |.asl ..=>by simp[same]
 |.mp _=>by simp[same]
 |.emp _=>by simp[same]
 |.it _=>by simp[same]
 |.any=>by simp[same]
theorem jO:∀(a:List aq),qY a a=true
 |[]=>by simp[qY]
 |a::x=>by simp only[qY,ax];exact⟨tW a,jO x⟩
theorem BP:∀(a:List (aq×aq)),yM a a=true
 |[]=>by simp[yM]
 |(a,b)::x=>by simp only[yM,ax];exact⟨⟨tW a,tW b⟩,BP x⟩
end
theorem abc{a b:Option (aq×aq)}(h:Oz a b=true):a=b:=by
 cases a<;>cases b<;>simp only[Oz,bq,ax]at h
 ·rfl
 rename_i x y;obtain⟨a,b⟩:=x;obtain⟨c,d⟩:=y;have e:=tG h.1;have f:=tG h.2;dsimp only at e f;rw[e,f]
theorem Qt(a:Option (aq×aq)):Oz a a=true:=by
 cases a<;>simp[Oz,tW]
theorem aaF{a b:Obj}(h:NQ a b=true):a=b:=by
 cases a<;>cases b<;>simp only[NQ,bq,ax,aX,bZ]at h
 ·obtain⟨⟨c,d⟩,e⟩:=h;rw[c,d,ou e]
 ·rw[CO h]
 ·rw[h.1,h.2]
 ·rw[h.1,h.2]
 ·rw[CO h.1.1,abc h.1.2,h.2]
 rfl
theorem SF(a:Obj):NQ a a=true:=by
 cases a<;>simp[NQ,jO,BP,Qt]
theorem IJ:∀{a b:aw},sr a b=true→a=b
 |[],[],_=>rfl
 |[],_::_,h=>by simp[sr]at h
 |_::_,[],h=>by simp[sr]at h
 |a::x,b::y,h=>by
  simp only[sr,ax]at h;rw[aaF h.1,IJ h.2]
theorem By:∀(a:aw),sr a a=true
 |[]=>by simp[sr]
 |a::x=>by simp only[sr,ax];exact⟨SF a,By x⟩
end Go.AM
namespace Go.AM
variable {C:ip} {env:List aq}
structure A3 (C:ip) (env:List aq) (ins:List cr) (ls:List aq) (s:Nat→aw):Prop where
 len:ls.length=ins.length
 step:∀n (h:n<ins.length) (h':n<ls.length),(wanted env (ls.take n) ins[n].guard=some true∧bJ C env (ls.take n) (s n) ins[n].op=some (ls[n],s (n+1))) ∨
  (wanted env (ls.take n) ins[n].guard=some false∧ls[n]=.tup []∧s (n+1)=s n)
theorem AP:∀(c:List cr) (b:List aq) (σ:aw) (ls:List aq) (d:aw),lY C env c b σ=some (ls,d) →
  ∃(a:List aq) (s:Nat→aw),ls=b++a∧a.length=c.length∧s 0=σ∧s c.length=d ∧
   ∀n (h:n<c.length) (u:n<a.length),(wanted env (b++a.take n) c[n].guard=some true∧bJ C env (b++a.take n) (s n) c[n].op=some (a[n],s (n+1))) ∨
    (wanted env (b++a.take n) c[n].guard=some false∧a[n]=.tup []∧s (n+1)=s n)
 |[],b,σ,ls,d,h=>by
  simp only[lY,aK,dY]at h;obtain⟨rfl,rfl⟩:=h;exact⟨[],fun _=>σ,by simp,rfl,rfl,rfl,fun n h=>absurd h (by simp)⟩
 |i::r,b,σ,ls,d,h=>by
  simp only[lY]at h;have l:∀(x:aq) (e:aw),lY C env r (b++[x]) e=some (ls,d) →
    ((wanted env b i.guard=some true∧bJ C env b σ i.op=some (x,e))∨(wanted env b i.guard=some false∧x=.tup []∧e=σ)) →
    ∃(a:List aq) (s:Nat→aw),ls=b++a∧a.length=(i::r).length∧s 0=σ∧s (i::r).length=d ∧
     ∀n (h:n<(i::r).length) (u:n<a.length),(wanted env (b++a.take n) (i::r)[n].guard=some true∧bJ C env (b++a.take n) (s n) (i::r)[n].op=some (a[n],s (n+1))) ∨
      (wanted env (b++a.take n) (i::r)[n].guard=some false∧a[n]=.tup []∧s (n+1)=s n):=fun x e f g=>by
   obtain⟨a,s,m,o,p,q,t⟩:=AP r (b++[x]) e ls d f;refine⟨x::a,fun n=>match n with|0=>σ|n+1=>s n,by rw[m];simp,by simp[o],rfl,by simpa using q,fun n v j=>?_⟩;cases n with
   |zero=>simpa [p] using g
   |succ n=>
    have:=t n (by simpa using v) (by simpa using j);simpa using this
  split at h
  ·rename_i k;obtain⟨⟨x,e⟩,f,g⟩:=bR h;exact l x e g (.inl ⟨k,f⟩)
  ·rename_i k;exact l (.tup []) σ h (.inr ⟨k,rfl,rfl⟩)
  cases h
theorem OX{a:List cr}{σ b:aw}{ls:List aq}(h:lY C env a [] σ=some (ls,b)):∃s,A3 C env a ls s∧s 0=σ∧s a.length=b:=by
 obtain⟨i,s,c,e,f,g,d⟩:=AP a [] σ ls b h;simp only[bX]at c d;subst c;exact⟨s,⟨e,d⟩,f,g⟩
theorem EW:∀(c:List cr) (d:List aq) (f:List aw) (σ:aw) (ls:List aq) (ss:List aw) (b:aw),um C env c d f σ=some (ls,ss,b) →
  ∃(a:List aq) (s:Nat→aw),ls=d++a∧a.length=c.length∧s 0=σ∧s c.length=b∧ss++[b]=f++(List.range (c.length+1)).map s ∧
   ∀n (h:n<c.length) (w:n<a.length),(wanted env (d++a.take n) c[n].guard=some true∧bJ C env (d++a.take n) (s n) c[n].op=some (a[n],s (n+1))) ∨
    (wanted env (d++a.take n) c[n].guard=some false∧a[n]=.tup []∧s (n+1)=s n)
 |[],d,f,σ,ls,ss,b,h=>by
  simp only[um,aK,dY]at h;obtain⟨rfl,rfl,rfl⟩:=h;exact⟨[],fun _=>σ,by simp,rfl,rfl,rfl,by simp,fun n h=>absurd h (by simp)⟩
 |i::r,d,f,σ,ls,ss,b,h=>by
  simp only[um]at h;have m:∀(x:aq) (e:aw),um C env r (d++[x]) (f++[σ]) e=some (ls,ss,b) →
    ((wanted env d i.guard=some true∧bJ C env d σ i.op=some (x,e))∨(wanted env d i.guard=some false∧x=.tup []∧e=σ)) →
    ∃(a:List aq) (s:Nat→aw),ls=d++a∧a.length=(i::r).length∧s 0=σ∧s (i::r).length=b∧ss++[b]=f++(List.range ((i::r).length+1)).map s ∧
     ∀n (h:n<(i::r).length) (w:n<a.length),(wanted env (d++a.take n) (i::r)[n].guard=some true∧bJ C env (d++a.take n) (s n) (i::r)[n].op=some (a[n],s (n+1))) ∨
      (wanted env (d++a.take n) (i::r)[n].guard=some false∧a[n]=.tup []∧s (n+1)=s n):=fun x e g j=>by
   obtain⟨a,s,o,p,q,t,v,u⟩:=EW r (d++[x]) (f++[σ]) e ls ss b g;refine⟨x::a,fun n=>match n with|0=>σ|n+1=>s n,by rw[o];simp,by simp[p],rfl,by simpa using t,?_,fun n y k=>?_⟩
   ·rw[v,bw,List.range_succ_eq_map (n:=r.length+1)];simp
   cases n with
   |zero=>simpa [q] using j
   |succ n=>
    have:=u n (by simpa using y) (by simpa using k);simpa using this
  split at h
  ·rename_i l;obtain⟨⟨x,e⟩,g,j⟩:=bR h;exact m x e j (.inl ⟨l,g⟩)
  ·rename_i l;exact m (.tup []) σ h (.inr ⟨l,rfl,rfl⟩)
  cases h
theorem I0{ls:List aq}{c:List cr}{ss:List aw}:∀{a:List (Nat×Nat)},rD C env ls c ss a=some ()→∀n j,(n,j)∈a→∃I τ,c[n]?=some I∧ss[j]?=some τ∧bJ C env (ls.take n) τ I.op=some (pr ls n,τ)
 |[],_,n,j,h=>by cases h
 |(n0,j0)::r,h,n,j,b=>by
  simp only[rD]at h;split at h
  ·rename_i I τ f g;obtain⟨q,i,d⟩:=bR h;split at d
   ·rename_i e;simp only[ax]at e;rcases dX.1 b with b|b
    ·cases b;refine⟨I,τ,f,g,?_⟩;rw[i,←tG e.1,←IJ e.2]
    exact I0 d n j b
   cases d
  cases h
theorem VZ{a:List cr}{σ b:aw}{ls:List aq}{ss:List aw}{c:List (Nat×Nat)}(h:um C env a [] [] σ=some (ls,ss,b))(p:rD C env ls a (ss++[b]) c=some ()) :
  ∃s,A3 C env a ls s∧s 0=σ∧s a.length=b∧∀(n j:Nat) (I:cr),(n,j)∈c→a[n]?=some I→bJ C env (ls.take n) (s j) I.op=some (pr ls n,s j):=by
 obtain⟨v,s,d,k,l,m,f,e⟩:=EW a [] [] σ ls ss b h;simp only[bX]at d e f;subst d;refine⟨s,⟨k,e⟩,l,m,fun n j I r o=>?_⟩;obtain⟨u,τ,g,i,t⟩:=I0 p n j r;rw[o]at g;cases g;rw[f,dP]at i;obtain⟨j',j1,j2⟩:=bK i;have:j'=j:=by
  obtain⟨_,q⟩:=ak.1 j1;simpa using q.symm
 subst this;rw[j2];exact t
def W8(cA:Nat→Bool):If→Nat
 |.mov _|.pick ..|.build ..|.mkl ..|.fldv ..|.idxv ..|.idxt ..|.bin ..|.eqb ..|.eqa ..|.una ..|.conv ..|.slicet ..|.lent _|.cap _|.mins ..|.maxs ..|.mkfn ..|.ext ..|.bad=>0
 |.load ..|.nils ..|.fld ..|.idxs ..|.idxa ..|.nilck _|.slice ..|.slice0 _|.aslice ..|.len _|.look ..|.mlen _|.b2s _|.lookk ..=>1
 |.call f _ mat=>if !mat&&cA f then 1 else 2
 |_=>2
def wH(cA:Nat→Bool)(C:ip):Prop:=∀f args σ v σ',cA f=true→C f args σ=some (v,σ')→σ'=σ
theorem PE{v:aq}{σ:aw}:(mater false (v,σ)).2=σ:=by
 unfold mater vO;dsimp only;split
 ·split<;>rfl
 split<;>rfl
theorem ail{cA:Nat→Bool}(s:wH cA C){ls:List aq}{o:If}(h:W8 cA o≤1){σ g:aw}{v:aq}(b:bJ C env ls σ o=some (v,g)):g=σ:=by
 have m:∀{q:Option aq},q.map (·,σ)=some (v,g)→g=σ:=fun {q} h=>by
  cases q with
  |none=>cases h
  |some a=>cases h;rfl
 have ite:∀{p:Prop} [Decidable p] {q:Option (aq×aw)},(if p then q else none)=some (v,g)→q=some (v,g):=fun {p} _ {q} h=>by
  split at h
  ·exact h
  cases h
 cases o with
 |call f args t=>
  simp only[W8]at h;split at h
  ·rename_i l;simp only[ax,gM]at l;simp only[bJ]at b;obtain⟨⟨u,n⟩,r,d⟩:=bK b;have:=s _ _ _ _ _ l.2 r;subst this;rw[l.1]at d;have e:=PE (v:=u) (σ:=n);rw[d]at e;exact e
  omega
 |mov x=>cases b;rfl
 |mkl k xs=>simp only[bJ]at b;have:=ite b;cases this;rfl
 |pick c x y=>exact m b
 |build z w=>simp only[bJ]at b;obtain⟨_,_,d⟩:=bK b;cases d;rfl
 |fldv=>exact m b
 |idxv=>simp only[bJ]at b;obtain⟨_,_,d⟩:=bR b;exact m (ite d)
 |idxt=>simp only[bJ]at b;obtain⟨_,_,d⟩:=bR b;exact m d
 |bin=>exact m b
 |eqb=>exact m b
 |eqa=>exact m b
 |una=>exact m b
 |conv=>exact m b
 |slicet=>
  simp only[bJ]at b;obtain⟨_,_,d⟩:=bR b;obtain⟨_,_,i⟩:=bR d;obtain⟨_,_,j⟩:=bR i;exact m j
 |lent=>simp only[bJ]at b;obtain⟨_,_,d⟩:=bK b;cases d;rfl
 |cap=>exact m b
 |mins=>exact m b
 |maxs=>exact m b
 |mkfn=>cases b;rfl
 |ext=>exact m b
 |bad=>cases b
 |load=>exact m b
 |nils=>exact m b
 |fld=>exact m b
 |idxs=>simp only[bJ]at b;obtain⟨_,_,d⟩:=bR b;exact m d
 |idxa=>simp only[bJ]at b;obtain⟨_,_,d⟩:=bR b;exact m (ite d)
 |nilck=>exact m b
 |slice=>
  simp only[bJ]at b;obtain⟨_,_,d⟩:=bR b;obtain⟨_,_,i⟩:=bR d;obtain⟨_,_,j⟩:=bR i;exact m j
 |slice0=>simp only[bJ]at b;obtain⟨_,_,d⟩:=bK b;cases d;rfl
 |aslice=>exact m b
 |len=>simp only[bJ]at b;obtain⟨_,_,d⟩:=bK b;cases d;rfl
 |look=>
  simp only[bJ]at b;obtain⟨_,_,d⟩:=bR (ite b);obtain⟨_,_,i⟩:=bK d;cases i;rfl
 |mlen=>simp only[bJ]at b;obtain⟨_,_,d⟩:=bK b;cases d;rfl
 |b2s=>exact m b
 |lookk=>
  simp only[bJ]at b;obtain⟨_,_,d⟩:=bR (ite b);obtain⟨_,_,i⟩:=bK d;cases i;rfl
 |_=>simp[W8]at h
theorem abx{cA:Nat→Bool}{ls:List aq}{o:If}(h:W8 cA o=0){σ g:aw}{v:aq}(b:bJ C env ls σ o=some (v,g))(τ:aw):bJ C env ls τ o=some (v,τ):=by
 have m:∀{q:Option aq},q.map (·,σ)=some (v,g)→q.map (·,τ)=some (v,τ):=fun {q} h=>by
  cases q with
  |none=>cases h
  |some a=>cases h;rfl
 cases o with
 |call f args r=>simp only[W8]at h;split at h<;>cases h
 |mov x=>cases b;rfl
 |mkl k xs=>
  simp only[bJ]at b ⊢;split at b
  ·rename_i i;rw[if_pos i];cases b;rfl
  cases b
 |pick c x y=>exact m b
 |build z s=>simp only[bJ]at b ⊢;obtain⟨_,e,d⟩:=bK b;rw[e];cases d;rfl
 |fldv=>exact m b
 |idxv=>
  simp only[bJ]at b ⊢;obtain⟨k,e,d⟩:=bR b;rw[e];simp only[cF];split at d
  ·rename_i i;rw[if_pos i];exact m d
  cases d
 |idxt=>simp only[bJ]at b ⊢;obtain⟨k,e,d⟩:=bR b;rw[e];exact m d
 |bin=>exact m b
 |eqb=>exact m b
 |eqa=>exact m b
 |una=>exact m b
 |conv=>exact m b
 |slicet=>
  simp only[bJ]at b ⊢;obtain⟨_,e,d⟩:=bR b;obtain⟨_,j,l⟩:=bR d;obtain⟨_,n,p⟩:=bR l;rw[e];simp only[cF];rw[j];simp only[cF];rw[n];exact m p
 |lent=>simp only[bJ]at b ⊢;obtain⟨_,e,d⟩:=bK b;rw[e];cases d;rfl
 |cap=>exact m b
 |mins=>exact m b
 |maxs=>exact m b
 |mkfn=>cases b;rfl
 |ext=>exact m b
 |bad=>cases b
 |_=>simp[W8]at h
end Go.AM
namespace Go.AM
variable {M:dm} {P:Program}
abbrev GC:=List (dd×Option Nat)
def sS(its:GC)(k:Nat):dd:=((its[k]?).map (·.1)).getD (.val .any)
def fJ(its:GC)(k:Nat):Option Nat:=(its[k]?).bind (·.2)
def PU(ops:List Oper)(t:Tmp):Option Nat:=ops.findIdx? fun o=>o.dst==some t
def Jw(ops:List Oper)(em:List Tmp)(its:GC)(bef:Nat→Nat)(i:Nat)(t:Tmp):Option dd:=
 match PU ops t with
 |none=>(em.idxOf? t).map .env
 |some k=>if (bef i).testBit k then some (sS its k) else if k==i ||(bef k).testBit i then (em.idxOf? t).map .env else none
def Ub:Value→Option aq
 |.int k n=>some (.int k n)
 |.bool b=>some (.bool b)
 |.string s=>some (.str s.data.toList)
 |.pointer none=>some .nilp
 |.nilFunc=>some .nilf
 |.map none=>some .nilm
 |_=>none
theorem ak0{w:World}{c:dk}{v:Value}{a:aq}(h:Ub v=some a):R M w c a v:=by
 unfold Ub at h;split at h<;>first|(cases h;done)|(cases h;first|exact .int|exact .bool|exact .str rfl|exact .nilp|exact .nilf|exact .nilm)
def Vj:Op→Option Operand
 |.move x=>some x
 |.assign x=>some x
 |_=>none
def li(cA:Nat→Bool)(ins:List cr)(chk:List (Nat×Nat))(n:Nat):Bool:=match ins[n]? with
 |some I=>W8 cA I.op==2&&!chk.contains (n,n)
 |none=>false
def Aw(its:GC)(bef:Nat→Nat)(ops:List Oper)(i:Nat):Option (Nat×Bool)→Option (dd×Bool)→Bool
 |none,none=>true
 |some (j,b),some (x,b')=>b==b'&&(bef i).testBit j&&FH (sS its j) x&&((ops[j]?).bind (·.dst)).isSome
 |_,_=>false
def SB(ops:List Oper)(em:List Tmp)(its:GC)(bef:Nat→Nat)(i:Nat)(o:Oper):Bool:=o.guard.isNone&&(match Vj o.op with
 |some (.tmp t)=>(match Jw ops em its bef i t with
  |some x=>FH x (sS its i)
  |none=>false)
 |some (.const v)=>(match Ub v with
  |some a=>FH (.val a) (sS its i)
  |none=>false)
 |_=>false)
structure xP (M:dm) (P:Program) (cA:Nat→Bool) (ops:Array Oper) (ins:List cr) (em:List Tmp) (its:GC) (bef:Nat→Nat) (chk:List (Nat×Nat)) (late:Option Nat) (nt:Nat):Prop where
 size:its.length=ops.size
 dst:∀(i:Nat) (o:Oper) (d:Tmp),ops[i]?=some o→o.dst=some d→d<nt
 uniq:∀(i k:Nat) (oi ok:Oper) (d:Tmp),ops[i]?=some oi→ops[k]?=some ok→oi.dst=some d→ok.dst=some d→i=k
 low:∀i k,(bef i).testBit k=true→k<i
 mono:∀k i n m,fJ its k=some n→fJ its i=some m→k<i→n<m
 onto:∀n,n<ins.length→∃k,fJ its k=some n∧k<ops.size
 bound:∀k n,fJ its k=some n→n<ins.length
 item:∀(i:Nat) (o:Oper),ops[i]?=some o→(fJ its i=none∧SB ops.toList em its bef i o=true) ∨
  ∃n I,fJ its i=some n∧ins[n]?=some I∧sS its i=.loc n∧G3 M P (Jw ops.toList em its bef i) o.op I.op=true∧Aw its bef ops.toList i o.guard I.guard=true ∧
   (li cA ins chk n=true→late≠some i→∀k m,k<i→fJ its k=some m→li cA ins chk m=true→(bef i).testBit k=true) ∧
   (li cA ins chk n=false→W8 cA I.op=0 ∨
    ((∃k m,fJ its k=some m∧li cA ins chk m=true∧(bef i).testBit k=true)∨(∀k m,fJ its k=some m→li cA ins chk m=true→¬m<n)∨(n,0)∈chk) ∧
    ∀k m,fJ its k=some m→li cA ins chk m=true→(bef k).testBit i=true∨(∃k' m',fJ its k'=some m'∧li cA ins chk m'=true∧m<m'∧(bef i).testBit k'=true) ∨
     (m<n∧∀k' m',fJ its k'=some m'→li cA ins chk m'=true→m<m'→¬m' < n)∨(n,m+1)∈chk)
 lateOk:∀d,late=some d→bef d=0∧∃o T t n kk z,ops[d]?=some o∧o.op=.alloc T∧o.guard=none∧o.dst=some t∧fJ its d=some n∧ins[n]?=some ⟨.box kk (.val z),none⟩∧li cA ins chk n=true ∧
  (∀j,(bef j).testBit d=true→∀k m,fJ its k=some m→li cA ins chk m=true→m<n→(bef j).testBit k=true)∧∀j,j<ops.size→j≠d→Jw ops.toList em its bef j t≠none→(bef j).testBit d=true
 guards:∀(n j:Nat) (I:cr),(n,j)∈chk→ins[n]?=some I→I.guard=none
theorem Kz{ops:Array Oper}{t:Tmp}(h:PU ops.toList t=none){k:Nat}{o:Oper}(b:ops[k]?=some o):o.dst≠some t:=by
 unfold PU at h;rw[List.findIdx?_eq_none_iff]at h;have a:o∈ops.toList:=by
  rw[List.mem_iff_getElem?];exact⟨k,by simpa using b⟩
 have:=h o a;simpa using this
theorem KQ{ops:Array Oper}{t:Tmp}{k:Nat}(h:PU ops.toList t=some k):∃o,ops[k]?=some o∧o.dst=some t:=by
 unfold PU at h;rw[dD]at h;obtain⟨b,a,_⟩:=h;exact⟨ops[k]'(by simpa using b),by simp,by simpa using a⟩
theorem R.undef{w:World}{c:dk}:R M w c (.tup []) undef:=.tup (fun _=>.nilFunc) rfl (fun i h=>absurd h (by simp)) (fun i h=>absurd h (by simp))
theorem DE{env ls:List aq}{x:dd}(n:Nat):x.eval env (ls.take n)=x.eval env ls∨x.eval env (ls.take n)=.any:=by
 cases x with
 |env i=>exact .inl rfl
 |val v=>exact .inl rfl
 |loc j=>
  simp only[dd.eval,pr,gp];by_cases h:j<n
  ·simp[h]
  simp[h]
theorem R.take{w:World}{c:dk}{env ls:List aq}{x:dd}{v:Value}(h:R M w c (x.eval env ls) v)(n:Nat):R M w c (x.eval env (ls.take n)) v:=by
 rcases DE (env:=env) (ls:=ls) (x:=x) n with e|e
 ·rw[e];exact h
 rw[e];exact .any
section
variable {cA:Nat→Bool} {ops:Array Oper} {ins:List cr} {em:List Tmp} {its:GC} {bef:Nat→Nat} {chk:List (Nat×Nat)} {env ls:List aq} {s:Nat→aw} {C:ip} {w0:World} {c0:dk} {a0:Act}
def Cut(cA:Nat→Bool)(ins:List cr)(its:GC)(chk:List (Nat×Nat))(S:Nat→Prop)(p:Nat):Prop:=
 (p=0∨∃k n,S k∧fJ its k=some n∧li cA ins chk n=true∧p=n+1) ∧
 ∀k n,fJ its k=some n→li cA ins chk n=true→(S k↔n<p)
def yh(M:dm)(cA:Nat→Bool)(ops:Array Oper)(ins:List cr)(its:GC)(bef:Nat→Nat)(chk:List (Nat×Nat))(env ls:List aq)(s:Nat→aw)(c0:dk)(w0:World)(a0:Act)(x:Option (Tmp×Nat×Go.Obj))(S:Nat→Prop)(a:Act)(w:World):Prop:=
 (∀i k,S i→(bef i).testBit k=true→S k)∧(∀i,S i→i<ops.size)∧∃c p,fd M w c (s p)∧iW c0 w0 c w∧Cut cA ins its chk S p ∧
  (∀(i:Nat) (o:Oper) (d:Tmp),S i→ops[i]?=some o→o.dst=some d→R M w c ((sS its i).eval env ls) (a.tmps.getD d undef)) ∧
  (∀t,(∀(i:Nat) (o:Oper),S i→ops[i]?=some o→o.dst≠some t)→(∀b ob,x≠some (t,b,ob))→a.tmps.getD t undef=a0.tmps.getD t undef)∧a.tmps.size=a0.tmps.size∧a.defers=a0.defers ∧
  ∀t b ob,x=some (t,b,ob)→a.tmps.getD t undef=.pointer (some ⟨b,0,none⟩)∧w0.heap.size≤b∧w.heap[b]?=some ob∧¬c.bor b∧∀id,c.H id≠.dead→c.place id≠some b
theorem BB(i:A3 C env ins ls s)(q:wH cA C)(d:∀(n j:Nat) (I:cr),(n,j)∈chk→ins[n]?=some I→bJ C env (ls.take n) (s j) I.op=some (pr ls n,s j))(o:∀(n j:Nat) (I:cr),(n,j)∈chk→ins[n]?=some I→I.guard=none)
  {p n:Nat} (r:p≤n) (v:n≤ins.length) (h:∀m,p≤m→m<n→li cA ins chk m=false):s n=s p:=by
 induction n with
 |zero=>rw[show p=0 by omega]
 |succ n t=>
  by_cases e:p=n+1
  ·rw[e]
  rw[←t (by omega) (by omega) (fun m f c=>h m f (by omega))];have b:n<ins.length:=by omega
  have a:=h n (by omega) (by omega);have u:=i.len;rcases i.step n b (by omega) with⟨f,c⟩|⟨_,_,k⟩
  ·unfold li at a;rw[au b]at a;simp only[kV,gh,Bool.not_eq_false',iK]at a;rcases a with g|g
   ·have:W8 cA ins[n].op≤1:=by
     have:W8 cA ins[n].op≤2:=by
      cases ins[n].op<;>simp[W8];split<;>omega
     omega
    exact ail q this c
   have l:=d n n ins[n] g (au b);rw[l]at c;simp only[aK,dY]at c;exact c.2.symm
  exact k
theorem C3(i:A3 C env ins ls s)(l:wH cA C)(a:∀(n j:Nat) (I:cr),(n,j)∈chk→ins[n]?=some I→bJ C env (ls.take n) (s j) I.op=some (pr ls n,s j))(b:∀(n j:Nat) (I:cr),(n,j)∈chk→ins[n]?=some I→I.guard=none)
  (c:∀n,n<ins.length→∃k,fJ its k=some n∧k<ops.size) {p n:Nat} (g:p≤ins.length) (u:n≤ins.length)
  (h:∀k m,fJ its k=some m→li cA ins chk m=true→(m<p↔m<n)):s p=s n:=by
 have o:∀m,m<ins.length→li cA ins chk m=true→(m<p↔m<n):=fun m t v=>by
  obtain⟨k,r,_⟩:=c m t;exact h k m r v
 by_cases f:p≤n
 ·refine (BB i l a b f u fun m q d=>?_).symm;cases e:li cA ins chk m with
  |false=>rfl
  |true=>exact absurd ((o m (by omega) e).2 d) (by omega)
 refine BB i l a b (by omega) g fun m q d=>?_;cases e:li cA ins chk m with
 |false=>rfl
 |true=>exact absurd ((o m (by omega) e).1 d) (by omega)
theorem Uu{w:World}{c:dk}{a:Act}{i n:Nat}{o:Oper}{g:Option (dd×Bool)}{t:Bool}(h:Aw its bef ops.toList i o.guard g=true)(l:wanted env (ls.take n) g=some t)
  (D:∀(j:Nat) (r:Oper) (d:Tmp),(bef i).testBit j=true→ops[j]?=some r→r.dst=some d→R M w c ((sS its j).eval env ls) (a.tmps.getD d undef)):Region.wanted o (yielded ops a.tmps)=t:=by
 unfold Region.wanted;cases hg:o.guard with
 |none=>
  rw[hg]at h;cases g with
  |none=>simp only[wanted,aK]at l;exact l
  |some x=>simp[Aw]at h
 |some F=>
  obtain⟨j,b⟩:=F;rw[hg]at h;cases g with
  |none=>simp[Aw]at h
  |some G=>
   obtain⟨x,H⟩:=G;simp only[Aw,ax,aX]at h;obtain⟨⟨⟨rfl,z⟩,A⟩,B⟩:=h;have E:=wo A;obtain⟨d,hd⟩:=cN.1 B;obtain⟨r,C,p⟩:=bR hd;have m:ops[j]?=some r:=by simpa using C
   have k:=D j r d z m p;rw[E]at k;simp only[wanted]at l;split at l
   ·rename_i s f;simp only[aK]at l;have u:x.eval env ls=.bool s:=by
     rcases DE (env:=env) (ls:=ls) (x:=x) n with e|e
     ·rw[←e];exact f
     rw[e]at f;cases f
    rw[u]at k;have q:a.tmps[d]?=some (.bool s):=by
     rw[bV]at k;cases hq:a.tmps[d]? with
     |none=>rw[hq]at k;simp[undef]at k;cases k
     |some v=>rw[hq]at k;simp at k;cases k;rfl
    have y:yielded ops a.tmps j=some s:=by
     unfold yielded;simp[m,p,q]
    show (yielded ops a.tmps j==some b)=t;rw[y,←l];cases s<;>cases b<;>rfl
   ·rename_i f;simp only[aK]at l;have u:x.eval env ls=.tup []:=by
     rcases DE (env:=env) (ls:=ls) (x:=x) n with e|e
     ·rw[←e];exact f
     rw[e]at f;cases f
    rw[u]at k;show (yielded ops a.tmps j==some b)=t;have y:yielded ops a.tmps j=none:=by
     unfold yielded;rw[bV]at k;simp only[m,cF,p];cases hq:a.tmps[d]? with
     |none=>rfl
     |some v=>
      rw[hq]at k;simp only[cT]at k;cases k;rfl
    rw[y,←l];cases b<;>rfl
   cases l
end
end Go.AM
namespace Go.AM
variable {M:dm} {P:Program}
variable {cA:Nat→Bool} {ops:Array Oper} {ins:List cr} {em:List Tmp} {its:GC} {bef:Nat→Nat} {chk:List (Nat×Nat)} {late:Option Nat} {nt:Nat} {env ls:List aq} {s:Nat→aw} {C:ip} {w0:World} {c0:dk} {a0:Act}
theorem My{ls:List aq}{n:Nat}(h:n<ls.length):pr ls n=ls[n]:=by
 unfold pr;rw[au h];rfl
theorem M0(l:xP M P cA ops ins em its bef chk late nt)(hT:A3 C env ins ls s)(hp:wH cA C)(G:∀(n j:Nat) (I:cr),(n,j)∈chk→ins[n]?=some I→bJ C env (ls.take n) (s j) I.op=some (pr ls n,s j))
  (hC:lN M P C) (hR:kX M P C) {F:Fence} {n0:Nat} (hF:vc F) (hg:kK M w0 c0) (cb:nI M w0 c0 env [] (fun t=>(em.idxOf? t).map .env) a0.tmps) (ad:nt≤a0.tmps.size)
  {Q:Exit→Act→World→Prop} {i:Nat} {o:Oper} (X:ops[i]?=some o) {x:Option (Tmp×Nat×Go.Obj)} (bl:∀t b ob,x=some (t,b,ob)→Jw ops.toList em its bef i t=none∧o.dst≠some t) {S:Nat→Prop} (hi:¬S i) (ah:∀n,fJ its i=some n→li cA ins chk n=true→∀k m,k<i→fJ its k=some m→li cA ins chk m=true→S k) (Z:∀k,(bef i).testBit k=true→S k) {a:Act} {w:World}
  (bc:yh M cA ops ins its bef chk env ls s c0 w0 a0 x S a w) :
  wpOpIn F n0 P ops Q i (yh M cA ops ins its bef chk env ls s c0 w0 a0 x fun j=>S j∨j=i) a w:=by
 obtain⟨cl,lt,c,p,hs,av,g,hv,bh,K,a8,bb⟩:=bc;have b5:i<ops.size:=(bF.1 X).1;have bz:kK M w c:=hg.ext av.toExt
 have a7:nI M w c env ls (Jw ops.toList em its bef i) a.tmps:=by
  intro t x' D;have a4:∀b ob,x≠some (t,b,ob):=fun b ob e=>by rw[(bl t b ob e).1]at D;cases D
  unfold Jw at D;have base:(em.idxOf? t).map dd.env=some x'→(∀(i:Nat) (o:Oper),S i→ops[i]?=some o→o.dst≠some t)→R M w c (x'.eval env ls) (a.tmps.getD t undef):=fun E z=>by
   rw[bh t z a4];have:=(cb t x' E).ext av.toExt;obtain⟨j,_,rfl⟩:=bK E;exact this
  split at D
  ·rename_i B;exact base D fun k ok _ r=>Kz B r
  rename_i k B;obtain⟨ok,r,be⟩:=KQ B;split at D
  ·rename_i bp;cases D;exact hv k ok t (Z k bp) r be
  split at D
  ·rename_i hc;refine base D fun k' cc W b6 bt=>?_;have:=l.uniq k' k cc ok t b6 r bt be;subst this;simp only[dL,aX]at hc;rcases hc with rfl|hc
   ·exact hi W
   exact hi (cl _ _ W hc)
  cases D
 have bo:∀n,nI M w c env (ls.take n) (Jw ops.toList em its bef i) a.tmps:=fun n t x D=>(a7 t x D).take n
 have ae:∀(cv:Value) (w':World) (c':dk) (p':Nat),fd M w' c' (s p')→iW c w c' w'→Cut cA ins its chk (fun j=>S j∨j=i) p'→R M w' c' ((sS its i).eval env ls) cv →
   yh M cA ops ins its bef chk env ls s c0 w0 a0 x (fun j=>S j∨j=i) (a.put o.dst cv) w':=fun cv w' c' p' E z h3 h4=>by
  refine⟨fun j k J r=>?_,fun j J=>?_,c',p',E,av.trans z,h3,fun j oj d J ab hd=>?_,fun t ht a4=>?_,?_,?_,fun t b ob e=>?_⟩
  ·rcases J with J|rfl
   ·exact .inl (cl j k J r)
   exact .inl (Z k r)
  ·rcases J with J|rfl
   ·exact lt j J
   exact b5
  ·by_cases e:j=i
   ·subst e;rw[X]at ab;cases ab;rw[hd,uM (by rw[K];exact bu (l.dst _ _ _ X hd) ad),if_pos rfl];exact h4
   have bn:S j:=J.resolve_right e;have:=(hv j oj d bn ab hd).ext z.toExt;cases hod:o.dst with
   |none=>exact this
   |some d'=>
    have O:¬d=d':=fun e2=>by
     subst e2;exact e (l.uniq _ _ _ _ _ ab X hd hod)
    rw[uM (by rw[K];exact bu (l.dst _ _ _ X hod) ad),if_neg O];exact this
  ·have O:o.dst≠some t:=ht i o (.inr rfl) X;have:=bh t (fun j oj J=>ht j oj (.inl J)) a4;cases hod:o.dst with
   |none=>exact this
   |some d'=>
    have T:¬t=d':=fun e2=>O (by rw[hod,e2]);rw[uM (by rw[K];exact bu (l.dst _ _ _ X hod) ad),if_neg T];exact this
  ·cases hod:o.dst with
   |none=>exact K
   |some d=>simp[Act.put,K]
  ·cases hod:o.dst with
   |none=>exact a8
   |some d=>exact a8
  obtain⟨y1,y2,y3,y4,y5⟩:=bb t b ob e;have O:=(bl t b ob e).2;have al:b<w.heap.size:=(bF.1 y3).1;refine⟨?_,y2,by rw[z.frame b al y5];exact y3,fun Z=>?_,fun id z1 z2=>?_⟩
  ·cases hod:o.dst with
   |none=>exact y1
   |some d'=>
    have T:¬t=d':=fun e2=>O (by rw[hod,e2]);rw[uM (by rw[K];exact bu (l.dst _ _ _ X hod) ad),if_neg T];exact y1
  ·rcases z.oldb b Z al with Z|⟨q,q1,q2⟩
   ·exact y4 Z
   exact y5 q q1 q2
  obtain⟨q,q1,q2⟩:=z.liv id b z1 z2 al;exact y5 q q1 q2
 have bg:p≤ins.length:=by
  rcases g.1 with rfl|⟨k,n,_,r,_,rfl⟩
  ·exact cI _
  exact l.bound k n r
 unfold wpOpIn;rw[X];simp only;rcases l.item i o X with⟨H,u⟩|⟨n,I,H,hI,bk,b9,a9,bf,D⟩
 ·
  unfold SB at u;simp only[ax,jg]at u;obtain⟨b0,u⟩:=u;have B:Region.wanted o (yielded ops a.tmps)=true:=by unfold Region.wanted;rw[b0]
  rw[if_pos B];have ao:Cut cA ins its chk (fun j=>S j∨j=i) p:=by
   refine⟨g.1.imp id fun ⟨k,n,E,z⟩=>⟨k,n,.inl E,z⟩,fun k n r bf=>?_⟩;rw[←g.2 k n r bf];refine⟨fun h=>h.resolve_right fun e=>?_,.inl⟩;rw[e,H]at r;cases r
  have a5:∀y,Vj o.op=some y→R M w c ((sS its i).eval env ls) (a.eval y)→o.wpIn F n0 P a w (yh M cA ops ins its bef chk env ls s c0 w0 a0 x fun j=>S j∨j=i) Q:=fun y A hr=>by
   refine⟨fun f _=>hF.fn f,?_⟩;have bx:(execOp a.eval o)=pure (.value (a.eval y)):=by
    unfold execOp;cases hopp:o.op<;>rw[hopp]at A<;>simp only[Vj]at A<;>first|(cases A;done)|(cases A;rfl)
   rw[Oper.semAt_eq _ _ _ (fun d e=>by rw[e]at A;cases A),bx];exact ae _ w c p hs (.refl c w) ao hr
  split at u
  ·rename_i t A;split at u
   ·rename_i x D;refine a5 _ A ?_;have:=a7 t x D;rw[wo u]at this;exact this
   cases u
  ·rename_i v A;split at u
   ·rename_i x D;refine a5 _ A ?_;rw[←wo u];exact ak0 D
   cases u
  cases u
 obtain⟨ar,a6⟩:=ak.1 hI;have U:n<ls.length:=by rw[hT.len];exact ar
 have bi:∀(j:Nat) (oj:Oper) (d:Tmp),(bef i).testBit j=true→ops[j]?=some oj→oj.dst=some d→R M w c ((sS its j).eval env ls) (a.tmps.getD d undef):=fun j oj d J=>hv j oj d (Z j J);have V:(sS its i).eval env ls=ls[n]:=by
  rw[bk];exact My U
 have N:li cA ins chk n=true→s p=s n:=fun B=>by
  refine C3 hT hp G l.guards l.onto bg (by omega) fun k m r A=>?_;rw[←g.2 k m r A];rcases gd k i with h|h|h
  ·exact⟨fun _=>l.mono _ _ _ _ r H h,fun _=>ah n H B k m h r A⟩
  ·subst h;rw[H]at r;cases r;exact⟨fun h=>absurd h hi,fun h=>absurd h (dG _)⟩
  have ce:=l.mono _ _ _ _ H r h;refine⟨fun W=>absurd ((g.2 i n H B).2 (by have:=(g.2 k m r A).1 W;omega)) hi,fun z=>?_⟩;omega
 have af:li cA ins chk n=true→Cut cA ins its chk (fun j=>S j∨j=i) (n+1):=fun B=>by
  refine⟨.inr ⟨i,n,.inr rfl,H,B,rfl⟩,fun k m r A=>?_⟩;rcases gd k i with h|h|h
  ·have:=l.mono _ _ _ _ r H h;exact⟨fun _=>by omega,fun _=>.inl (ah n H B k m h r A)⟩
  ·subst h;rw[H]at r;cases r;exact⟨fun _=>by omega,fun _=>.inr rfl⟩
  have:=l.mono _ _ _ _ H r h;refine⟨fun W=>?_,fun z=>by omega⟩;rcases W with W|rfl
  ·exact absurd ((g.2 i n H B).2 (by have:=(g.2 k m r A).1 W;omega)) hi
  exact absurd h (dG _)
 have ag:li cA ins chk n=false→Cut cA ins its chk (fun j=>S j∨j=i) p:=fun B=>by
  refine⟨g.1.imp id fun ⟨k,n,E,z⟩=>⟨k,n,.inl E,z⟩,fun k m r A=>?_⟩;rw[←g.2 k m r A];refine⟨fun h=>h.resolve_right fun e=>?_,.inl⟩;rw[e,H]at r;cases r;rw[B]at A;cases A
 rcases hT.step n ar U with⟨E,z⟩|⟨E,z,h3⟩
 ·
  rw[a6]at E z;have B:Region.wanted o (yielded ops a.tmps)=true:=Uu a9 E bi;rw[if_pos B];have run:∀p',bJ C env (ls.take n) (s p) I.op=some (ls[n],s p')→Cut cA ins its chk (fun j=>S j∨j=i) p'→o.wpIn F n0 P a w (yh M cA ops ins its bef chk env ls s c0 w0 a0 x fun j=>S j∨j=i) Q:=fun p' a3 bs=>
   akW hF hC hR hs (bo n) bz b9 a3 fun cv w' c' b1 Y b3=>ae cv w' c' p' b1 Y bs (by rw[V];exact b3)
  cases hw2:li cA ins chk n with
  |true=>
   refine run (n+1) ?_ (af hw2);rw[N hw2];exact z
  |false=>
   refine run p ?_ (ag hw2);have ca:s (n+1)=s n:=BB hT hp G l.guards (eM n) ar fun m a1 a2=>by
    have:m=n:=by omega
    rw[this];exact hw2
   rw[ca]at z;have same:(∀k m,fJ its k=some m→li cA ins chk m=true→(m<p↔m<n))→bJ C env (ls.take n) (s p) I.op=some (ls[n],s p):=fun h=>by
    rw[C3 hT hp G l.guards l.onto bg (by omega) h];exact z
   have L:(n,p)∈chk→bJ C env (ls.take n) (s p) I.op=some (ls[n],s p):=fun h=>by
    rw[G n p I h hI,My U]
   rcases D hw2 with h0|⟨hz,r⟩
   ·exact abx h0 z (s p)
   rcases g.1 with rfl|⟨k,m,W,b7,b8,rfl⟩
   ·rcases hz with⟨k,m,b1,Y,b3⟩|hz|hz
    ·have:=(g.2 k m b1 Y).1 (Z k b3);omega
    ·exact same fun k m b1 Y=>⟨fun h=>by omega,fun h=>absurd h (hz k m b1 Y)⟩
    exact L hz
   rcases r k m b7 b8 with h|⟨k',m',b1,Y,b3,b4⟩|⟨b1,Y⟩|h
   ·exact absurd (cl k i W h) hi
   ·have:=(g.2 k' m' b1 Y).1 (Z k' b4);omega
   ·exact same fun k' m' e1 e2=>⟨fun h=>by omega,fun h=>by
     by_cases e:m<m'
     ·exact absurd h (Y k' m' e1 e2 e)
     omega⟩
   exact L h
 rw[a6]at E;have B:Region.wanted o (yielded ops a.tmps)=false:=Uu a9 E bi;rw[if_neg (by rw[B];simp)];refine⟨fun f _=>hF.fn f,?_⟩;have aj:R M w c ((sS its i).eval env ls) undef:=by rw[V,z];exact R.undef
 cases hw2:li cA ins chk n with
 |true=>exact ae _ w c (n+1) (by rw[h3,←N hw2];exact hs) (.refl c w) (af hw2) aj
 |false=>exact ae _ w c p hs (.refl c w) (ag hw2) aj
end Go.AM
