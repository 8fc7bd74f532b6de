/- Part of the proof. -/
import Derived.Test.YtmpmbfpkpannjaaGreatDoorCm02
import Derived.Laws.Append
import Derived.Laws.MakeOwn
import Derived.Laws.StructEq
import Derived.ChangeKeysEq
set_option linter.unusedVariables false
set_option linter.unusedSimpArgs false
set_option linter.unusedSectionVars false
namespace Go.AM
variable {M:dm} {w:World} {P:Program}
def dk.older(c:dk)(σ:aw)(id:Nat)(p:Option Nat)(room:Nat):dk:=
 { c with H:=hd σ,place:=fun i=>if i=id then p else c.place i,room:=fun i=>if i=id then room else c.room i }
theorem kD{σ:aw}{o:Obj}{id i:Nat}(h:i≠id):hd (σ.set id o) i=hd σ i:=by
 unfold hd;rw[aD (fun e=>h e.symm)]
theorem fd.older{c:dk}{σ:aw}(f:fd M w c σ){id k ep:Nat}{es es':List aq}(H:σ[id]?=some (.arr k ep es)){p:Option Nat}{room:Nat}{w':World}
  (G:∀b,b<w.heap.size→c.place id≠some b→w'.heap[b]?=w.heap[b]?) (B:w.heap.size≤w'.heap.size) (u:Same w w')
  (A:∀b,p=some b→c.place id=some b∨(w.heap.size≤b∧b<w'.heap.size))
  (y:Ext c w (c.older (σ.set id (.arr k (ep+1) es')) id p room) w'→wF M w' (c.older (σ.set id (.arr k (ep+1) es')) id p room) id (.arr k (ep+1) es')) :
  fd M w' (c.older (σ.set id (.arr k (ep+1) es')) id p room) (σ.set id (.arr k (ep+1) es'))∧iW c w (c.older (σ.set id (.arr k (ep+1) es')) id p room) w':=by
 have F:id<σ.length:=(ak.1 H).1;have l:(σ.set id (.arr k (ep+1) es'))[id]?=some (.arr k (ep+1) es'):=aW F;have E:c.H id=.arr k ep:=by rw[f.H,fe H]
 have a:c.H id≠.dead:=by rw[E];simp
 have s:Ext c w (c.older (σ.set id (.arr k (ep+1) es')) id p room) w':=by
  refine⟨fun _ h=>h,fun _ h=>h,fun b r=>G b ?_ fun e=>?_,aF _,fun i hi=>?_,fun i hi I _=>?_⟩
  ·exact f.low b (r.elim (fun h=>h) (f.sb b))
  ·exact (f.plow id b a e).2 (r.elim (fun h=>h) (f.sb b))
  ·by_cases d:i=id
   ·subst d;refine .inr (.inr ⟨k,ep,ep+1,E,?_,oW _⟩);show hd _ i=_;rw[fe l]
   left;show c.H i=hd _ i;rw[kD d,f.H]
  have d:i≠id:=fun e=>by
   subst e;have:(c.older (σ.set i (.arr k (ep+1) es')) i p room).H i=.arr k (ep+1):=by
    show hd _ i=_;rw[fe l]
   rw[this,E]at I;cases I
  simp[dk.older,d]
 have z:iW c w (c.older (σ.set id (.arr k (ep+1) es')) id p room) w':=
  { s with
   same:=u
   size:=B
   frame:=fun b r J=>G b r (J id a)
   old:=fun _ h _=>.inl h
   oldb:=fun _ h _=>.inl h
   liv:=fun i b t m r=>by
    simp only[dk.older]at t m;split at m
    ·rcases A b m with h|h
     ·exact⟨id,a,h⟩
     omega
    rename_i d;exact⟨i,by rw[f.H];rwa [kD d]at t,m⟩ }
 refine⟨⟨rfl,by rw[show (c.older _ id p room).N=c.N from rfl,f.N];simp,f.sb,fun b r=>bu (f.low b r) B,fun i b t m=>?_,fun i j b hi v n g=>?_,fun i o q=>?_⟩,z⟩
 ·simp only[dk.older]at t m ⊢;split at m
  ·rcases A b m with h|h
   ·obtain⟨C,D⟩:=f.plow id b a h;exact⟨bu C B,D⟩
   exact⟨h.2,fun r=>absurd (f.low b r) (by omega)⟩
  rename_i d;rw[kD d,←f.H]at t;obtain⟨C,D⟩:=f.plow i b t m;exact⟨bu C B,D⟩
 ·simp only[dk.older]at hi v n g;split at n
  ·split at g
   ·omega
   rename_i t m;rw[kD m,←f.H]at v;rcases A b n with h|h
   ·exact absurd (f.inj id j b a v h g) (fun e=>m e.symm)
   have:=(f.plow j b v g).1;omega
  rename_i t;rw[kD t,←f.H]at hi;split at g
  ·rcases A b g with h|h
   ·exact absurd (f.inj id i b a hi h n) (fun e=>t e.symm)
   have:=(f.plow i b hi n).1;omega
  rename_i m;rw[kD m,←f.H]at v;exact f.inj i j b hi v n g
 by_cases d:i=id
 ·subst d;rw[l]at q;cases q;exact y s
 rw[aD (fun e=>d e.symm)]at q;refine (f.obj i o q).ext s (fun _=>by simp[dk.older,d]) fun x b r=>G b ?_ fun e=>?_
 ·exact (f.plow i b (by rw[f.H];exact fun h=>x ((rH q).1 h)) r).1
 exact d (f.inj i id b (by rw[f.H];exact fun h=>x ((rH q).1 h)) a r e)
theorem WideB.bytes_inj'{a b:ByteArray}(h:a.data=b.data):a=b:=by cases a;cases b;cases h;rfl
def pz(M:dm)(w:World)(c:dk)(k:Nat)(ys:List aq)(A:Array Value):Prop:=
 A.size=ys.length*k∧∃f:Nat→Nat→Value,(∀i j,i<ys.length→j<k→A[i*k+j]?=some (f i j)∧(f i j).oneCell'=true) ∧
  ∀i (hi:i<ys.length) j (hj:j<(cellsOf ys[i]).length),R M w c (cellsOf ys[i])[j] (f i j)
theorem pz.ext{c c':dk}{w':World}{k:Nat}{a:List aq}{A:Array Value}(h:pz M w c k a A)(g:Ext c w c' w'):pz M w' c' k a A:=
 let ⟨b,f,d,e⟩:=h
 ⟨b,f,d,fun i hi j l=>(e i hi j l).ext g⟩
theorem pz.nil{c:dk}{k:Nat}:pz M w c k [] #[]:=⟨by simp,fun _ _=>undef,fun i j hi=>absurd hi (by simp),fun i hi=>absurd hi (by simp)⟩
theorem rF{i j k n:Nat}(hi:i<n)(a:j<k):i*k+j<n*k:=by
 have:(i+1)*k≤n*k:=cu k hi;rw[dN]at this;omega
theorem Gb{c:dk}{k n:Nat}(h:k≠0){b o:Nat}{g:List aq}(m:g.length=n)(f:Nat→Nat→Value)
  (r:∀i j,i<n→j<k→w.cell? ⟨b,o+i*k+j,none⟩=some (f i j)∧(f i j).oneCell'=true)
  (y:∀i (hi:i<g.length) j (d:j<(cellsOf g[i]).length),R M w c (cellsOf g[i])[j] (f i j)) :
  ∃A,pz M w c k g A∧∀w',w'.heap=w.heap→(loadCells ⟨b,o,none⟩ (n*k)).run P w'=.ok A w':=by
 have a:∀w':World,w'.heap=w.heap→∀p,p<n*k→w'.cell? ((⟨b,o,none⟩:Addr).add p)=some (f (p/k) (p%k)):=fun w' q p x=>by
  rw[kJ];have u:p/k<n:=(kY (gn h)).2 x;have v:p%k<k:=Nat.mod_lt _ (gn h);have:=(r (p/k) (p%k) u v).1;have e:o+p/k*k+p%k=o+p:=by have:=pv p k;rw[ij]at this;omega
  rw[e]at this;simp only[World.cell?,q]at this ⊢;exact this
 refine⟨_,⟨?_,f,fun i j hi d=>⟨?_,(r i j (m▸hi) d).2⟩,y⟩,fun w' q=>run_loadCells w' _ (n*k) (fun p=>f (p/k) (p%k)) (a w' q)⟩
 ·simp[m]
 have l:=rF (n:=n) (m▸hi) d;have s:(i*k+j)/k=i:=by rw[ij,Nat.mul_add_div (gn h),Nat.div_eq_of_lt d];omega
 have t:(i*k+j)%k=j:=by rw[ij,ml,ll d]
 simp[l,s,t]
theorem ac5{c:dk}{σ:aw}(G:fd M w c σ){y:aq}{cy:Value}(hy:R M w c y cy){B:List aq}(h:rd σ y=some B){k:Nat}(Q:k≠0)(d:∀x∈B,aM x=k) :
  (∀w',(Builtin.lenOf cy).run P w'=.ok B.length w')∧∃A,pz M w c k B A∧∀w',w'.heap=w.heap→(Builtin.firstCells k B.length cy).run P w'=.ok A w':=by
 cases hy with
 |any=>simp[rd]at h
 |int=>simp[rd]at h
 |bool=>simp[rd]at h
 |@emp _ _ cap a _=>
  simp only[rd,aK]at h;subst h;refine⟨fun w'=>rfl,#[],pz.nil,fun w' _=>?_⟩;cases a<;>simp[Builtin.firstCells,loadCells,loadCellsFrom]
 |nilp=>simp[rd]at h
 |nilf=>simp[rd]at h
 |nilm=>simp[rd]at h
 |agg=>simp[rd]at h
 |tup=>simp[rd]at h
 |ptr=>simp[rd]at h
 |ptrOld=>simp[rd]at h
 |cptr=>simp[rd]at h
 |asl=>simp[rd]at h
 |aslOld=>simp[rd]at h
 |fn=>simp[rd]at h
 |imap=>simp[rd]at h
 |mp=>simp[rd]at h
 |mpOld=>simp[rd]at h
 |yld=>simp[rd]at h
 |yldOld=>simp[rd]at h
 |it=>simp[rd]at h
 |itOld=>simp[rd]at h
 |@str _ s t ht=>
  simp only[rd,aK]at h;subst h ht;have V:t.data.toList.length=t.size:=by simp
  simp only[df,V];refine⟨fun w'=>rfl,(t.data.map fun b=>Value.int .u8 b.toNat),?_,fun w' _=>?_⟩
  rotate_left 1
  ·have n:t.extract 0 t.size=t:=by
    apply WideB.bytes_inj';simp
   simp only[Builtin.firstCells,n];rfl
  by_cases l:t.data.toList=[]
  ·have e:t.data=#[]:=by rw[←Array.toList_eq_nil_iff];exact l
   rw[l,e];simpa using pz.nil
  have S:k=1:=by
   obtain⟨x,n⟩:=gy _ l;exact (d _ (ma n)).symm
  subst S;refine⟨by simp,fun i _=>Value.int .u8 (t.data.getD i 0).toNat,fun i j hi p=>?_,fun i hi j p=>?_⟩
  ·have:j=0:=by omega
   subst this;have N:i<t.data.size:=by simpa using hi
   have e:t.data[i]?=some t.data[i]:=by simp
   simp[e,Value.oneCell']
  have N:i<t.data.size:=by simpa using hi
  simp only[dn,cellsOf,bw,bE]at p ⊢;have:j=0:=by omega
  subst this;have e:t.data[i]?=some t.data[i]:=by simp
  simp[e];exact .int
 |@aa _ b xs cap a K f C m D H E I J=>
  simp only[rd,aK]at h;subst h;refine⟨fun w'=>rfl,?_⟩;by_cases l:xs=[]
  ·subst l;exact⟨#[],pz.nil,fun w' r=>by simp[Builtin.firstCells,loadCells,loadCellsFrom]⟩
  have u:K=k:=by
   obtain⟨x,n⟩:=gy _ l;rw[←E x n,d x n]
  subst u;obtain⟨blk,o,sp⟩:=a;simp only at m;subst m;exact Gb Q rfl f I (fun i hi j p=>(J i hi j p).ext (Ext.ofStill G.sb _))
 |@imm0 _ b cap a=>
  simp only[rd,aK]at h;subst h;exact⟨fun w'=>rfl,#[],pz.nil,fun w' r=>by cases a<;>simp[Builtin.firstCells,loadCells,loadCellsFrom]⟩
 |@lst _ xs cap a K f C m D H E I J=>
  simp only[rd,aK]at h;subst h;refine⟨fun w'=>rfl,?_⟩;by_cases l:xs=[]
  ·subst l;exact⟨#[],pz.nil,fun w' r=>by simp[Builtin.firstCells,loadCells,loadCellsFrom]⟩
  have u:K=k:=by
   obtain⟨x,n⟩:=gy _ l;rw[←E x n,d x n]
  subst u;obtain⟨blk,o,sp⟩:=a;simp only at m;subst m;exact Gb Q rfl f I J
 |@lst0 _ cap a=>
  simp only[rd,aK]at h;subst h;exact⟨fun w'=>rfl,#[],pz.nil,fun w' r=>by cases a<;>simp[Builtin.firstCells,loadCells,loadCellsFrom]⟩
 |@ai _ a=>
  simp only[rd,aK]at h;subst h;exact⟨fun w'=>rfl,#[],pz.nil,fun w' r=>by cases a<;>simp[Builtin.firstCells,loadCells,loadCellsFrom]⟩
 |@sl _ id ep off len cap q blk C m D H E=>
  obtain⟨k2,es,z,W,rfl⟩:=pF h;have L:c.H id=.arr k2 ep:=by rw[G.H,fe z]
  have U:q=k2:=by rw[L]at m;cases m;rfl
  subst U;obtain⟨o1,o2,o3,o4⟩:=G.obj id _ z;obtain⟨cs,T,F,q1,q2,q3,q4,q5⟩:=o4 blk D;have g:((es.drop off).take len).length=len:=by simp;omega
  rw[g];refine⟨fun w'=>rfl,?_⟩;by_cases l:len=0
  ·subst l;exact⟨#[],by simp;exact pz.nil,fun w' r=>by simp[Builtin.firstCells,loadCells,loadCellsFrom]⟩
  have u:q=k:=by
   have X:((es.drop off).take len)[0]'(by omega)∈(es.drop off).take len:=aJ _;rw[←d _ X];exact (o2 _ (dR (cL X))).symm
  subst u;refine Gb (o:=off*q) Q g (fun i j=>F (off+i) j) (fun i j hi p=>?_) (fun i hi j p=>?_)
  ·obtain⟨Y,Z⟩:=q4 (off+i) j (by omega) p;refine⟨?_,Z⟩;simp only[World.cell?,q1];rw[show off*q+i*q+j=(off+i)*q+j by rw[dN]];exact Y
  rw[g]at hi;have e:((es.drop off).take len)[i]'(by rw[g];exact hi)=es[off+i]'(by omega):=by simp
  have O:j<(cellsOf (es[off+i]'(by omega))).length:=by rw[←e];exact p
  have:=q5 (off+i) (by omega) j O;simp only[dO,eH];exact this
 |@sl0 _ id ep off q a C m=>
  obtain⟨k2,es,z,W,rfl⟩:=pF h;simp only[List.take_zero,bE];exact⟨fun w'=>rfl,#[],pz.nil,fun w' r=>by cases a<;>simp[Builtin.firstCells,loadCells,loadCellsFrom]⟩
 |@slOld _ id ep off len v l C m D H=>
  obtain⟨k2,es,z,W,rfl⟩:=pF h;have L:c.H id=.arr k2 ep:=by rw[G.H,fe z]
  exact absurd (m _ _ L) (dG _)
theorem KO(n:Nat):∀(r c:Nat),c≤2*n+192→Builtin.growBy n r c≤2*n+192
 |0,c,h=>h
 |r+1,c,h=>by
  simp only[Builtin.growBy];split
  ·exact h
  exact KO n r _ (by omega)
theorem yc{n c:Nat}(h:c<n):Builtin.nextslicecap n c≤2*n+192:=by
 unfold Builtin.nextslicecap;split
 ·omega
 split
 ·omega
 exact KO n 4 c (by omega)
structure YT (P:Program) (T U:TypeId) (k:Nat):Prop where
 ex:∃(e:TypeId) (i:TypeInfo) (z:Value) (d:TypeDesc),P.underlying T=some (.slice e)∧P.info? e=some i∧i.size=k∧i.zero=some z∧z.cells.size=k∧i.bytes≤1024∧i.bytes≠0 ∧
  P.underlying U=some d∧(∀q,d≠.int q)
 k0:k≠0
theorem Wl{c:dk}{σ:aw}(o:fd M w c σ){x:aq}{i:Value}(p:R M w c x i)(h:CX σ x=true):∃a n cap,i=.slice a n cap∧n≤cap:=by
 cases p with
 |aa K f g d b=>exact⟨_,_,_,rfl,b⟩
 |imm0=>exact⟨_,_,_,rfl,cI _⟩
 |lst K f g d b=>exact⟨_,_,_,rfl,b⟩
 |lst0=>exact⟨_,_,_,rfl,cI _⟩
 |ai=>exact⟨_,_,_,rfl,cI _⟩
 |sl g d b j=>exact⟨_,_,_,rfl,j⟩
 |sl0=>exact⟨_,_,_,rfl,cI _⟩
 |slOld q g d b j=>
  simp only[CX,fresh]at h;split at h
  ·rename_i k e es m;have l:=fe m;rw[←o.H]at l;have:=d _ _ l;simp at h;omega
  cases h
 |_=>simp[CX]at h
theorem MU{T U ty:TypeId}{k:Nat}(s:YT P T U k){a:Option Addr}{n cap m:Nat}{cy:Value}{A:Array Value}{w':World}(p:(Builtin.lenOf cy).run P w=.ok m w)(o:(Builtin.firstCells k m cy).run P w=.ok A w)(c:n+m≤cap)
  (f:∀b,a=some b→(storeCells (b.add (n*k)) A.toList).run P w=.ok () w') (r:a=none→w'=w) :
  (Builtin.append_ #[T,U] ty #[.slice a n cap,cy]).run P w=.ok (.slice a (n+m) cap) w':=by
 obtain⟨⟨e,i,z,d,g,h,j,u,t,v,x,l,q⟩,y⟩:=s;have hd:(match d with|.int _=>true|_=>false)=false:=by cases d<;>first|rfl|exact absurd rfl (q _)
 cases a with
 |none=>
  obtain rfl:=r rfl;simp[Builtin.append_,run_underlying g,run_underlying l,sizeOf,typeInfo,h,j,hd,p,o,c]
 |some b=>
  have:=f b rfl;simp[Builtin.append_,run_underlying g,run_underlying l,sizeOf,typeInfo,h,j,hd,p,o,c,this]
theorem Ls{T U ty:TypeId}{k:Nat}(I:YT P T U k){a:Option Addr}{n cap m:Nat}{cy:Value}{A B:Array Value}(F:(Builtin.lenOf cy).run P w=.ok m w)
  (E:∀w',w'.heap=w.heap→(Builtin.firstCells k m cy).run P w'=.ok A w') (H:∀w',w'.heap=w.heap→(Builtin.firstCells k n (.slice a n cap)).run P w'=.ok B w') (c:cap<n+m) (p:n+m≤bD) :
  ∃(b:Nat) (q:TypeId) (C:Array Value) (o:World),o.heap=w.heap∧Same w o∧n+m≤b∧C.size=(b - (n+m))*k ∧
   (Builtin.append_ #[T,U] ty #[.slice a n cap,cy]).run P w=.ok (.slice (some ⟨w.heap.size,0,none⟩) (n+m) b) (lg o (.cells (B++A++C) q (0,0))):=by
 obtain⟨⟨e,i,z,d,s,t,u,v,l,x,K,y,D⟩,L⟩:=I;have hd:(match d with|.int _=>true|_=>false)=false:=by cases d<;>first|rfl|exact absurd rfl (D _)
 have M:bD=68719476736:=rfl;have G:¬(n+m≤cap):=by omega
 have g:¬(9223372036854775807<((n:Int)+(m:Int))):=by omega
 have f:¬(281474976710656<Builtin.nextslicecap (n+m) cap*i.bytes):=by
  have r:=yc c;have J:Builtin.nextslicecap (n+m) cap*i.bytes≤(2*(n+m)+192)*1024:=Nat.mul_le_mul r x;omega
 have h:=E w.drew rfl;have j:=H w.drew rfl;refine⟨(Question.appendCap (n+m) cap e).cut (w.tape w.drawn (.appendCap (n+m) cap e)),e,Builtin.zeroCells z.cells ((Question.appendCap (n+m) cap e).cut (w.tape w.drawn (.appendCap (n+m) cap e))-(n+m)),w.drew,rfl,⟨rfl,rfl,rfl,aF _⟩,?_,?_,?_⟩
 rotate_left 2
 ·simp[Builtin.append_,run_underlying s,run_underlying y,sizeOf,typeInfo,zeroValue,t,u,v,F,G,g,f,Question.forced,h,j,newRow];rfl
 ·simp[Question.cut]
 simp[Builtin.zeroCells,l]
theorem pz.append{c:dk}{k:Nat}{xs b:List aq}{A B:Array Value}(q:pz M w c k xs A)(r:pz M w c k b B):pz M w c k (xs++b) (A++B):=by
 obtain⟨d,f,l,m⟩:=q;obtain⟨n,g,o,p⟩:=r;refine⟨by simp[d,n,dN],fun i j=>if i<xs.length then f i j else g (i-xs.length) j,fun i j hi a=>?_,fun i hi j a=>?_⟩
 ·dsimp only;by_cases h:i<xs.length
  ·rw[if_pos h,eh (by rw[d];exact rF h a)];exact l i j h a
  rw[if_neg h,lE (by rw[d];have:xs.length*k≤i*k:=cu k (by omega);omega)];have:=o (i-xs.length) j (by simp at hi;omega) a;rw[d,show i*k+j-xs.length*k=(i-xs.length)*k+j by
   have:i*k=(i-xs.length)*k+xs.length*k:=by rw[←Nat.add_mul];congr 1;omega
   omega]
  exact this
 dsimp only;by_cases h:i<xs.length
 ·rw[if_pos h];have e:(xs++b)[i]=xs[i]:=cg h;simp only[e]at a ⊢;exact m i h j a
 rw[if_neg h];have e:(xs++b)[i]=b[i-xs.length]'(by simp at hi;omega):=cP (by omega);simp only[e]at a ⊢;exact p _ _ j a
theorem iW.ofHeap{c:dk}{w':World}(e:w'.heap=w.heap)(f:Same w w'):iW c w c w':=
 { Ext.heap e with same:=f,size:=by rw[e];exact aF _,frame:=fun b _ _=>by rw[e],liv:=fun id b a d _=>⟨id,a,d⟩,old:=fun _ h _=>.inl h,oldb:=fun _ h _=>.inl h }
theorem ajc{c:dk}{σ:aw}(r:fd M w c σ){id k ep:Nat}{es es':List aq}(q:σ[id]?=some (.arr k ep es)){A C:Array Value}{T:TypeId}(D:k≠0)(d:∀x∈es',aM x=k)(E:pz M w c k es' A){n cap:Nat}(o:es'.length=n)(B:n≤cap)(y:C.size=(cap-n)*k) :
  ∃c',fd M (lg w (.cells (A++C) T (0,0))) c' (σ.set id (.arr k (ep+1) es'))∧iW c w c' (lg w (.cells (A++C) T (0,0))) ∧
   R M (lg w (.cells (A++C) T (0,0))) c' (.sl id (ep+1) 0 n) (.slice (some ⟨w.heap.size,0,none⟩) n cap):=by
 obtain⟨l,f,s,t⟩:=E;have g:id<σ.length:=(ak.1 q).1
 obtain⟨u,v⟩:=r.older q (es':=es') (p:=some w.heap.size) (room:=(A++C).size) (w':=lg w (.cells (A++C) T (0,0))) (fun b a _=>gI a) (by rw[fL];omega) pI
  (fun b a=>by cases a;exact .inr ⟨aF _,by rw[fL];omega⟩) (fun e=>by
   refine⟨D,d,fun o=>by simp[dk.older]at o,fun b a=>?_⟩;have m:b=w.heap.size:=by simp[dk.older]at a;exact a.symm
   subst m;refine⟨A++C,T,f,sf,by simp[l],by simp[dk.older],fun i j hi h=>?_,fun i hi j h=>(t i hi j h).ext e⟩;rw[eh (by rw[l];exact rF hi h)];exact s i j hi h)
 refine⟨_,u,v,?_⟩;have z:(c.older (σ.set id (.arr k (ep+1) es')) id (some w.heap.size) (A++C).size).H id=.arr k (ep+1):=by
  show hd _ id=_;rw[fe (aW g)]
 have:=R.sl (M:=M) (w:=lg w (.cells (A++C) T (0,0))) (c:=c.older (σ.set id (.arr k (ep+1) es')) id (some w.heap.size) (A++C).size) (id:=id) (ep:=ep+1) (off:=0) (len:=n) (cap:=cap) (k:=k) (blk:=w.heap.size)
  (by rw[show (c.older _ id _ _).N=c.N from rfl,r.N];exact g) z (by simp[dk.older]) B (by
   simp[dk.older,l,y,o];rw[←Nat.add_mul];apply cu;omega)
 simpa using this
structure aaO (P:Program) (w:World) (T U ty:TypeId) (k:Nat) (cy:Value) (m:Nat) (A:Array Value):Prop where
 room:∀{a:Option Addr} {n cap:Nat} {w':World},n+m≤cap→(∀b,a=some b→(storeCells (b.add (n*k)) A.toList).run P w=.ok () w')→(a=none→w'=w) →
  (Builtin.append_ #[T,U] ty #[.slice a n cap,cy]).run P w=.ok (.slice a (n+m) cap) w'
 grow:∀{a:Option Addr} {n cap:Nat} {B:Array Value},(∀w',w'.heap=w.heap→(Builtin.firstCells k n (.slice a n cap)).run P w'=.ok B w')→cap<n+m→n+m≤bD →
  ∃(cap':Nat) (T':TypeId) (C:Array Value) (w1:World),w1.heap=w.heap∧Same w w1∧n+m≤cap'∧C.size=(cap' - (n+m))*k ∧
   (Builtin.append_ #[T,U] ty #[.slice a n cap,cy]).run P w=.ok (.slice (some ⟨w.heap.size,0,none⟩) (n+m) cap') (lg w1 (.cells (B++A++C) T' (0,0)))
theorem Fy{c:dk}{σ a3:aw}(G:fd M w c σ){x v:aq}{cx cy:Value}(W:R M w c x cx){d:List aq}{k:Nat}(V:k≠0)(h:append k x d σ=some (v,a3))
  {T U ty:TypeId} (K:(∀y∈d,aM y=k)→∃A,pz M w c k d A∧aaO P w T U ty k cy d.length A):qF M P c w (do pure (.value (←Builtin.append_ #[T,U] ty #[cx,cy]))) v a3:=by
 unfold append at h;split at h
 ·
  rename_i a0;split at h
  ·rename_i bb;cases h;obtain⟨a,n,cap,rfl,ah⟩:=Wl G W bb;have be:d=[]:=dc a0;subst be;obtain⟨A,r4,t⟩:=K (by simp);have hA:A=#[]:=by
    have:=r4.1;simp at this;exact this
   subst hA;have:=t.room (a:=a) (n:=n) (cap:=cap) (w':=w) (by simpa using ah) (fun b _=>rfl) (fun _=>rfl);exact qF.quiet G (by simpa using this) W
  cases h
 rename_i a0;split at h
 ·rename_i ab;have o:∀y∈d,aM y=k:=by simpa [bd] using ab
  obtain⟨A,r4,t⟩:=K o;cases x<;>simp only at h<;>first|(cases h;done)|skip
  case ai=>
   split at h
   ·rename_i I;cases h;cases W with
    |@ai _ a=>
     obtain⟨H,L,C,w1,z,e2,e3,e4,e5⟩:=t.grow (a:=a) (n:=0) (cap:=0) (B:=#[]) (fun w' _=>by cases a<;>simp[Builtin.firstCells,loadCells,loadCellsFrom]) (by omega) (by omega);have Q:=G.heap z;obtain⟨S,f,f1,f2⟩:=r4
     obtain⟨c',Z,D,E,h4,ar,av⟩:=Q.newArr (ep:=0) (T:=L) (es:=d) (cs:=#[]++A++C) f V o (by simp;omega)
      (fun i j hi m=>by
       have:=f1 i j hi m;rw[eh (by simp[S];exact rF hi m)];simpa using this)
      (fun i hi j m=>(f2 i hi j m).ext (.heap z))
     have hz:w1.heap.size=w.heap.size:=by rw[z]
     refine qF.of e5 ar (iW.trans (iW.ofHeap z e2) av) ?_;have:=R.sl (M:=M) (w:=lg w1 (.cells (#[]++A++C) L (0,0))) (c:=c') (id:=σ.length) (ep:=0) (off:=0) (len:=0+d.length) (cap:=H) (by omega) D E e3 (by rw[h4];simp[S,e4];rw[←Nat.add_mul];apply cu;omega);simpa [hz] using this
   cases h
  case sl id ep off n=>
   split at h
   ·rename_i X e es ho;split at h
    ·rename_i O;obtain⟨rfl,rfl,ah,rfl,I⟩:=O;cases h;have aj:id<σ.length:=(ak.1 ho).1;have hH:c.H id=.arr X e:=by rw[G.H,fe ho]
     obtain⟨o1,o2,o3,o4⟩:=G.obj id _ ho;have s:∀x∈es.take n++d,aM x=X:=fun x W=>by
      rcases ba.1 W with h|h
      ·exact o2 x (cL h)
      exact o x h
     have l:(es.take n++d).length=n+d.length:=by simp;omega
     have grow:∀(a:Option Addr) (cap:Nat),cap<n+d.length→(∃B,pz M w c X (es.take n) B∧∀w',w'.heap=w.heap→(Builtin.firstCells X n (.slice a n cap)).run P w'=.ok B w') →
       qF M P c w (do pure (.value (←Builtin.append_ #[T,U] ty #[.slice a n cap,cy]))) (.sl id (e+1) 0 (n+d.length)) (σ.set id (.arr X (e+1) (es.take n++d))):=fun a cap g ⟨B,hB,a4⟩=>by
      obtain⟨H,L,C,w1,z,e2,e3,e4,e5⟩:=t.grow (a:=a) (n:=n) (cap:=cap) a4 g I;have Q:=G.heap z;obtain⟨c',Z,D,E⟩:=ajc (T:=L) Q ho (es':=es.take n++d) (A:=B++A) (C:=C) V s ((hB.append r4).ext (.heap z)) l e3 e4;refine qF.of e5 Z (iW.trans (iW.ofHeap z e2) D) ?_;rw[z]at E;exact E
     cases W with
     |@sl _ _ _ _ _ cap k2 blk Z D E h4 h5=>
      have a7:k2=X:=by rw[hH]at D;cases D;rfl
      subst a7;obtain⟨cs,L,F,q1,q2,q3,q4,q5⟩:=o4 blk E;have al:∃B,pz M w c k2 (es.take n) B∧∀w',w'.heap=w.heap→(loadCells ⟨blk,0*k2,none⟩ (n*k2)).run P w'=.ok B w':=
       Gb V (by simp;omega) F (fun i j hi m=>by
        obtain⟨Y,a2⟩:=q4 i j (by omega) m;refine⟨?_,a2⟩;simp only[World.cell?,q1];rw[show 0*k2+i*k2+j=i*k2+j by omega];exact Y) (fun i hi j m=>by
        have bf:i<n:=by simp at hi;omega
        have e:(es.take n)[i]=es[i]'(by omega):=by simp
        have u:j<(cellsOf (es[i]'(by omega))).length:=by rw[←e];exact m
        have:=q5 i (by omega) j u;simp only[dO];exact this)
      by_cases g:n+d.length≤cap
      ·obtain⟨S,f,f1,f2⟩:=r4;have ae:cap*k2≤cs.size:=by rw[←q3];simpa using h5
       have ag:n*k2+d.length*k2≤cs.size:=by
        rw[←Nat.add_mul];exact bH (cu k2 g) ae
       have an:∀v∈A.toList,v.oneCell'=true:=fun v hv=>by
        obtain⟨p,hp,rfl⟩:=cM.1 hv;have a9:p<d.length*k2:=by simpa [S] using hp
        have m:=Nat.mod_lt p (gn V);have hi:p/k2<d.length:=(kY (gn V)).2 a9;obtain⟨Y,a2⟩:=f1 (p/k2) (p%k2) hi m;have e:p/k2*k2+p%k2=p:=by rw[ij];exact pv p k2
        rw[e]at Y;have:A.toList[p]=f (p/k2) (p%k2):=by
         rw[cQ (by simpa using hp)]at Y;simpa using dW Y
        rw[this];exact a2
       obtain⟨w',cs',g1,g2,g3,g4⟩:=nT (P:=P) blk (n*k2) L A.toList 0 cs w q1 (by simp[S];omega) an;have ad:=(G.plow id blk (by rw[hH];simp) E).1;have af:∀i j,i<(es.take n++d).length→j<k2→cs'[i*k2+j]?=some (if i<n then F i j else f (i-n) j)∧(if i<n then F i j else f (i-n) j).oneCell'=true:=fun i j hi m=>by
        rw[l]at hi;rw[g4];simp only[ew,cR,S];by_cases r:i<n
        ·have:=rF r m;rw[if_pos r,if_neg (by omega)];exact q4 i j (by omega) m
        have q:i-n<d.length:=by omega
        have:=rF q m;have e:i*k2=(i-n)*k2+n*k2:=by rw[←Nat.add_mul];congr 1;omega
        rw[if_neg r,if_pos (by omega)];have:=f1 (i-n) j q m;simp only[ff];rw[show i*k2+j-n*k2=(i-n)*k2+j by omega];exact this
       obtain⟨h6,h7⟩:=G.older ho (es':=es.take n++d) (p:=some blk) (room:=c.room id) (w':=w') (fun b N a8=>by rw[g2.get _ ad,if_neg (fun e=>a8 (by rw[e];exact E))]) (by rw[g2.size];exact aF _) g2.toSame
        (fun b N=>by cases N;exact .inl E) (fun J=>by
         refine⟨V,s,fun hn=>by simp[dk.older]at hn,fun b N=>?_⟩;have a6:b=blk:=by simp[dk.older]at N;exact N.symm
         subst a6;refine⟨cs',L,fun i j=>if i<n then F i j else f (i-n) j,by rw[g2.get _ ad,if_pos rfl],by rw[l,g3,dN];exact ag,by simp[dk.older,g3,q3],af,fun i hi j m=>?_⟩;dsimp only;by_cases r:i<n
         ·rw[if_pos r];have e:(es.take n++d)[i]=es[i]'(by omega):=by rw[cg (by simp;omega)];simp
          have u:j<(cellsOf (es[i]'(by omega))).length:=by rw[←e];exact m
          have:=(q5 i (by omega) j u).ext J;simp only[e];exact this
         rw[if_neg r];have q:i-n<d.length:=by rw[l]at hi;omega
         have e:(es.take n++d)[i]=d[i-n]'q:=by
          rw[cP (by simp;omega)];congr 1;simp;omega
         have u:j<(cellsOf (d[i-n]'q)).length:=by rw[←e];exact m
         have:=(f2 (i-n) q j u).ext J;simp only[e];exact this)
       have ao:=t.room (a:=some ⟨blk,0*k2,none⟩) (n:=n) (cap:=cap) (w':=w') g (fun b N=>by cases N;rw[kJ,mH,cE];exact g1) (fun h=>by cases h);refine qF.of ao h6 h7 ?_;have a5:(c.older (σ.set id (.arr k2 (e+1) (es.take n++d))) id (some blk) (c.room id)).H id=.arr k2 (e+1):=by
        show hd _ id=_;rw[fe (aW aj)]
       exact R.sl (by rw[show (c.older _ id _ _).N=c.N from rfl,G.N];exact aj) a5 (by simp[dk.older]) g (by simpa [dk.older] using h5)
      exact grow _ _ (by omega) (by obtain⟨B,b1,b2⟩:=al;exact⟨B,b1,fun w' bc=>b2 w' bc⟩)
     |@sl0 _ _ _ _ k2 a Z D=>
      exact grow a 0 (by omega) ⟨#[],by simp;exact pz.nil,fun w' _=>by cases a<;>simp[Builtin.firstCells,loadCells,loadCellsFrom]⟩
     |slOld h0 Z D=>exact absurd (D _ _ hH) (dG _)
    cases h
   cases h
 cases h
theorem aal{c:dk}{σ b:aw}(m:fd M w c σ){x y v:aq}{j cy:Value}(p:R M w c x j)(q:R M w c y cy){o:List aq}{k:Nat}(i:rd σ y=some o)(h:append k x o σ=some (v,b))
  {T U ty:TypeId} (d:YT P T U k):qF M P c w (do pure (.value (←Builtin.append_ #[T,U] ty #[j,cy]))) v b:=
 Fy m p d.k0 h fun a=>
  let ⟨n,A,r,l⟩:=ac5 m q i d.k0 a
  ⟨A,r,fun e f g=>MU d (n w) (l w rfl) e f g,fun e f g=>Ls d (n w) l e f g⟩
structure aij (P:Program) (T U:TypeId) (k:Nat) (e:TypeId) (i:TypeInfo) (z:Value):Prop where
 sl:P.underlying T=some (.slice e)
 info:P.info? e=some i
 size:i.size=k
 zero:i.zero=some z
 cells:z.cells.size=k
 small:i.bytes≤1024
 some_:i.bytes≠0
 int:∃q,P.underlying U=some (.int q)
 k0:k≠0
theorem abn{T U ty e:TypeId}{k:Nat}{i:TypeInfo}{z:Value}(J:aij P T U k e i z){q:IntKind}{m:Nat}(O:m≤bD):aaO P w T U ty k (.int q m) m (Builtin.zeroCells z.cells m):=by
 obtain⟨s,j,D,t,H,E,L,⟨R,u⟩,M⟩:=J;have A:bD=68719476736:=rfl;have v:IntKind.i64.wrap (m:Int)=m:=by
  simp[IntKind.wrap,IntKind.bits,IntKind.signed];omega
 have d:¬((m:Int)<0):=by omega
 have g:¬(281474976710656<(m:Int)*(i.bytes:Int)):=by
  have:m*i.bytes≤m*1024:=Nat.mul_le_mul_left m E;have:m*i.bytes≤281474976710656:=by omega
  have:=Int.ofNat_le.2 this;rw[Int.natCast_mul]at this;omega
 have Q:∀w',(if m*i.size=0 then (pure #[]:Sem (Array Value)) else do pure (Builtin.zeroCells (←zeroValue e).cells m)).run P w'=.ok (Builtin.zeroCells z.cells m) w':=fun w'=>by
  by_cases f:m*i.size=0
  ·rw[if_pos f];have:m=0:=by
    rcases mz.1 f with h|h
    ·exact h
    omega
   subst this;simp[Builtin.zeroCells]
  rw[if_neg f];simp[zeroValue,typeInfo,j,t]
 have N:∀w',m*i.size≠0→(zeroValue e).run P w'=.ok z w':=fun w' _=>by simp[zeroValue,typeInfo,j,t]
 have x:m*i.size=0→Builtin.zeroCells z.cells m=#[]:=fun f=>by
  have:m=0:=by
   rcases mz.1 f with h|h
   ·exact h
   omega
  subst this;simp[Builtin.zeroCells]
 refine⟨fun {a n cap w'} c C y=>?_,fun {a n cap B} I c F=>?_⟩
 ·cases a with
  |none=>
   obtain rfl:=y rfl;by_cases f:m*i.size=0
   ·simp[Builtin.append_,run_underlying s,run_underlying u,sizeOf,typeInfo,j,asInt,asIntOf,v,d,g,c,f]
   simp[Builtin.append_,run_underlying s,run_underlying u,sizeOf,typeInfo,j,asInt,asIntOf,v,d,g,c,f,zeroValue,t]
  |some b=>
   have:=C b rfl;rw[←D]at this;by_cases f:m*i.size=0
   ·have r:((storeCells (b.add (n*i.size)) []).run P w)=.ok () w':=by rw[x f]at this;exact this
    simp[Builtin.append_,run_underlying s,run_underlying u,sizeOf,typeInfo,j,asInt,asIntOf,v,d,g,c,f,r]
   simp[Builtin.append_,run_underlying s,run_underlying u,sizeOf,typeInfo,j,asInt,asIntOf,v,d,g,c,f,zeroValue,t,this]
 have y:¬(n+m≤cap):=by omega
 have o:¬(9223372036854775807<((n:Int)+(m:Int))):=by omega
 have l:¬(281474976710656<Builtin.nextslicecap (n+m) cap*i.bytes):=by
  have G:=yc c;have K:Builtin.nextslicecap (n+m) cap*i.bytes≤(2*(n+m)+192)*1024:=Nat.mul_le_mul G E;omega
 have p:=I w.drew rfl;refine⟨(Question.appendCap (n+m) cap e).cut (w.tape w.drawn (.appendCap (n+m) cap e)),e,Builtin.zeroCells z.cells ((Question.appendCap (n+m) cap e).cut (w.tape w.drawn (.appendCap (n+m) cap e))-(n+m)),w.drew,rfl,⟨rfl,rfl,rfl,aF _⟩,?_,?_,?_⟩
 rotate_left 2
 ·rw[←D]at p;by_cases f:m*i.size=0
  ·simp[Builtin.append_,run_underlying s,run_underlying u,sizeOf,typeInfo,j,asInt,asIntOf,v,d,g,y,o,l,Question.forced,p,newRow,f,zeroValue,t,x f];rfl
  simp[Builtin.append_,run_underlying s,run_underlying u,sizeOf,typeInfo,j,asInt,asIntOf,v,d,g,y,o,l,Question.forced,p,newRow,f,zeroValue,t];rfl
 ·simp[Question.cut]
 simp[Builtin.zeroCells,H]
end Go.AM
namespace Go.AM
variable {M:dm} {w:World} {P:Program}
theorem zD{c:dk}{σ:aw}(b:fd M w c σ){id ep:Nat}(h:fresh σ id ep=true):∃k es,σ[id]?=some (.arr k ep es)∧c.H id=.arr k ep:=by
 unfold fresh at h;split at h
 ·rename_i k e es a;have:e=ep:=by simpa using h
  subst this;exact⟨k,es,a,by rw[b.H,fe a]⟩
 cases h
theorem zX{c:dk}{σ:aw}(j:fd M w c σ){id ep i o:Nat}{p:Value}(h:R M w c (.ptr id ep i o) p)(g:fresh σ id ep=true) :
  ∃k b,id<c.N∧c.H id=.arr k ep∧c.place id=some b∧p=.pointer (some ⟨b,i*k+o,none⟩):=by
 obtain⟨k,es,m,d⟩:=zD j g;cases h with
 |ptr e a f=>rw[d]at a;cases a;exact⟨_,_,e,d,f,rfl⟩
 |ptrOld l e a=>exact absurd (a _ _ d) (dG _)
theorem G0{f:Field}{n:Nat}(h:(P.info? f.type).map (·.size)=some n)(b:n≠0)(a:Addr):(fieldPlace a f).run P w=.ok (a.add f.offset) w:=by
 unfold fieldPlace;simp[gf h,b]
theorem an6{c:dk}{σ:aw}(z:fd M w c σ){p v:aq}{m:Value}(q:R M w c p m){S:TypeId}{i off n:Nat}{fs:Array Field}{f:Field}(s:P.underlying S=some (.struct fs))(t:fs[i]?=some f)
  (x:f.offset=off) (u:(P.info? f.type).map (·.size)=some n) (l:n≠0)
  (h:JI σ off p=some v):∃cv,(Instr.fieldAt S m i).run P w=.ok cv w∧R M w c v cv:=by
 have key:∀b o,(Instr.fieldAt S (.pointer (some ⟨b,o,none⟩)) i).run P w=.ok (.pointer (some ⟨b,o+off,none⟩)) w:=fun b o=>by
  unfold Instr.fieldAt Instr.sureAddr;simp only[Sem.run_bind,run_underlying s,Result.andThen_ok,t,Sem.run_pure,G0 u l,kJ,x]
 cases p with
 |ptr id ep j o=>
  simp only[JI,Dr]at h;split at h
  ·rename_i g;cases h;obtain⟨k,b,a,d,e,rfl⟩:=zX z q g;exact⟨_,key _ _,by rw[dB];exact .ptr a d e⟩
  cases h
 |cptr b y o=>
  cases h;cases q with
  |cptr f a d e r=>exact⟨_,key _ _,by rw[dB];exact .cptr f a d e r⟩
 |_=>cases h
theorem vE{c:dk}{i:aq}{a:Value}{n:Nat}(hi:R M w c i a)(h:rc i=some n):∃k,a=.int k n:=by
 cases hi<;>simp only[rc]at h<;>first|(cases h;done)|skip
 split at h
 ·cases h;rename_i b;exact⟨_,by rw[Int.toNat_of_nonneg b]⟩
 cases h
theorem ah2{c:dk}{σ:aw}(B:fd M w c σ){x v:aq}{F E:Value}(C:R M w c x F){n:Nat}(hi:∃k,E=.int k (n:Int)){T e:TypeId}{k:Nat}(L:P.underlying T=some (.slice e))(S:(P.info? e).map (·.size)=some k)(U:k≠0)
  (h:Dr σ k n x=some v):∃cv,(Instr.indexAt T F E).run P w=.ok cv w∧R M w c v cv:=by
 obtain⟨V,rfl⟩:=hi;have key:∀(a:Addr) (len cap:Nat),n<len→(Instr.indexAt T (.slice (some a) len cap) (.int V n)).run P w=.ok (.pointer (some (a.add (n*k)))) w:=fun a len cap d=>by
  unfold Instr.indexAt;have G:(0:Int)≤(n:Int)∧(n:Int)<(len:Int):=⟨by omega,by omega⟩;simp only[asIntOf,Sem.run_bind,Sem.run_pure,Result.andThen_ok,run_underlying L,G,and_self,cw,gf S];rfl
 cases x with
 |aa b xs=>
  simp only[Dr,aL]at h;obtain⟨y,D,h⟩:=h;split at h
  ·rename_i p;cases h;obtain⟨d,rfl⟩:=ak.1 D;cases C with
   |@aa _ _ _ cap a K f i g u H s r t=>
    obtain⟨blk,o,W⟩:=a;simp only at i g r;subst g;have A:K=k:=by rw[←s _ (aJ d)];exact p
    subst A;refine⟨_,key _ _ _ d,?_⟩;rw[kJ]
    have:=R.cptr (M:=M) (w:=w) (c:=c) (b:=b) (x:=xs[n]) (off:=0) (o:=o+n*K) (blk:=blk) (f n) i (by omega) (fun j q=>r n j d (by omega)) (fun j q=>by
     cases b with
     |true=>exact (t n d j q).ext (Ext.ofStill B.sb true)
     |false=>exact t n d j q)
    simpa using this
   |imm0=>simp at d
  cases h
 |lst xs=>
  simp only[Dr,aL]at h;obtain⟨y,D,h⟩:=h;split at h
  ·rename_i p;cases h;obtain⟨d,rfl⟩:=ak.1 D;cases C with
   |@lst _ _ cap a K f i g u H s r t=>
    obtain⟨blk,o,W⟩:=a;simp only at i g r;subst g;have A:K=k:=by rw[←s _ (aJ d)];exact p
    subst A;refine⟨_,key _ _ _ d,?_⟩;rw[kJ];have:=R.cptr (M:=M) (w:=w) (c:=c) (b:=true) (x:=xs[n]) (off:=0) (o:=o+n*K) (blk:=blk) (f n) (B.sb _ i) (by omega) (fun j q=>r n j d (by omega)) (fun j q=>t n d j q);simpa using this
   |lst0=>simp at d
  cases h
 |sl id ep off m=>
  simp only[JI,Dr]at h;split at h
  ·rename_i N;obtain⟨d,I,Q⟩:=N;cases h;obtain⟨J,es,O,z⟩:=zD B Q;have l:J=k:=by simp only[Y6,O]at I;exact dW I
   subst l;cases C with
   |@sl _ _ _ _ _ cap k2 blk i g u H s=>
    have l:k2=J:=by rw[z]at g;cases g;rfl
    subst l;refine⟨_,key _ _ _ d,?_⟩;rw[kJ,←Nat.add_mul];exact R.ptr (off:=0) i z u
   |sl0 i g=>omega
   |slOld G i g=>exact absurd (g _ _ z) (dG _)
  cases h
 |_=>cases h
theorem aic{c:dk}{σ:aw}(A:fd M w c σ){x v:aq}{p l:Value}(q:R M w c x p){n m s:Nat}(hi:∃k,l=.int k (n:Int)){T e:TypeId}(u:P.underlying T=some (.array m e))(z:(P.info? e).map (·.size)=some s)
  (C:n<m) (h:JI σ (n*s) x=some v):∃cv,(Instr.indexAt T p l).run P w=.ok cv w∧R M w c v cv:=by
 obtain⟨B,rfl⟩:=hi;have key:∀(b o:Nat),(Instr.indexAt T (.pointer (some ⟨b,o,none⟩)) (.int B n)).run P w=.ok (.pointer (some ⟨b,o+n*s,none⟩)) w:=fun b o=>by
  unfold Instr.indexAt;have r:(0:Int)≤(n:Int)∧(n:Int)<(m:Int):=⟨by omega,by omega⟩;simp only[asIntOf,Sem.run_bind,Sem.run_pure,Result.andThen_ok,run_underlying u,Instr.sureAddr,r,and_self,cw,gf z];rw[←kJ];rfl
 cases x with
 |ptr id ep j o=>
  simp only[JI,Dr]at h;split at h
  ·rename_i i;cases h;obtain⟨k,b,a,d,g,rfl⟩:=zX A q i;exact⟨_,key _ _,by rw[dB];exact .ptr a d g⟩
  cases h
 |cptr b y o=>
  cases h;cases q with
  |cptr f a d g t=>exact⟨_,key _ _,by rw[dB];exact .cptr f a d g t⟩
 |_=>cases h
theorem ain{c:dk}{x v:aq}{m:Value}(z:R M w c x m)(l:Go.AM.isAgg x=true)(k:aM x≠0){T:TypeId}{a:Bool}{s off:Nat}(b:uo P T a s=true)(h:xd a s x off=some v) :
  ∃A cv,m=.agg A∧(part T A off).run P w=.ok cv w∧R M w c v cv:=by
 obtain⟨cs,rfl⟩:=rG l;cases z with
 |@agg _ _ vs f p d B q=>
  by_cases n:cs=[]
  ·subst n;exact absurd rfl (k:aM (.agg [])≠0)
  have i:aM (.agg cs)≠0:=by simp[aM,n]
  obtain⟨g,y⟩:=EC (f:=f) (show uB M w c (.agg cs) f from ⟨fun j t=>(d j t).2,q⟩) i h (fun r=>by subst r;exact yT b);have o:off+s≤cs.length:=g;refine⟨vs,_,rfl,?_,y⟩;unfold part;cases a with
  |true=>
   simp only[Sem.run_bind,tV b,Result.andThen_ok,cw,gf (wu b),Sem.run_pure];congr 2;apply Array.ext
   ·simp;omega
   intro j u e;simp at e;have:=(d (off+j) (by omega)).1;rw[cQ (by rw[p];omega)]at this;simp;exact dW this
  |false=>
   obtain rfl:=yT b;simp only[Sem.run_bind,tV b,Result.andThen_ok,bq,cH,(d off (by omega)).1,Sem.run_pure]
theorem aaT{c:dk}{σ:aw}(m:fd M w c σ){x:aq}{g:Value}(o:R M w c x g){n:Nat}(h:td σ x=some n):∃a cap,g=.slice a n cap∧n≤cap:=by
 cases o with
 |aa K f e b d=>simp only[td,aK]at h;subst h;exact⟨_,_,rfl,d⟩
 |imm0=>simp only[td,bE,aK]at h;subst h;exact⟨_,_,rfl,cI _⟩
 |lst K f e b d=>simp only[td,aK]at h;subst h;exact⟨_,_,rfl,d⟩
 |lst0=>simp only[td,bE,aK]at h;subst h;exact⟨_,_,rfl,cI _⟩
 |ai=>simp only[td,aK]at h;subst h;exact⟨_,_,rfl,cI _⟩
 |emp _=>simp only[td,aK]at h;subst h;exact⟨_,_,rfl,cI _⟩
 |sl e b d i=>
  simp only[td]at h;split at h
  ·cases h;exact⟨_,_,rfl,i⟩
  cases h
 |sl0=>
  simp only[td]at h;split at h
  ·cases h;exact⟨_,_,rfl,cI _⟩
  cases h
 |slOld p e b=>
  simp only[td]at h;split at h
  ·rename_i l;obtain⟨k,es,q,j⟩:=zD m l;exact absurd (b _ _ j) (dG _)
  cases h
 |_=>simp[td]at h
theorem anv{c:dk}{σ:aw}(f:fd M w c σ){x:aq}{b:Value}(g:R M w c x b){n:Nat}(h:td σ x=some n){T ty e:TypeId}(d:P.underlying T=some (.slice e)) :
  (Builtin.len_ #[T] ty #[b]).run P w=.ok (.int .i64 n) w:=by
 obtain⟨a,cap,rfl,_⟩:=aaT f g h;simp[Builtin.len_,run_underlying d,goInt]
theorem aaG{c:dk}{x:aq}{a:Value}(d:R M w c x a){n:Nat}(h:JK x=some n):∃s t,x=.str s∧a=.string t∧t.data.toList=s∧t.size=n:=by
 cases d with
 |@str _ s t b=>
  simp only[JK,aK]at h;subst b h;exact⟨_,t,rfl,rfl,rfl,by simp⟩
 |_=>simp[JK]at h
theorem ajB{c:dk}{x:aq}{a:Value}(e:R M w c x a){n:Nat}(h:JK x=some n){T ty:TypeId}(b:P.underlying T=some .string) :
  (Builtin.len_ #[T] ty #[a]).run P w=.ok (.int .i64 n) w:=by
 obtain⟨s,t,rfl,rfl,_,d⟩:=aaG e h;simp[Builtin.len_,run_underlying b,goInt,d]
theorem JO{k:IntKind}{n y:Nat}{code:BoundsCode}(h:n≤y):(Instr.sliceBound (.int k n) y code).run P w=.ok n w:=by
 rw[run_sliceBound w k n y code (by omega) (by omega)];simp
theorem xF{len cap l h:Nat}{isS:Bool}{lo hi:Option Value}(b:(lo=none∧l=0)∨∃k,lo=some (.int k (l:Int)))(a:(hi=none∧h=len)∨∃k,hi=some (.int k (h:Int)))(c:l≤h)(d:h≤cap) :
  (Instr.sliceBounds isS len cap lo hi none).run P w=.ok (l,h,cap) w:=by
 unfold Instr.sliceBounds;rcases b with⟨rfl,rfl⟩|⟨k,rfl⟩<;>rcases a with⟨rfl,rfl⟩|⟨e,rfl⟩<;>simp[JO c,JO d]
theorem adm{c:dk}{σ:aw}(hs:fd M w c σ){x v:aq}{cx:Value}(G:R M w c x cx){n l h:Nat}(r:td σ x=some n){lo hi:Option Value}(Z:(lo=none∧l=0)∨∃k,lo=some (.int k (l:Int)))
  (X:(hi=none∧h=n)∨∃k,hi=some (.int k (h:Int))) {s:Nat} (d:aslice σ s x l h=some v) {T e:TypeId} (hT:P.underlying T=some (.slice e)) (hk:(P.info? e).map (·.size)=some s) :
  ∃cv,(Instr.sliceAt T cx lo hi none).run P w=.ok cv w∧R M w c v cv:=by
 obtain⟨a,cap,rfl,J⟩:=aaT hs G r;have g:l≤h→h≤n→(Instr.sliceAt T (.slice a n cap) lo hi none).run P w=.ok (.slice (if cap=l then a else a.map (·.add (l*s))) (h-l) (cap-l)) w:=fun q p=>by
  unfold Instr.sliceAt Instr.slice;simp only[Sem.run_bind,run_underlying hT,Result.andThen_ok,xF Z X q (bH p J),gf hk,Sem.run_pure]
 cases x with
 |aa b xs=>
  simp only[aslice]at d;split at d
  ·rename_i z;obtain⟨H,t,E⟩:=z;cases d;simp only[td,aK]at r;subst r;refine⟨_,g H t,?_⟩;by_cases F:h=l
   ·subst F;simp;exact .imm0
   rw[if_neg (by omega)];cases G with
   |@aa _ _ _ _ S K f q p U O u I V=>
    obtain⟨blk,o,sp⟩:=S;simp only at q p I;subst p;have W:K=s:=by
     have N:xs[l]'(by omega)∈xs:=aJ _;have:=bd.1 E _ N;rw[←u _ N];simpa using this
    subst W;have D:((xs.drop l).take (h-l)).length=h-l:=by simp;omega
    have:=R.aa (M:=M) (w:=w) (c:=c) (b:=b) (xs:=(xs.drop l).take (h-l)) (cap:=cap-l) (a:=⟨blk,o+l*K,none⟩) K (fun i j=>f (l+i) j) q rfl (by omega) O (fun y hy=>u y (dR (cL hy)))
     (fun i j hi B=>by
      have:=I (l+i) j (by omega) B;rw[show o+l*K+i*K+j=o+(l+i)*K+j by rw[dN];omega];exact this)
     (fun i hi j B=>by
      have A:l+i<xs.length:=by omega
      have e:((xs.drop l).take (h-l))[i]=xs[l+i]:=by simp
      have C:j<(cellsOf xs[l+i]).length:=by rw[←e];exact B
      have:=V (l+i) A j C;simp only[dO,eH];exact this)
    rw[D]at this;simpa [kJ] using this
   |imm0=>simp at t;omega
  cases d
 |lst xs=>
  simp only[aslice]at d;split at d
  ·rename_i z;obtain⟨H,t,E⟩:=z;cases d;simp only[td,aK]at r;subst r;refine⟨_,g H t,?_⟩;by_cases F:h=l
   ·subst F;simp;exact .lst0
   rw[if_neg (by omega)];cases G with
   |@lst _ _ _ S K f q p U O u I V=>
    obtain⟨blk,o,sp⟩:=S;simp only at q p I;subst p;have W:K=s:=by
     have N:xs[l]'(by omega)∈xs:=aJ _;have:=bd.1 E _ N;rw[←u _ N];simpa using this
    subst W;have D:((xs.drop l).take (h-l)).length=h-l:=by simp;omega
    have:=R.lst (M:=M) (w:=w) (c:=c) (xs:=(xs.drop l).take (h-l)) (cap:=cap-l) (a:=⟨blk,o+l*K,none⟩) K (fun i j=>f (l+i) j) q rfl (by omega) O (fun y hy=>u y (dR (cL hy)))
     (fun i j hi B=>by
      have:=I (l+i) j (by omega) B;rw[show o+l*K+i*K+j=o+(l+i)*K+j by rw[dN];omega];exact this)
     (fun i hi j B=>by
      have A:l+i<xs.length:=by omega
      have e:((xs.drop l).take (h-l))[i]=xs[l+i]:=by simp
      have C:j<(cellsOf xs[l+i]).length:=by rw[←e];exact B
      have:=V (l+i) A j C;simp only[dO,eH];exact this)
    rw[D]at this;simpa [kJ] using this
   |lst0=>simp at t;omega
  cases d
 |ai=>
  simp only[aslice]at d;split at d
  ·rename_i z;obtain⟨rfl,rfl⟩:=z;cases d;refine⟨_,g (aF _) (cI _),?_⟩;cases G;simp;exact .ai
  cases d
 |sl id ep off m=>
  simp only[aslice]at d;split at d
  ·rename_i z;obtain⟨H,t,E⟩:=z;cases d;simp only[td]at r;split at r
   ·rename_i hf;obtain⟨k,es,he,Q⟩:=zD hs hf;cases r;have ad:k=s:=by simp only[Y6,he]at E;exact dW E
    subst ad;refine⟨_,g H t,?_⟩;by_cases L:cap=l
    ·have F:h=l:=by omega
     have ab:id<c.N:=by cases G<;>assumption
     subst L F;simp;exact .sl0 ab Q
    rw[if_neg L];cases G with
    |@sl _ _ _ _ _ _ k2 blk q p U O u=>
     have Y:k2=k:=by rw[Q]at p;cases p;rfl
     subst Y;simp only[dJ,kJ,←Nat.add_mul];exact .sl q Q U (by omega) (by rw[show off+l+(cap-l)=off+cap by omega];exact u)
    |sl0=>omega
    |slOld F q p=>exact absurd (p _ _ Q) (dG _)
   cases r
  cases d
 |_=>simp[aslice]at d
end Go.AM
namespace Go.AM
variable {M:dm} {w:World} {P:Program}
def nI(M:dm)(w:World)(c:dk)(env ls:List aq)(rs:Tmp→Option dd)(tmps:Array Value):Prop:=
 ∀t o,rs t=some o→R M w c (o.eval env ls) (tmps.getD t undef)
theorem nI.ext{c c':dk}{w':World}{a:Tmp→Option dd}{env ls:List aq}{tmps:Array Value}(h:nI M w c env ls a tmps)(b:Ext c w c' w'):nI M w' c' env ls a tmps:=
 fun t o d=>(h t o d).ext b
theorem uM{a:Act}{d t:Tmp}{v:Value}(hd:d<a.tmps.size):(a.put (some d) v).tmps.getD t undef=if t=d then v else a.tmps.getD t undef:=by
 simp only[Act.put,bV,dI];by_cases h:d=t
 ·subst h;simp[hd]
 have:¬t=d:=fun e=>h e.symm;simp[h,this]
def Lm:aq→aq→Bool
 |.int k n,.int k' n'=>k==k'&&n==n'
 |.bool a,.bool b=>a==b
 |.str a,.str b=>a==b
 |.nilp,.nilp=>true
 |.nilf,.nilf=>true
 |.nilm,.nilm=>true
 |_,_=>false
theorem Ro{a b:aq}(h:Lm a b=true):a=b:=by
 cases a<;>cases b<;>simp[Lm]at h<;>first|rfl|(subst h;rfl)|(obtain⟨c,d⟩:=h;subst c d;rfl)
def FH:dd→dd→Bool
 |.env i,.env j=>i==j
 |.loc i,.loc j=>i==j
 |.val a,.val b=>Lm a b
 |_,_=>false
theorem wo{a b:dd}(h:FH a b=true):a=b:=by
 cases a<;>cases b<;>simp[FH]at h<;>first|rw[h]|rw[Ro h]
def Jj(a b:aq):Bool:=isAgg a&&isAgg b&&(oJ (cellsOf a) (cellsOf b)==some true)
theorem FL{a b:aq}(h:lR a b=some true):a=b:=by
 cases a<;>cases b<;>simp[lR]at h
 ·obtain⟨rfl,rfl⟩:=h;rfl
 ·subst h;rfl
 subst h;rfl
theorem Ce:∀{a b:List aq},oJ a b=some true→a=b
 |[],[],_=>rfl
 |[],_::_,h=>by simp[oJ]at h
 |_::_,[],h=>by simp[oJ]at h
 |a::x,b::y,h=>by
  simp only[oJ,aL]at h;obtain⟨t,d,c⟩:=h;cases t with
  |true=>rw[FL d,Ce c]
  |false=>simp[aT]at c
theorem Ow{a b:aq}(h:Jj a b=true):a=b:=by
 simp only[Jj,ax,aX]at h;obtain⟨⟨d,e⟩,f⟩:=h;obtain⟨x,rfl⟩:=rG d;obtain⟨y,rfl⟩:=rG e;have c:oJ x y=some true:=f;rw[Ce c]
def lW(M:dm)(rs:Tmp→Option dd):Operand→dd→Bool
 |.tmp t,x=>match rs t with
  |some o=>FH o x
  |none=>false
 |.const v,.val a=>pm M.fm 6 v a
 |.func f,.val (.fn n [] [])=>M.fm n==f
 |.global g,.val (.cptr false a 0)=>match M.glob g with
  |some a'=>Jj a' a
  |none=>false
 |_,_=>false
def kK(M:dm)(w:World)(c:dk):Prop:=(∀g a,M.glob g=some a→R M w c (.cptr false a 0) (.pointer (some ⟨g,0,none⟩)))∧M.tabs w c.sld
theorem kK.ext{c c':dk}{w':World}(h:kK M w c)(d:Ext c w c' w'):kK M w' c':=⟨fun g a f=>(h.1 g a f).ext d,M.tabs_ext _ _ _ _ h.2 d.sld fun b e=>d.rest b (.inr e)⟩
theorem Ks{c:dk}{d:Tmp→Option dd}{env ls:List aq}{a:Act}(h:nI M w c env ls d a.tmps)(i:kK M w c){x:Operand}{e:dd}(b:lW M d x e=true) :
  R M w c (e.eval env ls) (a.eval x):=by
 unfold lW at b;split at b
 ·split at b
  ·rename_i o j;have:=wo b;subst this;exact h _ _ j
  cases b
 ·exact tt b
 ·rename_i f n;have:M.fm n=f:=by simpa using b
  subst this;exact .fn (fun _=>undef) (fun _=>undef) rfl rfl (by simp) (by simp) (by simp) (by simp)
 ·split at b
  ·rename_i k g;have:=Ow b;subst this;exact i.1 _ _ g
  cases b
 cases b
structure vc (F:Fence):Prop where
 fn:∀f,F.fn f
 depth:F.depth=none
 alive:F.alive=false
theorem vc.inRound{F:Fence}(h:vc F)(l:Nat):vc (F.inRound l):=⟨h.fn,h.depth,h.alive⟩
theorem qF.wp{F:Fence}{n:Nat}(l:vc F){c:dk}{o:Oper}{a:Act}{v:aq}{b:aw}(h:qF M P c w (execOp a.eval o) v b)(hd:∀c,o.op≠.defer c){K:Act→World→Prop}{Q:Exit→Act→World→Prop}
  (i:∀cv w' c',fd M w' c' b→iW c w c' w'→R M w' c' v cv→K (a.put o.dst cv) w'):o.wpIn F n P a w K Q:=by
 obtain⟨nx,w',c',cv,j,k,d,e,g⟩:=h;refine⟨fun f _=>l.fn f,?_⟩;rw[Oper.semAt_eq _ _ _ hd,j];rcases k with rfl|⟨rfl,rfl⟩
 ·exact i cv w' c' d e g
 exact i undef w' c' d e g
end Go.AM
namespace Go.AM
variable {M:dm} {w:World} {P:Program}
def ahT(M:dm)(n0:Nat)(w:World)(c:dk)(k:Nat)(xs:List aq)(cv:Value):Prop:=
 k≠0∧(∀x∈xs,aM x=k) ∧
 ((xs=[]∧∃a,cv=.slice a 0 0) ∨
  ∃(b cap:Nat) (cs:Array Value) (T:TypeId) (f:Nat→Nat→Value),cv=.slice (some ⟨b,0,none⟩) xs.length cap∧n0≤b∧w.heap[b]?=some (.cells cs T (0,0))∧¬c.bor b∧(∀id,c.H id≠.dead→c.place id≠some b) ∧
   xs.length≤cap∧cap*k≤cs.size∧(∀i j,i<xs.length→j<k→cs[i*k+j]?=some (f i j)∧(f i j).oneCell'=true) ∧
   ∀i (hi:i<xs.length) j (hj:j<(cellsOf xs[i]).length),R M w (c.still false) (cellsOf xs[i])[j] (f i j))
inductive RF (M:dm) (n0:Nat) (w:World) (c:dk):aq→Value→Prop
 |r {v cv}:R M w c v cv→RF M n0 w c v cv
 |frs {k xs cv}:ahT M n0 w c k xs cv→RF M n0 w c (.frs k xs) cv
 |tup {k xs vs cv} {cvs:Array Value} (f:Nat→Value):ahT M n0 w c k xs cv→cvs.size=vs.length+1→cvs[0]?=some cv→(∀i (h:i<vs.length),cvs[i+1]?=some (f i))→(∀i (h:i<vs.length),R M w c vs[i] (f i)) →
   RF M n0 w c (.tup (.frs k xs::vs)) (.tuple cvs)
theorem fd.stillOld{c:dk}{σ:aw}(d:fd M w c σ){b:Nat}(g:b<w.heap.size)(m:∀id,c.H id≠.dead→c.place id≠some b) :
  fd M w (c.addStill b) σ∧Ext c w (c.addStill b) w:=by
 have a:Ext c w (c.addStill b) w:=⟨fun _ h=>.inl h,fun _ h=>.inl h,fun _ _=>rfl,aF _,fun _ _=>.inl rfl,fun _ _ _ _=>⟨rfl,rfl,rfl⟩⟩;refine⟨⟨d.H,d.N,fun b g=>g.imp (d.sb b) id,fun x f=>?_,fun id x i j=>?_,d.inj,fun id o' n=>(d.obj id o' n).ext a (fun _=>⟨rfl,rfl,rfl⟩) fun _ _ _=>rfl⟩,a⟩
 ·rcases f with f|f
  ·exact d.low x f
  rw[f];exact g
 obtain⟨k,l⟩:=d.plow id x i j;exact⟨k,fun f=>f.elim l (fun e=>m id i (by rw[←e];exact j))⟩
theorem iW.stillOld{c c':dk}{w':World}{b:Nat}(h:iW c w c' w')(g:w.heap.size≤b)(f:Ext c' w' (c'.addStill b) w'):iW c w (c'.addStill b) w':=
 { Ext.trans h.toExt f with same:=h.same,size:=h.size,frame:=h.frame,liv:=h.liv,old:=fun x d a=>d.elim (fun d=>h.old x d a) fun e=>by omega,oldb:=fun x d a=>d.elim (fun d=>h.oldb x d a) fun e=>by omega }
theorem fd.adopt{c A:dk}{w0:World}{σ:aw}(g:fd M w c σ)(d:iW A w0 c w){b k:Nat}{xs:List aq}{cs:Array Value}{T:TypeId}{f:Nat→Nat→Value}(D:w0.heap.size≤b)(B:w.heap[b]?=some (.cells cs T (0,0)))(v:¬c.bor b)(C:∀id,c.H id≠.dead→c.place id≠some b)
  (F:k≠0) (r:∀x∈xs,aM x=k) (y:xs.length*k≤cs.size) (E:∀i j,i<xs.length→j<k→cs[i*k+j]?=some (f i j)∧(f i j).oneCell'=true)
  (H:∀i (hi:i<xs.length) j (q:j<(cellsOf xs[i]).length),R M w c (cellsOf xs[i])[j] (f i j)) :
  ∃c',c'.N=σ.length+1∧c'.H σ.length=.arr k 0∧c'.place σ.length=some b∧c'.room σ.length=cs.size∧fd M w c' (σ++[.arr k 0 xs])∧iW A w0 c' w∧Ext c w c' w:=by
 have u:b<w.heap.size:=(bF.1 B).1;have e:=Ext.grow (w':=w) g (.arr k 0 xs) (some b) cs.size (c.loops 0) (fun _ _=>rfl);have key:∀i,hd (σ++[.arr k 0 xs]) i≠.dead→i≠c.N→c.H i≠.dead:=fun i hi a=>by
  have p:i<σ.length:=by
   have:=IB hi;rw[g.N]at a;simp at this;omega
  rwa [uA p,←g.H]at hi
 refine⟨c.grow (σ++[.arr k 0 xs]) (some b) cs.size (c.loops 0),by simp[dk.grow],?_,by simp[dk.grow,g.N],by simp[dk.grow,g.N],?_,?_,e⟩
 ·show hd (σ++[.arr k 0 xs]) σ.length=_;rw[fe nM]
 ·refine⟨rfl,rfl,g.sb,g.low,fun id x n h=>?_,fun i j x hi q m l=>?_,fun id o s=>?_⟩
  ·simp only[dk.grow]at n h ⊢;split at h
   ·cases h;exact⟨u,v⟩
   rename_i a;exact g.plow id x (key id n a) h
  ·simp only[dk.grow]at hi q m l;split at m
   ·split at l
    ·omega
    rename_i n h;cases m;exact absurd l (C j (key j q h))
   rename_i n;split at l
   ·cases l;exact absurd m (C i (key i hi n))
   rename_i h;exact g.inj i j x (key i hi n) (key j q h) m l
  by_cases p:id<σ.length
  ·rw[aQ p]at s;have a:id≠c.N:=by rw[g.N];omega
   exact (g.obj id o s).ext e (fun _=>by simp[dk.grow,a]) fun _ _ _=>rfl
  have:id=σ.length:=by
   have:=(ak.1 s).1;simp at this;omega
  subst this;rw[nM]at s;cases s;refine⟨F,r,fun G=>by simp[dk.grow,g.N]at G,fun x t=>?_⟩;have z:x=b:=by simp[dk.grow,g.N]at t;exact t.symm
  subst z;exact⟨cs,T,f,B,y,by simp[dk.grow,g.N],E,fun i hi j q=>(H i hi j q).ext e⟩
 exact { Ext.trans d.toExt e with
  same:=d.same
  size:=d.size
  frame:=d.frame
  old:=d.old
  oldb:=d.oldb
  liv:=fun id x n h t=>by
   simp only[dk.grow]at n h;split at h
   ·cases h;omega
   rename_i a;exact d.liv id x (key id n a) h t }
theorem Jl{s c:dk}{w0:World}{σ:aw}(g:fd M w c σ)(d:iW s w0 c w){v:aq}{cv:Value}(N:RF M w0.heap.size w c v cv)(E:∀vs,v≠.tup vs)(l:Bool) :
  ∃c',fd M w c' (vO l v σ).2∧iW s w0 c' w∧Ext c w c' w∧R M w c' (vO l v σ).1 cv:=by
 cases N with
 |r h=>
  have e:vO l v σ=(v,σ):=by
   cases h<;>rfl
  rw[e];exact⟨c,g,d,.refl c w,h⟩
 |tup f h=>exact absurd rfl (E _)
 |@frs k xs _ h=>
  obtain⟨D,m,h⟩:=h;cases l with
  |true=>
   show ∃c',fd M w c' (σ++[.arr k 0 xs])∧iW s w0 c' w∧Ext c w c' w∧R M w c' (.sl σ.length 0 0 xs.length) cv;rcases h with⟨rfl,a,rfl⟩|⟨b,cap,cs,T,f,rfl,x,t,G,y,u,z,A,B⟩
   ·
    have p:=Ext.grow (w':=w) g (.arr k 0 []) none 0 (c.loops 0) (fun _ _=>rfl);refine⟨c.grow (σ++[.arr k 0 []]) none 0 (c.loops 0),?_,?_,p,?_⟩
    ·refine g.grow _ _ _ _ (fun _ _=>rfl) (aF _) (fun b o=>by cases o) ⟨D,by simp,fun _=>rfl,fun b o=>by simp[dk.grow,g.N]at o⟩
    ·exact iW.trans d (iW.grow g _ _ _ _ (.refl w) (fun _ _=>rfl) (aF _) (fun b o=>by cases o))
    exact .sl0 (by simp[dk.grow]) (show hd (σ++[.arr k 0 []]) σ.length=_ by rw[fe nM])
   obtain⟨c',F,n,H,I,J,K,L⟩:=g.adopt d x t G y D m (bH (cu k u) z) A (fun i hi j q=>(B i hi j q).ext (Ext.ofStill g.sb false));refine⟨c',J,K,L,?_⟩;have:=R.sl (M:=M) (w:=w) (c:=c') (id:=σ.length) (ep:=0) (off:=0) (len:=xs.length) (cap:=cap) (k:=k) (blk:=b) (by omega) n H u (by rw[I];simpa using z);simpa using this
  |false=>
   show ∃c',fd M w c' σ∧iW s w0 c' w∧Ext c w c' w∧R M w c' (.aa false xs) cv;rcases h with⟨rfl,a,rfl⟩|⟨b,cap,cs,T,f,rfl,x,t,G,y,u,z,A,B⟩
   ·exact⟨c,g,d,.refl c w,.imm0⟩
   have C:b<w.heap.size:=(bF.1 t).1;obtain⟨F,n⟩:=g.stillOld C y;refine⟨c.addStill b,F,d.stillOld x n,n,?_⟩
   exact R.aa (a:=⟨b,0,none⟩) k f (by simp[dk.addStill]) rfl u D m (fun i j hi q=>by
    have:=A i j hi q;simp only[World.cell?,t,cE];exact this) (fun i hi j q=>(B i hi j q).ext (n.still false))
theorem aeu{u c:dk}{w0:World}{σ:aw}(o:fd M w c σ)(b:iW u w0 c w){v:aq}{cv:Value}(z:RF M w0.heap.size w c v cv)(a:Bool) :
  ∃c',fd M w c' (mater a (v,σ)).2∧iW u w0 c' w∧R M w c' (mater a (v,σ)).1 cv:=by
 by_cases y:∃vs,v=.tup vs
 ·obtain⟨vs,rfl⟩:=y;cases vs with
  |nil=>
   cases z with
   |r h=>exact⟨c,o,b,h⟩
  |cons p vs=>
   show ∃c',fd M w c' (vO a p σ).2∧iW u w0 c' w∧R M w c' (.tup ((vO a p σ).1::vs)) cv;cases z with
   |r h=>
    cases h with
    |@tup _ _ cvs f q s n=>
     have A:=n 0 (by simp);simp only[cX]at A;have g:(∃d,p=.tup d)∨∀d,p≠.tup d:=by
      by_cases h:∃d,p=.tup d
      ·exact .inl h
      exact .inr fun d e=>h ⟨d,e⟩
     rcases g with⟨d,rfl⟩|g
     ·exact⟨c,o,b,.tup f q s n⟩
     obtain⟨c',j,l,t,m⟩:=Jl o b (.r A) g a;refine⟨c',j,l,.tup f (by simpa using q) (fun i hi=>s i (by simpa using hi)) (fun i hi=>?_)⟩;cases i with
     |zero=>exact m
     |succ i=>exact (n (i+1) (by simpa using hi)).ext t
   |@tup k xs _ x cvs f h q s n B=>
    obtain⟨c',j,l,t,m⟩:=Jl o b (.frs h) (by intro d e;cases e) a;refine⟨c',j,l,.tup (fun i=>if i=0 then x else f (i-1)) (by simpa using q) (fun i hi=>?_) (fun i hi=>?_)⟩
    ·cases i with
     |zero=>exact s
     |succ i=>simpa using n i (by simpa using hi)
    cases i with
    |zero=>exact m
    |succ i=>
     have:=(B i (by simpa using hi)).ext t;simpa using this
 obtain⟨c',j,l,_,m⟩:=Jl o b z (fun vs e=>y ⟨vs,e⟩) a;have e:mater a (v,σ)=vO a v σ:=by
  unfold mater;cases v<;>first|rfl|exact absurd ⟨_,rfl⟩ y
 rw[e];exact⟨c',j,l,m⟩
def rL(F:Fence)(n:Nat)(P:Program)(f:FuncId)(cargs:Array Value)(w:World)(R:Value→World→Prop):Prop:=
 ((callFunc f cargs).run P w=.ok (.enter f cargs) w∧CallsIn F n P f cargs w fun e w'=>∃cv,e=.returned cv∧R cv w') ∨
 ∃cv w',(callFunc f cargs).run P w=.ok (.value cv) w'∧R cv w'
def lU(M:dm)(w:World)(c:dk)(args:List aq)(cargs:Array Value):Prop:=
 cargs.size=args.length∧∀i (h:i<args.length),∃x,cargs[i]?=some x∧R M w c args[i] x
def gW(M:dm)(c:dk)(w:World)(σ':aw)(v:aq)(cv:Value)(w':World):Prop:=
 ∃c',fd M w' c' σ'∧iW c w c' w'∧RF M w.heap.size w' c' v cv
def lN(M:dm)(P:Program)(C:ip):Prop:=
 ∀f args σ v σ',C f args σ=some (v,σ')→∀(F:Fence) (n:Nat) (w:World) (c:dk) (cargs:Array Value),vc F→fd M w c σ→kK M w c→lU M w c args cargs →
  rL F n P (M.fm f) cargs w (gW M c w σ' v)∧((∃a∈args,zv a=false)→∀(cargs':Array Value) (w':World),(callFunc (M.fm f) cargs').run P w'=.ok (.enter (M.fm f) cargs') w')
def kX(M:dm)(P:Program)(C:ip):Prop:=
 ∀site l env args σ v σ',C site (.frs l []::env++args) σ=some (v,σ')→∀(F:Fence) (n:Nat) (w:World) (c:dk) (cargs:Array Value) (x:Value),vc F→fd M w c σ→kK M w c→lU M w c args cargs→pt σ l=true →
  R M w c (.yld l site env) x→∃b tmps w1,x=.func (.yield b) #[] #[]∧(Instr.yield b cargs).run P w=.ok (.round b (c.loops l).fn tmps (c.loops l).assign (c.loops l).body) w1 ∧
   RoundIn F n P b (c.loops l).fn tmps (c.loops l).assign (c.loops l).body w1 fun e w'=>∃cv,e=.returned cv∧gW M c w σ' v cv w'
theorem rL.wp{F:Fence}{n:Nat}(k:vc F){f:FuncId}{b:Array Value}{o:Oper}{a:Act}{j:Value→World→Prop}(h:∀n,rL F n P f b w j)(m:execOp a.eval o=callFunc f b)(hd:∀c,o.op≠.defer c)
  {K:Act→World→Prop} {Q:Exit→Act→World→Prop} (l:∀cv w',j cv w'→K (a.put o.dst cv) w'):o.wpIn F n P a w K Q:=by
 refine⟨fun f _=>k.fn f,?_⟩;rw[Oper.semAt_eq _ _ _ hd,m];rcases h (n-1) with⟨d,g⟩|⟨cv,w',d,g⟩
 ·rw[d];refine⟨fun q=>absurd q (by rw[k.depth];simp),g.mono fun e w' ⟨cv,i,p⟩=>?_⟩;subst i;exact l cv w' p
 rw[d];exact l cv w' g
theorem gW.mater{c:dk}{b:aw}{v:aq}{cv:Value}{w':World}(h:gW M c w b v cv w')(a:Bool) :
  ∃c',fd M w' c' (mater a (v,b)).2∧iW c w c' w'∧R M w' c' (mater a (v,b)).1 cv:=
 let ⟨_,d,e,f⟩:=h
 aeu d e f a
theorem YZ{c:dk}{g:Tmp→Option dd}{env ls:List aq}{a:Act}(h:nI M w c env ls g a.tmps)(f:kK M w c):∀{xs:List Operand} {b:List dd},xs.length=b.length→((xs.zip b).all fun p=>lW M g p.1 p.2)=true →
  ∀i (h:i<b.length),∃x,(xs.map a.eval)[i]?=some x∧R M w c (b[i].eval env ls) x
 |[],[],_,_,i,hi=>absurd hi (by simp)
 |[],_::_,e,_,_,_=>by simp at e
 |_::_,[],e,_,_,_=>by simp at e
 |x::xs,j::b,e,d,i,hi=>by
  simp only[fS,lQ,ax]at d;cases i with
  |zero=>exact⟨_,rfl,Ks h f d.1⟩
  |succ i=>simpa using YZ h f (by simpa using e) d.2 i (by simpa using hi)
end Go.AM
namespace Go.AM
variable (M:dm) (P:Program) (rs:Tmp→Option dd)
def CZ(T:TypeId)(k:Nat):Bool:=(P.info? T).map (·.size)==some k&&k != 0
def rn(T:TypeId)(z:aq):Bool:=match (P.info? T).map (·.zero) with
 |some (some v)=>pm M.fm 8 v z
 |_=>false
def rP(T:TypeId)(k:Nat):Bool:=match (P.info? T).map fun i=>(i.zero,i.bytes) with
 |some (some v,b)=>v.cells.size==k&&decide (b≤1024)&&b != 0
 |_=>false
def og(T:TypeId):Option TypeId:=match P.underlying T with
 |some (.slice e)=>some e
 |_=>none
def XS(T:TypeId):Bool:=match P.underlying T with
 |some (.int _)=>false
 |some _=>true
 |none=>false
def Uc(T:TypeId)(k:IntKind):Bool:=match P.underlying T with
 |some (.int j)=>j==k
 |_=>false
def Bx(T:TypeId):Bool:=match P.underlying T with
 |some (.int _)=>true
 |_=>false
def Jm(T:TypeId):Bool:=match P.underlying T with
 |some .string=>true
 |_=>false
def Fs:Option Operand→Option dd→Bool
 |none,none=>true
 |some x,some x'=>lW M rs x x'
 |_,_=>false
def xX(xs:List Operand)(xs':List dd):Bool:=xs.length==xs'.length&&(xs.zip xs').all fun p=>lW M rs p.1 p.2
def vk(place:Nat→Option (Nat×Nat)):List (Nat×Operand)→List (Nat×Nat×dd)→Bool
 |[],[]=>true
 |(i,x)::ps,(off,s,x')::qs=>place i==some (off,s)&&lW M rs x x'&&vk place ps qs
 |_,_=>false
def GH(S:TypeId)(i:Nat):Option Field:=match P.underlying S with
 |some (.struct fs)=>fs[i]?
 |_=>none
end Go.AM
namespace Go.AM
variable {M:dm} {w:World} {P:Program}
theorem lH{T:TypeId}{k:Nat}(h:CZ P T k=true):(P.info? T).map (·.size)=some k∧k≠0:=by
 simpa [CZ] using h
theorem gA{T e:TypeId}(h:og P T=some e):P.underlying T=some (.slice e):=by
 unfold og at h;split at h
 ·cases h;assumption
 cases h
theorem so{T:TypeId}{z:aq}(h:rn M P T z=true):∃i v,P.info? T=some i∧i.zero=some v∧(∀w,(zeroValue T).run P w=.ok v w)∧pm M.fm 8 v z=true:=by
 unfold rn at h;unfold zeroValue typeInfo;cases hq:P.info? T with
 |none=>simp[hq]at h
 |some i=>
  simp only[hq,dJ]at h;cases hz:i.zero with
  |none=>simp[hz]at h
  |some v=>
   rw[hz]at h;exact⟨i,v,rfl,hz,fun w=>by simp[hq,hz],h⟩
theorem rX{T:TypeId}{k:Nat}(h:rP P T k=true):∃i z,P.info? T=some i∧i.zero=some z∧z.cells.size=k∧i.bytes≤1024∧i.bytes≠0∧∀w,(zeroValue T).run P w=.ok z w:=by
 unfold rP at h;cases hq:P.info? T with
 |none=>simp[hq]at h
 |some i=>
  simp only[hq,dJ]at h;cases hz:i.zero with
  |none=>simp[hz]at h
  |some v=>
   rw[hz]at h;simp only[ax,aX,bZ,gQ]at h;exact⟨i,v,rfl,hz,h.1.1,h.1.2,h.2,fun w=>by simp[zeroValue,typeInfo,hq,hz]⟩
theorem I2{c:dk}{v:aq}{cv:Value}(h:R M w c v cv){k:Nat}(d:aM v=k)(b:k≠0):cv.cells.size=k:=by
 obtain⟨_,_,a,_⟩:=tR h (by omega);omega
theorem M8{c:dk}{σ:aw}(H:fd M w c σ){T e:TypeId}{k len:Nat}(E:P.underlying T=some (.slice e))(F:(P.info? e).map (·.size)=some k)(d:k≠0)(J:rP P e k=true)(Q:len*k≤2^24)
  {vs:List aq} {cvs:List Value} (u:vs.length=len) (l:cvs.length=len) (x:∀i (h:i<vs.length) (O:i<cvs.length),R M w c vs[i] cvs[i]) (r:∀v∈vs,aM v=k) (n:len≠0) {b:Array (Nat×Value)} (G:b.toList=(List.range len).zip cvs) :
  qF M P c w (do pure (.value (←Instr.buildSlice T len b))) (.lst vs) σ:=by
 obtain⟨i,z,S,U,V,_,_,K⟩:=rX J;obtain⟨f,N,A,C⟩:=BD (c:=c) d (by omega) x r;obtain⟨B,s,L,y⟩:=BH k cvs 0 ((Array.range (len*k)).map (z.cells[· % z.cells.size]!)) (fun v I=>by
  obtain⟨j,m,rfl⟩:=cM.1 I;exact I2 (x j (by omega) m) (r _ (aJ _)) d) (by simp;rw[l];exact aF _)
 rw[l,←List.range_eq_range']at s;obtain⟨D,t⟩:=H.addStill (.cells B e (0,0));have p:¬(len*k=0):=fun e=>(mz.1 e).elim n d;refine⟨.value (.slice (some ⟨w.heap.size,0,none⟩) len len),lg w (.cells B e (0,0)),c.addStill w.heap.size,_,?_,.inl rfl,D,t,?_⟩
 ·have o:¬(16777216<len*k):=by omega
  simp[Instr.buildSlice,run_underlying E,gf F,K,G,o,p,newRow,s];rfl
 have:=R.lst (M:=M) (w:=lg w (.cells B e (0,0))) (c:=c.addStill w.heap.size) (xs:=vs) (a:=⟨w.heap.size,0,none⟩) (cap:=len) k f (by simp[dk.addStill]) rfl (by omega) d r (fun i j hi m=>by
  have:=A i j hi m;simp only[World.cell?,sf];have q:=rF hi m;have g:=y (i*k+j);rw[if_pos (by rw[l,cE];rw[u]at q;omega)]at g;rw[show 0+i*k+j=i*k+j by omega];refine⟨?_,this.2⟩;rw[show i*k+j-0*k=i*k+j by omega,this.1]at g;exact g) (fun i hi j m=>(C i hi j m).ext t.toExt)
 rw[u]at this;exact this
theorem Qk{c:dk}{σ:aw}(L:fd M w c σ){T e:TypeId}{k len:Nat}(I:P.underlying T=some (.slice e))(J:(P.info? e).map (·.size)=some k)(b:k≠0)(O:rP P e k=true)(W:len*k≤2^24)
  {vs:List aq} {cvs:List Value} (q:vs.length=len) (d:cvs.length=len) (y:∀i (h:i<vs.length) (U:i<cvs.length),R M w c vs[i] cvs[i]) (t:∀v∈vs,aM v=k) (l:len≠0) {a:Array (Nat×Value)} (K:a.toList=(List.range len).zip cvs) :
  qF M P c w (do pure (.value (←Instr.buildSlice T len a))) (.sl σ.length 0 0 vs.length) (σ++[.arr k 0 vs]):=by
 obtain⟨i,z,X,Y,Z,_,_,Q⟩:=rX O;obtain⟨f,S,D,E⟩:=BD (c:=c) b (by omega) y t;obtain⟨B,u,A,C⟩:=BH k cvs 0 ((Array.range (len*k)).map (z.cells[· % z.cells.size]!)) (fun v N=>by
  obtain⟨j,o,rfl⟩:=cM.1 N;exact I2 (y j (by omega) o) (t _ (aJ _)) b) (by simp;rw[d];exact aF _)
 rw[d,←List.range_eq_range']at u;have x:B.size=len*k:=by rw[A];simp
 have r:¬(len*k=0):=fun e=>(mz.1 e).elim l b
 obtain⟨c',V,F,G,H,m,n⟩:=L.newArr (ep:=0) (T:=e) (es:=vs) (cs:=B) f b t (by rw[x,q];exact aF _)
  (fun i j hi o=>by
   have:=D i j hi o;have s:=rF hi o;have g:=C (i*k+j);rw[if_pos (by rw[d,cE];rw[q]at s;omega),show i*k+j-0*k=i*k+j by omega,this.1]at g;exact⟨g,this.2⟩) E
 refine⟨.value (.slice (some ⟨w.heap.size,0,none⟩) len len),lg w (.cells B e (0,0)),c',_,?_,.inl rfl,m,n,?_⟩
 ·have p:¬(16777216<len*k):=by omega
  simp[Instr.buildSlice,run_underlying I,gf J,Q,K,p,r,newRow,u];rfl
 have:=R.sl (M:=M) (w:=lg w (.cells B e (0,0))) (c:=c') (id:=σ.length) (ep:=0) (off:=0) (len:=len) (cap:=len) (k:=k) (blk:=w.heap.size) (by omega) F G (aF _) (by rw[H,x];simp);rw[q];simpa using this
theorem GG{c:dk}{σ:aw}(e:fd M w c σ){k:Nat}(f:k≠0)(a:Option Addr) :
  ∃c',fd M w c' (σ++[.arr k 0 []])∧iW c w c' w∧R M w c' (.sl σ.length 0 0 0) (.slice a 0 0):=by
 refine⟨c.grow (σ++[.arr k 0 []]) none 0 (c.loops 0),?_,?_,?_⟩
 ·refine e.grow _ _ _ _ (fun _ _=>rfl) (aF _) (fun b d=>by cases d) ⟨f,by simp,fun _=>rfl,fun b d=>by simp[dk.grow,e.N]at d⟩
 ·exact iW.grow e _ _ _ _ (.refl w) (fun _ _=>rfl) (aF _) (fun b d=>by cases d)
 exact .sl0 (by simp[dk.grow]) (show hd (σ++[.arr k 0 []]) σ.length=_ by rw[fe nM])
theorem aiG{c:dk}{σ:aw}(O:fd M w c σ){T e:TypeId}{k:Nat}(K:P.underlying T=some (.slice e))(q:k≠0)(S:rP P e k=true){zero:aq}(u:rn M P e zero=true)(N:aM zero=k){m:Nat}(X:m≤bD)(A:(P.info? e).map (·.size)=some k){k1 k2:IntKind} :
  qF M P c w (do pure (.value (←Instr.makeSlice T (.int k1 m) (.int k2 m)))) (.sl σ.length 0 0 m) (σ++[.arr k 0 (List.replicate m zero)]):=by
 obtain⟨i,z,v,D,U,V,_,Z⟩:=rX S;obtain⟨h,Y,B,C,y3,y4⟩:=so u;rw[v]at B;cases B;rw[D]at C;cases C;have t:i.size=k:=by rw[v]at A;simpa using A
 have J:R M w c zero z:=tt y4;obtain⟨g,y,L,o⟩:=tR J (by omega);have s:bD=68719476736:=rfl;have n:(i.bytes:Int)*(m:Int)≤281474976710656:=by
  have:i.bytes*m≤1024*m:=cu m V;have:i.bytes*m≤281474976710656:=by omega
  rw[←Int.natCast_mul];exact Int.ofNat_le.2 this
 have b:=run_make (P:=P) w T e i z K v D k1 k2 m m (by omega) (Int.le_refl _) n (by omega)
 obtain⟨c',W,G,H,I,d,f⟩:=O.newArr (ep:=0) (T:=e) (es:=List.replicate m zero) (cs:=madeCells z.cells (m*k)) (fun _ j=>g j) q (fun x Q=>by rw[(List.mem_replicate.1 Q).2];exact N) (by simp[size_madeCells])
  (fun h j hi a=>by
   have p:h < m:=by simpa using hi
   have r:=rF p a;have l:(h * k+j)%k=j:=by rw[ij,ml,ll a]
   have E:=o j (by omega);refine⟨?_,y.one j (by omega)⟩;have F:z.cells[j]! = g j:=by rw[getElem!_def,E]
   simp[madeCells,r,U,l,F])
  (fun h hi j a=>by
   have l:(List.replicate m zero)[h]=zero:=kx ..;simp only[l]at a ⊢;exact y.rel j a)
 refine⟨.value (.slice (some ⟨w.heap.size,0,none⟩) m m),_,c',_,?_,.inl rfl,d,f,?_⟩
 ·rw[Sem.run_bind,b];simp[t];rfl
 have:=R.sl (M:=M) (w:=lg w (.cells (madeCells z.cells (m*k)) e (0,0))) (c:=c') (id:=σ.length) (ep:=0) (off:=0) (len:=m) (cap:=m) (k:=k) (blk:=w.heap.size) (by omega) G H (aF _) (by rw[I,size_madeCells];simp);simpa using this
theorem ady{c:dk}{σ:aw}(d:fd M w c σ)(T:TypeId):qF M P c w (do pure (.value (←Instr.makeMap T none))) (.mp σ.length) (σ++[.map []]):=by
 have e:=Ext.grow (w':=lg w (.map #[] 0)) d (.map []) (some w.heap.size) 0 (c.loops 0) (fun b a=>gI a);refine⟨.value (.map (some w.heap.size)),lg w (.map #[] 0),c.grow (σ++[.map []]) (some w.heap.size) 0 (c.loops 0),_,rfl,.inl rfl,?_,?_,?_⟩
 ·refine d.grow _ _ _ _ (fun b a=>gI a) (by rw[fL];omega) (fun b a=>by cases a;rw[fL];omega) ?_;exact⟨w.heap.size,0,#[],fun _=>undef,fun _=>undef,by simp[dk.grow,d.N],sf,rfl,fun i hi=>absurd hi (by simp),fun i hi=>absurd hi (by simp),fun i hi=>absurd hi (by simp)⟩
 ·exact iW.grow d _ _ _ _ pI (fun b a=>gI a) (by rw[fL];omega) (fun b a=>by cases a;exact aF _)
 refine .mp (by simp[dk.grow]) ?_ (by simp[dk.grow,d.N]);show hd (σ++[.map []]) σ.length=_;rw[fe nM]
theorem ajg{c:dk}{σ e:aw}(d:fd M w c σ){x v:aq}{f:Value}(k:R M w c x f)(h:RY σ x=some (v,e)){T:TypeId}(i:P.underlying T=some .string):qF M P c w (do pure (.value (←Instr.range T f))) v e:=by
 unfold RY at h;split at h
 ·rename_i s;cases h;cases k with|@str _ _ t j=>
  have g:=Ext.grow (w':=lg w (.stringIter t 0)) d (.it s 0) (some w.heap.size) 0 (c.loops 0) (fun b a=>gI a);refine⟨.value (.pointer (some ⟨w.heap.size,0,none⟩)),lg w (.stringIter t 0),c.grow (σ++[.it s 0]) (some w.heap.size) 0 (c.loops 0),_,?_,.inl rfl,?_,?_,?_⟩
  ·simp[Instr.range,run_underlying i,newObj,lg,Sem.run]
  ·refine d.grow _ _ _ _ (fun b a=>gI a) (by rw[fL];omega) (fun b a=>by cases a;rw[fL];omega) ?_;exact⟨w.heap.size,t,by simp[dk.grow,d.N],j,sf⟩
  ·exact iW.grow d _ _ _ _ pI (fun b a=>gI a) (by rw[fL];omega) (fun b a=>by cases a;exact aF _)
  refine .it (by simp[dk.grow]) ?_ (by simp[dk.grow,d.N]);show hd (σ++[.it s 0]) σ.length=_;rw[fe nM]
 cases h
theorem acE{c:dk}{σ p:aw}(f:fd M w c σ){x v:aq}{A:Value}(E:R M w c x A)(h:uz σ x=some (v,p)){T:TypeId}:qF M P c w (do pure (.value (←Instr.next A true T))) v p:=by
 unfold uz at h;split at h
 ·rename_i id;split at h
  ·rename_i s pos k;have D:c.H id=.it:=by rw[f.H,fe k]
   have a:c.H id≠.dead:=by rw[D];simp
   obtain⟨b,t,o,u,B⟩:=f.obj id _ k;cases E with
   |itOld F C y=>exact absurd y a
   |it C y z=>
    rw[o]at z;cases z;have n:t.size=s.length:=by rw[←u,cR];rfl
    have r:(⟨s.toArray⟩:ByteArray)=t:=by rw[←u,Array.toArray_toList]
    split at h
    ·rename_i e;cases h;rw[r];have d:u7 w { w with heap:=w.heap.setIfInBounds b (.stringIter t (pos+(Utf8.decode t pos).2)) } b (.stringIter t (pos+(Utf8.decode t pos).2)):=⟨⟨rfl,rfl,rfl,aF _⟩,rfl⟩;have q:=f.plow id b a o;have l:wF M { w with heap:=w.heap.setIfInBounds b (.stringIter t (pos+(Utf8.decode t pos).2)) } c id (.it s (pos+(Utf8.decode t pos).2)):=⟨b,t,o,u,by rw[d.get _ q.1,if_pos rfl]⟩;have j:=(ak.1 k).1;obtain⟨m,g⟩:=f.setObj' k (by simp) (by rw[fe (aW j),fe k]) o d l;refine .of (c':=c) (w':={ w with heap:=w.heap.setIfInBounds b (.stringIter t (pos+(Utf8.decode t pos).2)) }) (cv:=.tuple #[.bool true,.int .i64 pos,.int .i32 (Utf8.decode t pos).1]) ?_ m (iW.setB f a o d g) ?_
     ·simp[Instr.next,getObj,setObj,Sem.run,B,n,e,goInt]
     refine .tup (fun i=>if i=0 then .bool true else if i=1 then .int .i64 pos else .int .i32 (Utf8.decode t pos).1) rfl (fun i hi=>?_) (fun i hi=>?_)
     ·match i,hi with
      |0,_=>rfl
      |1,_=>rfl
      |2,_=>rfl
      |i+3,hi=>exact absurd hi (by simp)
     match i,hi with
     |0,_=>exact .bool
     |1,_=>exact .int
     |2,_=>exact .int
     |i+3,hi=>exact absurd hi (by simp)
    rename_i e;cases h;refine .of (c':=c) (w':=w) (cv:=.tuple #[.bool false]) ?_ f (.refl c w) ?_
    ·simp[Instr.next,getObj,Sem.run,B,n,e]
    refine .tup (fun _=>.bool false) rfl (fun i hi=>?_) (fun i hi=>?_)
    ·have:i=0:=by simpa using hi
     subst this;rfl
    have:i=0:=by simpa using hi
    subst this;exact .bool
  cases h
 cases h
def kG(M:dm)(w:World)(c:dk)(es:List (aq×aq))(en:List MapEntry):Prop:=
 en.length=es.length∧∀i (h:i<es.length),∃e,en[i]?=some e∧lX (es[i]).1=true∧R M w c (es[i]).1 e.key∧R M w c (es[i]).2 e.val
theorem kG.tail{c:dk}{x:aq×aq}{es:List (aq×aq)}{e:MapEntry}{en:List MapEntry}(h:kG M w c (x::es) (e::en)):kG M w c es en:=
 ⟨by simpa using h.1,fun i hi=>by have:=h.2 (i+1) (by simpa using hi);simpa only [eS,eg] using this⟩
theorem kG.head{c:dk}{x:aq×aq}{es:List (aq×aq)}{e:MapEntry}{en:List MapEntry}(h:kG M w c (x::es) (e::en)):lX x.1=true∧R M w c x.1 e.key∧R M w c x.2 e.val:=by
 obtain⟨g,a,b,d,f⟩:=h.2 0 (by simp);simp at a;subst a;exact⟨b,d,f⟩
theorem F6{c:dk}{a b:aq}{f g:Value}(i:R M w c a f)(j:R M w c b g){t:Bool}(h:qK a b=some t){d:TypeDesc}(hd:∃q,d=.int q):Instr.sameNow d g f=some t∧(t=true→a=b):=by
 obtain⟨q,rfl⟩:=hd;unfold qK at h;split at h
 ·split at h
  ·rename_i k;subst k;cases h;cases i;cases j;simp only[Instr.sameNow,cw,aK];exact⟨by rw[eL,aX,aX,eq_comm],fun e=>by rw[aX]at e;rw[e]⟩
  cases h
 cases h
theorem ON{c:dk}{k:aq}{ck:Value}(g:R M w c k ck){d:TypeDesc}(hd:∃q,d=.int q):∀{es:List (aq×aq)} {en:List MapEntry} (n:Nat) {r:Option aq},kG M w c es en→lookup k es=some r →
  (r=none∧Instr.findNow d ck en n=some none)∨∃v i cv,r=some v∧Instr.findNow d ck en n=some (some (i,cv))∧R M w c v cv
 |[],[],n,r,_,h=>by simp only[lookup,aK]at h;exact .inl ⟨h.symm,rfl⟩
 |[],_::_,_,_,h,_=>by simp[kG]at h
 |_::_,[],_,_,h,_=>by simp[kG]at h
 |x::es,e::en,n,r,m,h=>by
  obtain⟨_,l,p⟩:=m.head;simp only[lookup]at h;split at h
  ·rename_i j;obtain⟨a,_⟩:=F6 l g j hd;cases h;exact .inr ⟨_,n,_,rfl,by simp[Instr.findNow,a],p⟩
  ·rename_i j;obtain⟨a,_⟩:=F6 l g j hd;rcases ON g hd (n+1) m.tail h with⟨b,f⟩|⟨v,i,cv,b,f,o⟩
   ·exact .inl ⟨b,by simp[Instr.findNow,a,f]⟩
   exact .inr ⟨v,i,cv,b,by simp[Instr.findNow,a,f],o⟩
  cases h
theorem Me{c:dk}{k:aq}{ck:Value}(a:R M w c k ck)(h:vS k=true):∃q n,k=.int q n∧ck=.int q n:=by
 cases k<;>simp[vS]at h;cases a;exact⟨_,_,rfl,rfl⟩
theorem Ww{k:aq}(h:vS k=true):lX k=true:=by
 cases k<;>first|rfl|(simp[vS]at h)
theorem qH{a:TypeId}{q:IntKind}(hd:P.underlying a=some (.int q))(e:Bool)(n:Nat)(v:Value):(Instr.checkKey e (n+1) a v).run P w=.ok () w:=by
 unfold Instr.checkKey;simp only[Sem.run_bind,run_underlying hd,Result.andThen_ok];cases v<;>rfl
theorem kO{b:TypeId}{d:TypeDesc}{k:Value}{l:List MapEntry}{a:Option (Nat×Value)}(hd:P.underlying b=some d)(h:Instr.findNow d k l 0=some a):(Instr.findKey b k l).run P w=.ok a w:=by
 simp[Instr.findKey,run_underlying hd,h]
theorem TD{c:dk}{σ:aw}(k:fd M w c σ){m:aq}{n:Value}(t:R M w c m n){es:List (aq×aq)}(h:zj σ m=some es) :
  (n=.map none∧es=[])∨∃r en l,n=.map (some r)∧w.heap[r]?=some (.map en l)∧kG M w c es en.toList:=by
 unfold zj at h;split at h
 ·rename_i b es';cases h;cases t with
  |@imap _ _ _ r a en f g u d j x y z=>
   refine .inr ⟨r,en,a,rfl,d,by simpa using j,fun i hi=>?_⟩;obtain⟨e,o,p,q,s⟩:=x i hi;refine⟨e,by simpa using o,s.1,?_,?_⟩
   ·rw[p];exact (y i hi).ext (Ext.ofStill k.sb b)
   rw[q];exact (z i hi).ext (Ext.ofStill k.sb b)
 ·cases h;cases t;exact .inl ⟨rfl,rfl⟩
 ·rename_i id;unfold ic at h;split at h
  ·rename_i es' v;cases h;obtain⟨b,l,en,f,g,B,C,D,E,F,G⟩:=k.obj id _ v;have A:c.H id=.map:=by rw[k.H,fe v]
   cases t with
   |@mp _ _ blk u d j=>
    rw[B]at j;cases j;refine .inr ⟨b,en,l,rfl,C,by simpa using D,fun i hi=>?_⟩;obtain⟨e,o,p,q,s⟩:=E i hi;exact⟨e,by simpa using o,s.1,p▸F i hi,q▸G i hi⟩
   |mpOld H u d=>rw[A]at d;cases d
  cases h
 cases h
theorem nO{r:Nat}{es:Array MapEntry}{a:Nat}(b:w.heap[r]?=some (.map es a)):(getObj r).run P w=.ok (.map es a) w:=by
 simp[getObj,Sem.run,b]
theorem w8{r:Nat}{es:Array MapEntry}{a:Nat}(o:Go.Obj)(b:w.heap[r]?=some (.map es a)):(setObj r o).run P w=.ok () { w with heap:=w.heap.setIfInBounds r o }:=by
 simp[setObj,Sem.run,b]
theorem ais{c:dk}{σ:aw}(F:fd M w c σ){m k:aq}{n ck:Value}(E:R M w c m n)(C:R M w c k ck)(D:vS k=true){es:List (aq×aq)}(h:zj σ m=some es){r:Option aq}(l:lookup k es=some r)
  {T u o:TypeId} {q:IntKind} (j:P.underlying T=some (.map u o)) (a:P.underlying u=some (.int q)) {zero:aq} (G:rn M P o zero=true) (ok:Bool) :
  ∃cv,(Instr.lookup T n ck ok).run P w=.ok cv w∧R M w c (if ok then .tup [r.getD zero,.bool r.isSome] else r.getD zero) cv:=by
 obtain⟨i,z,_,_,y,H⟩:=so G;have f:R M w c zero z:=tt H;have d:∀(x:aq) (e:Value) (t:Bool),R M w c x e→R M w c (if ok then .tup [x,.bool t] else x) (if ok then .tuple #[e,.bool t] else e):=fun x e t s=>by
  cases ok with
  |false=>exact s
  |true=>
   refine .tup (fun i=>if i=0 then e else .bool t) rfl (fun i hi=>?_) (fun i hi=>?_)
   ·simp at hi;have:i=0∨i=1:=by omega
    rcases this with rfl|rfl<;>rfl
   simp at hi;have:i=0∨i=1:=by omega
   rcases this with rfl|rfl
   ·exact s
   exact .bool
 rcases TD F E h with⟨rfl,rfl⟩|⟨b,en,I,rfl,p,B⟩
 ·simp only[lookup,aK]at l;subst l;refine⟨_,?_,d zero z false f⟩;simp[Instr.lookup,run_underlying j,qH a,Instr.findKey,run_underlying a,Instr.findNow,y]
 rcases ON C ⟨q,rfl⟩ 0 B l with⟨rfl,g⟩|⟨v,i,cv,rfl,g,A⟩
 ·refine⟨_,?_,d zero z false f⟩;simp[Instr.lookup,run_underlying j,nO p,qH a,kO a g,y]
 refine⟨_,?_,d v cv true A⟩;simp[Instr.lookup,run_underlying j,nO p,qH a,kO a g]
theorem HI{c:dk}{k v:aq}{ck cv:Value}(j:R M w c k ck)(z:R M w c v cv)(b:vS k=true){d:TypeDesc}(hd:∃q,d=.int q)(a:Nat):∀{es:List (aq×aq)} {en:List MapEntry} (n:Nat) {es':List (aq×aq)},kG M w c es en→mput k v es=some es' →
  (Instr.findNow d ck en n=some none∧kG M w c es' (en++[{ key:=ck,val:=cv,born:=a }])) ∨
  ∃i e f,Instr.findNow d ck en n=some (some (n+i,f))∧en[i]?=some e∧e.key=ck∧kG M w c es' (en.set i { e with key:=ck,val:=cv })
 |[],[],n,_,_,h=>by
  simp only[mput,aK]at h;subst h;refine .inl ⟨rfl,rfl,fun i hi=>?_⟩;have:i=0:=by simp at hi;exact hi
  subst this;exact⟨_,rfl,Ww b,j,z⟩
 |[],_::_,_,_,h,_=>by simp[kG]at h
 |_::_,[],_,_,h,_=>by simp[kG]at h
 |x::es,e::en,n,es',r,h=>by
  obtain⟨C,p,J⟩:=r.head;simp only[mput]at h;split at h
  ·rename_i y;obtain⟨o,E⟩:=F6 p j y hd;cases h;have A:=E rfl;obtain⟨q,m,rfl,rfl⟩:=Me j b;obtain⟨L,K,B,I⟩:=Me p (A▸b);rw[A]at B;cases B;refine .inr ⟨0,e,e.val,by simp[Instr.findNow,o],rfl,I,by simpa using r.1,fun i hi=>?_⟩;cases i with
   |zero=>exact⟨_,rfl,C,by rw[A];exact j,z⟩
   |succ i=>
    have:=r.2 (i+1) (by simpa using hi);simpa only [mU,eS,eg] using this
  ·rename_i y;obtain⟨o,_⟩:=F6 p j y hd;simp only[aT]at h;obtain⟨l,u,rfl⟩:=h
   have cons:∀{g},kG M w c l g→kG M w c (x::l) (e::g):=fun {g} D=>⟨by simpa using D.1,fun i hi=>by
    cases i with
    |zero=>exact⟨_,rfl,C,p,J⟩
    |succ i=>
     have:=D.2 i (by simpa using hi);simpa only [eS,eg] using this⟩
   rcases HI j z b hd a (n+1) r.tail u with⟨s,t⟩|⟨i,H,f,s,t,F,G⟩
   ·exact .inl ⟨by simp[Instr.findNow,o,s],cons t⟩
   exact .inr ⟨i+1,H,f,by simp[Instr.findNow,o,s];omega,by simpa using t,F,by simpa using cons G⟩
  cases h
theorem Yl{c:dk}{σ W:aw}(E:fd M w c σ){m k v:aq}{cm ck cv:Value}(hm:R M w c m cm)(hk:R M w c k ck)(hv:R M w c v cv)(h:PC σ k v m=some W)
  {T kt et:TypeId} {q:IntKind} (hT:P.underlying T=some (.map kt et)) (u:P.underlying kt=some (.int q)) :
  ∃w',(Instr.mapUpdate T cm ck cv).run P w=.ok () w'∧fd M w' c W∧iW c w c w':=by
 unfold PC at h;split at h
 ·rename_i id;simp only[aL]at h;obtain⟨es,Z,h2⟩:=h;split at h2
  ·rename_i N;simp only[aT]at h2;obtain⟨es',h3,rfl⟩:=h2;unfold ic at Z;split at Z
   ·rename_i ah O;cases Z;obtain⟨b,G,en,f,g,V,q2,q3,q4,q5,q6⟩:=E.obj id _ O;have hH:c.H id=.map:=by rw[E.H,fe O]
    have z:kG M w c es en.toList:=⟨by simpa using q3,fun i hi=>by
     obtain⟨e,s,H,I,J⟩:=q4 i hi;exact⟨e,by simpa using s,J.1,H▸q5 i hi,I▸q6 i hi⟩⟩
    have hB:∀e∈en.toList,e.born<G:=fun e z=>by
     obtain⟨i,hi,rfl⟩:=cM.1 z;obtain⟨e',s,_,_,_,e5⟩:=q4 i (by simpa [q3] using hi);rw[cQ (by simpa using hi)]at s;cases s;simpa using e5
    have ad:cm=.map (some b):=by
     cases hm with
     |mp a1 a2 a3=>rw[V]at a3;cases a3;rfl
     |mpOld a0 a1 a2=>rw[hH]at a2;cases a2
    subst ad;have af:=(ak.1 O).1;have K:∀(a:Array MapEntry) (d:Nat),kG M w c es' a.toList→(∀e∈a.toList,e.born<d)→(Instr.mapUpdate T (.map (some b)) ck cv).run P w=.ok () { w with heap:=w.heap.setIfInBounds b (.map a d) } →
      ∃w',(Instr.mapUpdate T (.map (some b)) ck cv).run P w=.ok () w'∧fd M w' c (σ.set id (.map es'))∧iW c w c w':=fun a d t ab S=>by
     have o:u7 w { w with heap:=w.heap.setIfInBounds b (.map a d) } b (.map a d):=⟨⟨rfl,rfl,rfl,aF _⟩,rfl⟩;have r:c.H id≠.dead:=by rw[hH];simp
     have C:=E.plow id b r V;have p:Ext c w c { w with heap:=w.heap.setIfInBounds b (.map a d) }:=⟨fun _ h=>h,fun _ h=>h,fun y hy=>by rw[o.get _ C.1,if_neg (fun e=>by subst e;exact C.2 (hy.elim (fun h=>h) (E.sb _)))],aF _,fun _ _=>.inl rfl,fun _ _ _ _=>⟨rfl,rfl,rfl⟩⟩;have Q:wF M { w with heap:=w.heap.setIfInBounds b (.map a d) } c id (.map es'):=by
      refine⟨b,d,a,fun i=>((a[i]?).map (·.key)).getD undef,fun i=>((a[i]?).map (·.val)).getD undef,V,by rw[o.get _ C.1,if_pos rfl],by simpa using t.1,fun i hi=>?_,fun i hi=>?_,fun i hi=>?_⟩
      ·obtain⟨e,s,H,I,J⟩:=t.2 i hi;have l:a[i]?=some e:=by simpa using s
       exact⟨e,l,by dsimp only;rw[l];rfl,by dsimp only;rw[l];rfl,H,ab e (aN (by simpa using l))⟩
      ·obtain⟨e,s,H,I,J⟩:=t.2 i hi;have l:a[i]?=some e:=by simpa using s
       dsimp only;rw[l];exact I.ext p
      obtain⟨e,s,H,I,J⟩:=t.2 i hi;have l:a[i]?=some e:=by simpa using s
      dsimp only;rw[l];exact J.ext p
     obtain⟨U,_⟩:=E.setObj' O (by simp) (by rw[fe (aW af),fe O]) V o Q;exact⟨_,S,U,iW.setB E r V o p⟩
    rcases HI hk hv N ⟨q,rfl⟩ G 0 z h3 with⟨X,Y⟩|⟨i,e,ag,X,Y,b3,b4⟩
    ·refine K (en.push { key:=ck,val:=cv,born:=G }) (G+1) (by simpa using Y) (fun e z=>by
      simp only[Array.toList_push,ba,aP]at z;rcases z with z|rfl
      ·exact nP (hB e z)
      exact oW _) ?_
     simp[Instr.mapUpdate,run_underlying hT,nO q2,qH u,kO u X,w8 _ q2]
    obtain⟨F,n,rfl,rfl⟩:=Me hk N;rw[cE]at X;have B:en[i]?=some e:=by simpa using Y
    have hi:i<en.size:=(bF.1 B).1;have ae:en[i]=e:=(bF.1 B).2;have A:(en.modify i fun e=>{ e with key:=.int F n,val:=cv }).toList=en.toList.set i { e with key:=.int F n,val:=cv }:=by
     apply eY;intro j;simp only[ff,gw,dx];by_cases L:i=j
     ·subst L;simp[hi,ae]
     simp[L]
    refine K (en.modify i fun e=>{ e with key:=.int F n,val:=cv }) G ?_ (fun x hx=>by
     rw[A]at hx;rcases eV hx with hx|rfl
     ·exact hB x hx
     exact hB e (aN Y)) ?_
    ·rw[A];exact b4
    have D:(Instr.keyThatStays (.int F n) (.int F n)).run P w=.ok (.int F n) w:=by simp[Instr.keyThatStays,Instr.sameBits]
    simp[Instr.mapUpdate,run_underlying hT,nO q2,qH u,kO u X,B,b3,D,w8 _ q2]
   cases Z
  cases h2
 cases h
end Go.AM
namespace Go.AM
variable {M:dm} {w:World} {P:Program}
def ri(P:Program)(T:TypeId)(k:Nat):Bool:=uo P T false 1&&(match P.underlying T with
 |some (.int _)=>k==0
 |some .bool=>k==1
 |some .string=>k==2
 |_=>false)
theorem rz{T:TypeId}(h:uo P T false 1=true){cs:Array Value}{off:Nat}{x:Value}(a:cs[off]?=some x):(part T cs off).run P w=.ok x w:=by
 unfold part;simp[tV h,a]
theorem KA{s t:ByteArray}:(s==t)=(s.data.toList==t.data.toList):=by
 rw[beq_toListBytes];exact NI
theorem Hk{c:dk}{a b:aq}{n o:Value}(i:R M w c a n)(l:R M w c b o){t:Bool}(h:lR a b=some t){T:TypeId}{k:Nat}(f:sR a=k)(e:ri P T k=true)(d:Nat) :
  (Op.equalIn (d+1) T n o).run P w=.ok t w:=by
 unfold ri at e;simp only[ax]at e;obtain⟨_,e⟩:=e;unfold lR at h;split at h
 ·split at h
  ·rename_i m;subst m;cases h;cases i;cases l;simp only[sR]at f;subst f;split at e
   ·rename_i j g;exact run_equalIn_int w d T _ _ _ _ g
   ·cases e
   ·cases e
   cases e
  cases h
 ·cases h;cases i;cases l;simp only[sR]at f;subst f;split at e
  ·cases e
  ·rename_i g;exact run_equalIn_bool w d T _ _ g
  ·cases e
  cases e
 ·cases h;cases i with|str p=>cases l with|str q=>
  simp only[sR]at f;subst f;split at e
  ·cases e
  ·cases e
  ·rename_i g;rw[run_equalIn_string w d T _ _ g,NI,p,q]
  cases e
 cases h
def gi(M:dm)(w:World)(c:dk)(i:Nat)(x:List aq)(xs:Array Value):Prop:=∀j (h:j<x.length),∃v,xs[i+j]?=some v∧R M w c x[j] v
theorem gi.tail{c:dk}{i:Nat}{a:aq}{x:List aq}{xs:Array Value}(h:gi M w c i (a::x) xs):gi M w c (i+1) x xs:=fun j e=>by
 obtain⟨v,b,d⟩:=h (j+1) (by simpa using e);exact⟨v,by rw[←b];congr 1;omega,d⟩
theorem gi.head{c:dk}{i:Nat}{a:aq}{x:List aq}{xs:Array Value}(h:gi M w c i (a::x) xs):∃v,xs[i]?=some v∧R M w c a v:=h 0 (by simp)
def oq(P:Program):Nat→List Field→List Nat→Bool
 |_,[],[]=>true
 | i,f::fs,k::ks=>f.name != "_" && f.offset == i&&ri P f.type k&&oq P (i+1) fs ks
 |_,_,_=>false
theorem BT{c:dk}(d:Nat){xs o:Array Value}:∀(ks:List Nat) (fs:List Field) (i:Nat) (x y:List aq) (t:Bool),oq P i fs ks=true→gi M w c i x xs→gi M w c i y o→eR ks x y=some t →
  (Op.eqFields (d+1) xs o fs).run P w=.ok t w
 |[],[],i,x,y,t,_,_,_,h=>by simp only[eR,aK]at h;subst h;rfl
 |[],_::_,_,_,_,_,h,_,_,_=>by simp[oq]at h
 |_::_,[],_,_,_,_,h,_,_,_=>by simp[oq]at h
 |k::ks,f::fs,i,[],y,t,_,_,_,h=>by simp[eR]at h
 |k::ks,f::fs,i,_::_,[],t,_,_,_,h=>by simp[eR]at h
 |k::ks,f::fs,i,a::x,b::y,t,l,m,n,h=>by
  simp only[oq,ax,gQ,aX]at l;obtain⟨⟨⟨p,q⟩,g⟩,r⟩:=l;have e:uo P f.type false 1=true:=by unfold ri at g;simp only[ax]at g;exact g.1
  simp only[eR]at h;split at h
  ·rename_i v;simp only[aL]at h;obtain⟨D,s,j⟩:=h;obtain⟨E,z,B⟩:=m.head;obtain⟨F,A,C⟩:=n.head;have u:=Hk (P:=P) B C s v g d;subst q;simp only[Op.eqFields,ne_eq,p,kH,cw,Sem.run_bind,rz e z,rz e A,Result.andThen_ok,u,Sem.run_ite];cases D with
   |true=>
    simp only[cw]at j;simpa using BT d ks fs _ x y t r m.tail n.tail j
   |false=>
    simp at j;subst j;simp
  cases h
theorem aaW{T:TypeId}{m:Nat}(h:uo P T true m=true)(cs:Array Value)(off:Nat):(part T cs off).run P w=.ok (.agg (cs.extract off (off+m))) w:=by
 unfold part;simp only[Sem.run_bind,tV h,Result.andThen_ok,cw,gf (wu h),Sem.run_pure]
def YH(P:Program)(i:Nat)(f:Field)(ks:List Nat):Bool:=f.name != "_" && f.offset == i&&uo P f.type true ks.length&&!P.stoodInHeld f.type&&(match P.underlying f.type with
 |some (.struct gs)=>oq P 0 gs.toList ks
 |_=>false)
def uc(P:Program):Nat→List Field→List Nat→Bool
 |_,[],[]=>true
 | i,f::fs,k::ks=>(f.name != "_" && f.offset == i&&ri P f.type k&&uc P (i+1) fs ks) || (fs.isEmpty&&YH P i f (k::ks))
 |_,_,_=>false
theorem gi.extract{c:dk}{i m:Nat}{x:List aq}{xs:Array Value}(h:gi M w c i x xs)(e:x.length≤m):gi M w c 0 x (xs.extract i (i+m)):=fun j d=>by
 obtain⟨v,a,b⟩:=h j d;refine⟨v,?_,b⟩;rw[oQ];have:=(bF.1 a).1;rw[if_pos (by omega),cE];exact a
theorem Dq:∀{ks:List Nat} {x y:List aq},eR ks (x.take ks.length) (y.take ks.length)=eR ks x y
 |[],_,_=>by simp[eR]
 |k::ks,[],y=>by simp[eR]
 |k::ks,a::x,[]=>by simp[eR]
 |k::ks,a::x,b::y=>by simp[eR,Dq]
theorem gi.take{c:dk}{i:Nat}{x:List aq}{xs:Array Value}(h:gi M w c i x xs)(m:Nat):gi M w c i (x.take m) xs:=fun j e=>by
 have a:j<x.length:=by simp at e;omega
 obtain⟨v,b,d⟩:=h j a;exact⟨v,b,by simpa using d⟩
theorem EX{c:dk}(d:Nat){xs D:Array Value}:∀(ks:List Nat) (fs:List Field) (i:Nat) (x y:List aq) (t:Bool),uc P i fs ks=true→gi M w c i x xs→gi M w c i y D→eR ks x y=some t →
  (Op.eqFields (d+2) xs D fs).run P w=.ok t w
 |[],[],i,x,y,t,_,_,_,h=>by simp only[eR,aK]at h;subst h;rfl
 |[],_::_,_,_,_,_,h,_,_,_=>by simp[uc]at h
 |_::_,[],_,_,_,_,h,_,_,_=>by simp[uc]at h
 |k::ks,f::fs,i,[],y,t,_,_,_,h=>by simp[eR]at h
 |k::ks,f::fs,i,_::_,[],t,_,_,_,h=>by simp[eR]at h
 |k::ks,f::fs,i,a::x,b::y,t,e,z,C,h=>by
  simp only[uc,dL]at e;rcases e with e|e
  ·simp only[ax,gQ,aX]at e;obtain⟨⟨⟨q,r⟩,g⟩,s⟩:=e;have o:uo P f.type false 1=true:=by unfold ri at g;simp only[ax]at g;exact g.1
   simp only[eR]at h;split at h
   ·rename_i G;simp only[aL]at h;obtain⟨L,E,p⟩:=h;obtain⟨N,H,J⟩:=z.head;obtain⟨O,I,K⟩:=C.head;have F:=Hk (P:=P) J K E G g (d+1);subst r;simp only[Op.eqFields,ne_eq,q,kH,cw,Sem.run_bind,rz o H,rz o I,Result.andThen_ok,F,Sem.run_ite];cases L with
    |true=>
     simp only[cw]at p;simpa using EX d ks fs _ x y t s z.tail C.tail p
    |false=>
     simp at p;subst p;simp
   cases h
  simp only[YH,ax,gQ,aX,List.isEmpty_iff]at e;obtain⟨rfl,⟨⟨⟨q,r⟩,g⟩,s⟩,u⟩:=e;split at u
  ·rename_i gs l;have v:P.stoodInHeld f.type=false:=by simpa using s
   have j:P.fieldsOf f.type=gs:=by unfold Program.fieldsOf;rw[l]
   have n:∀A B:Array Value,(Op.equalIn (d+2) f.type (.agg A) (.agg B)).run P w=(Op.eqFields (d+1) A B gs.toList).run P w:=fun A B=>by
    rw[run_equalIn_struct w (d+1) f.type A B (by rw[j];exact l) v,j]
   rw[←Dq]at h;have key:=BT d (k::ks) gs.toList 0 _ _ t u ((z.take (k::ks).length).extract (m:=(k::ks).length) (by rw[de];omega)) ((C.take (k::ks).length).extract (m:=(k::ks).length) (by rw[de];omega)) h;subst r;simp only[Op.eqFields,ne_eq,q,kH,cw,Sem.run_bind,aaW g,Result.andThen_ok,n,key,Sem.run_ite];cases t<;>simp
  cases u
theorem JS{c:dk}(d:Nat){xs o:Array Value}{e:TypeId}{k:Nat}(f:ri P e k=true):∀(n i:Nat) (x y:List aq) (t:Bool),gi M w c i x xs→gi M w c i y o→eR (List.replicate n k) x y=some t →
  (Op.eqItems (d+1) e 1 xs o (List.range' i n)).run P w=.ok t w
 |0,i,x,y,t,_,_,h=>by simp only[List.replicate_zero,eR,aK]at h;subst h;rfl
 |n+1,i,[],y,t,_,_,h=>by simp[jv,eR]at h
 |n+1,i,_::_,[],t,_,_,h=>by simp[jv,eR]at h
 |n+1,i,a::x,b::y,t,l,m,h=>by
  have g:uo P e false 1=true:=by unfold ri at f;simp only[ax]at f;exact f.1
  simp only[jv,eR]at h;split at h
  ·rename_i r;simp only[aL]at h;obtain⟨A,p,j⟩:=h;obtain⟨B,s,v⟩:=l.head;obtain⟨C,u,z⟩:=m.head;have q:=Hk (P:=P) v z p r f d;simp only[oV,Op.eqItems,jX,Sem.run_bind,rz g s,rz g u,Result.andThen_ok,q,Sem.run_ite];cases A with
   |true=>
    simp only[cw]at j;simpa using JS d f n (i+1) x y t l.tail m.tail j
   |false=>
    simp at j;subst j;simp
  cases h
def aaE(P:Program)(T:TypeId)(ks:List Nat):Bool:=!P.eqGuardType P.depth T&&(match P.underlying T with
 |some (.struct fs)=>!P.stoodInHeld T&&uc P 0 fs.toList ks
 |some (.array n e)=>(match ks with
  |k::_=>ri P e k&&ks==List.replicate n k
  |[]=>false)
 |_=>false)
theorem oA.from{c:dk}{cs:List aq}{A:Array Value}(h:oA M w c cs A):gi M w c 0 cs A:=fun j d=>by
 obtain⟨v,a,_,b⟩:=h.2 j d;exact⟨v,by rw[cE];exact a,b⟩
theorem acP{c:dk}{a b:List aq}{xs o:Array Value}(l:oA M w c a xs)(m:oA M w c b o){ks:List Nat}{t:Bool}(p:eR ks a b=some t){T:TypeId}(d:aaE P T ks=true) :
  (Op.equalIn 10000 T (.agg xs) (.agg o)).run P w=.ok t w:=by
 unfold aaE at d;simp only[ax]at d;obtain⟨_,d⟩:=d;split at d
 ·rename_i fs j;simp only[ax]at d;have u:P.stoodInHeld T=false:=by simpa using d.1
  have h:P.fieldsOf T=fs:=by unfold Program.fieldsOf;rw[j]
  rw[run_equalIn_struct w 9999 T xs o (by rw[h];exact j) u,h];exact EX 9997 ks fs.toList 0 a b t d.2 l.from m.from p
 ·rename_i n e s;split at d
  ·rename_i k x;simp only[ax,aX]at d;obtain⟨f,q⟩:=d;have v:uo P e false 1=true:=by unfold ri at f;simp only[ax]at f;exact f.1
   have g:=wu v;cases hi:P.info? e with
   |none=>rw[hi]at g;cases g
   |some i=>
    rw[hi]at g;have r:P.cellsOf e=1:=by unfold Program.cellsOf;rw[hi];simpa using g
    rw[run_equalIn_array w 9999 xs o s hi,r,pH];rw[q]at p;exact JS 9998 f n 0 a b t l.from m.from p
  cases d
 cases d
theorem amI{c:dk}{x y v:aq}{g cy:Value}(G:R M w c x g)(H:R M w c y cy){n:Bool}{ks:List Nat}(h:eqa n ks x y=some v){T:TypeId}(d:aaE P T ks=true){op:BinOp}(j:op=if n then .neq else .eql)(m o:Operand) :
  ∃cv,(do eqGuard op T m o g cy;binOp op T g cy:Sem Value).run P w=.ok cv w∧R M w c v cv:=by
 unfold eqa at h;split at h
 ·rename_i a b;simp only[aT]at h;obtain⟨t,E,rfl⟩:=h;have i:=d;unfold aaE at d;simp only[ax]at d;obtain⟨F,d⟩:=d;have e:P.eqGuardType P.depth T=false:=by simpa using F
  cases G with|@agg _ _ xs C p q r s=>cases H with|@agg _ _ f D u z A B=>
  have k:oA M w c a xs:=R.rcells (.agg C p q r s);have l:oA M w c b f:=R.rcells (.agg D u z A B);have key:(Op.equalIn 10000 T (.agg xs) (.agg f)).run P w=.ok t w:=acP k l E i;refine⟨.bool (if n then !t else t),?_,.bool⟩;subst j;cases n
  ·simp only[bq,cH,Sem.run_bind,run_eqGuard_agg w .eql T m o xs f e,Result.andThen_ok,run_eql_struct,key]
  simp only[cw,Sem.run_bind,run_eqGuard_agg w .neq T m o xs f e,Result.andThen_ok,run_neq_struct,key]
 cases h
theorem akS{c:dk}{x y v:aq}{d cy:Value}(j:R M w c x d)(k:R M w c y cy){n:Bool}(h:eqb n x y=some v){T:TypeId}(i:P.underlying T=some .bool){op:BinOp}(e:op=if n then .neq else .eql)(f g:Operand) :
  ∃cv,(do eqGuard op T f g d cy;binOp op T d cy:Sem Value).run P w=.ok cv w∧R M w c v cv:=by
 unfold eqb at h;split at h
 ·cases h;cases j;cases k;rename_i a b;refine⟨.bool (if n then !(a==b) else (a==b)),?_,.bool⟩;have key:(Op.equal T (.bool a) (.bool b)).run P w=.ok (a==b) w:=run_equalIn_bool w 9999 T a b i;subst e;cases n
  ·simp only[bq,cH,Sem.run_bind,vH .eql T f g (.inr (.inr ⟨a,rfl⟩)),Result.andThen_ok];simp[binOp,key]
  simp only[cw,Sem.run_bind,vH .neq T f g (.inr (.inr ⟨a,rfl⟩)),Result.andThen_ok];simp[binOp,key]
 cases h
theorem ajq{c:dk}{σ:aw}(t:fd M w c σ){x v:aq}{f:Value}(m:R M w c x f){n:Bool}(h:ut n σ x=some v){T e:TypeId}(q:P.underlying T=some (.slice e)){op:BinOp}(d:op=if n then .neq else .eql)(o p:Operand) :
  ∃cv,(do eqGuard op T o p f (.slice none 0 0);binOp op T f (.slice none 0 0):Sem Value).run P w=.ok cv w∧R M w c v cv:=by
 have key:∃a l k,f=.slice a l k∧v=neg n a.isNone:=by
  unfold ut at h;split at h
  ·cases h;cases m with|emp h=>exact⟨_,_,_,rfl,by rw[h]⟩
  ·cases h
  split at h
  ·rename_i g _ y z b;cases h;cases m<;>first|(simp[rd]at b;done)|skip
   case str=>exact absurd rfl (g _)
   case aa=>exact⟨_,_,_,rfl,rfl⟩
   case lst=>exact⟨_,_,_,rfl,rfl⟩
   case sl=>exact⟨_,_,_,rfl,rfl⟩
   case sl0 h1 i=>
    simp only[rd]at b;unfold sliceAt at b;split at b
    ·split at b
     ·simp at b
     cases b
    cases b
   case slOld=>
    rename_i i _ _ _ _;simp only[rd]at b;unfold sliceAt at b;split at b
    ·rename_i k e es s;split at b
     ·rename_i u;have:=i k e (by rw[t.H,fe s]);omega
     cases b
    cases b
  cases h
 obtain⟨a,l,k,rfl,rfl⟩:=key;have j:(Op.equal T (.slice a l k) (.slice none 0 0)).run P w=.ok a.isNone w:=by
  unfold Op.equal Op.maxDepth;unfold Op.equalIn;simp only[Sem.run_bind,run_underlying q,Result.andThen_ok];cases a<;>rfl
 have r:(eqGuard op T o p (.slice a l k) (.slice none 0 0)).run P w=.ok () w:=by
  unfold eqGuard;subst d;cases n<;>simp
 refine⟨.bool (if n then !a.isNone else a.isNone),?_,.bool⟩;simp only[Sem.run_bind,r,Result.andThen_ok];subst d;cases n
 ·simp[binOp,j]
 simp[binOp,j]
end Go.AM
