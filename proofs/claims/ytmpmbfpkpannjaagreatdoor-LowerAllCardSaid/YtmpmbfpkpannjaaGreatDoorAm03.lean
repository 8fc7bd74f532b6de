/- Part of the proof. -/
import Derived.Test.YtmpmbfpkpannjaaGreatDoorAm02
import Derived.Laws.Append
import Derived.Laws.MakeOwn
import Derived.Laws.StructEq
import Derived.ChangeKeysEq
set_option linter.unusedVariables false
set_option linter.unusedSimpArgs false
set_option linter.unusedSectionVars false
namespace Go.AM
variable {M:dm} {w:World} {P:Program}
def dk.older(c:dk)(σ:aw)(id:Nat)(p:Option Nat)(room:Nat):dk:=
 { c with H:=hd σ,place:=fun i=>if i=id then p else c.place i,room:=fun i=>if i=id then room else c.room i }
theorem kJ{σ:aw}{o:Obj}{id i:Nat}(h:i≠id):hd (σ.set id o) i=hd σ i:=by
 unfold hd;rw[aD (fun e=>h e.symm)]
theorem fd.older{c:dk}{σ:aw}(f:fd M w c σ){id k ep:Nat}{es es':List aq}(H:σ[id]?=some (.arr k ep es)){p:Option Nat}{room:Nat}{w':World}
  (E:∀b,b<w.heap.size→c.place id≠some b→w'.heap[b]?=w.heap[b]?) (A:w.heap.size≤w'.heap.size) (u:Same w w')
  (B:∀b,p=some b→c.place id=some b∨(w.heap.size≤b∧b<w'.heap.size))
  (y:Ext c w (c.older (σ.set id (.arr k (ep+1) es')) id p room) w'→wA M w' (c.older (σ.set id (.arr k (ep+1) es')) id p room) id (.arr k (ep+1) es')) :
  fd M w' (c.older (σ.set id (.arr k (ep+1) es')) id p room) (σ.set id (.arr k (ep+1) es'))∧iR c w (c.older (σ.set id (.arr k (ep+1) es')) id p room) w':=by
 have F:id<σ.length:=(ak.1 H).1;have g:(σ.set id (.arr k (ep+1) es'))[id]?=some (.arr k (ep+1) es'):=aU F;have G:c.H id=.arr k ep:=by rw[f.H,fe H]
 have a:c.H id≠.dead:=by rw[G];simp
 have s:Ext c w (c.older (σ.set id (.arr k (ep+1) es')) id p room) w':=by
  refine⟨fun _ h=>h,fun _ h=>h,fun b r=>E b ?_ fun e=>?_,aF _,fun i hi=>?_,fun i hi I _=>?_⟩
  ·exact f.low b (r.elim (fun h=>h) (f.sb b))
  ·exact (f.plow id b a e).2 (r.elim (fun h=>h) (f.sb b))
  ·by_cases d:i=id
   ·subst d;refine .inr (.inr ⟨k,ep,ep+1,G,?_,o7 _⟩);show hd _ i=_;rw[fe g]
   left;show c.H i=hd _ i;rw[kJ d,f.H]
  have d:i≠id:=fun e=>by
   subst e;have:(c.older (σ.set i (.arr k (ep+1) es')) i p room).H i=.arr k (ep+1):=by
    show hd _ i=_;rw[fe g]
   rw[this,G]at I;cases I
  simp[dk.older,d]
 have z:iR c w (c.older (σ.set id (.arr k (ep+1) es')) id p room) w':=
  { s with
   same:=u
   size:=A
   frame:=fun b r J=>E b r (J id a)
   old:=fun _ h _=>.inl h
   oldb:=fun _ h _=>.inl h
   liv:=fun i b t m r=>by
    simp only[dk.older]at t m;split at m
    ·rcases B b m with h|h
     ·exact⟨id,a,h⟩
     omega
    rename_i d;exact⟨i,by rw[f.H];rwa [kJ d]at t,m⟩ }
 refine⟨⟨rfl,by rw[show (c.older _ id p room).N=c.N from rfl,f.N];simp,f.sb,fun b r=>bu (f.low b r) A,fun i b t m=>?_,fun i j b hi v q l=>?_,fun i o n=>?_⟩,z⟩
 ·simp only[dk.older]at t m ⊢;split at m
  ·rcases B b m with h|h
   ·obtain⟨D,C⟩:=f.plow id b a h;exact⟨bu D A,C⟩
   exact⟨h.2,fun r=>absurd (f.low b r) (by omega)⟩
  rename_i d;rw[kJ d,←f.H]at t;obtain⟨D,C⟩:=f.plow i b t m;exact⟨bu D A,C⟩
 ·simp only[dk.older]at hi v q l;split at q
  ·split at l
   ·omega
   rename_i t m;rw[kJ m,←f.H]at v;rcases B b q with h|h
   ·exact absurd (f.inj id j b a v h l) (fun e=>m e.symm)
   have:=(f.plow j b v l).1;omega
  rename_i t;rw[kJ t,←f.H]at hi;split at l
  ·rcases B b l with h|h
   ·exact absurd (f.inj id i b a hi h q) (fun e=>t e.symm)
   have:=(f.plow i b hi q).1;omega
  rename_i m;rw[kJ m,←f.H]at v;exact f.inj i j b hi v q l
 by_cases d:i=id
 ·subst d;rw[g]at n;cases n;exact y s
 rw[aD (fun e=>d e.symm)]at n;refine (f.obj i o n).ext s (fun _=>by simp[dk.older,d]) fun x b r=>E b ?_ fun e=>?_
 ·exact (f.plow i b (by rw[f.H];exact fun h=>x ((rO n).1 h)) r).1
 exact d (f.inj i id b (by rw[f.H];exact fun h=>x ((rO n).1 h)) a r e)
theorem WideB.bytes_inj'{a b:ByteArray}(h:a.data=b.data):a=b:=by cases a;cases b;cases h;rfl
def pz(M:dm)(w:World)(c:dk)(k:Nat)(ys:List aq)(A:Array Value):Prop:=
 A.size=ys.length*k∧∃f:Nat→Nat→Value,(∀i j,i<ys.length→j<k→A[i*k+j]?=some (f i j)∧(f i j).oneCell'=true) ∧
  ∀i (hi:i<ys.length) j (hj:j<(cellsOf ys[i]).length),R M w c (cellsOf ys[i])[j] (f i j)
theorem pz.ext{c c':dk}{w':World}{k:Nat}{a:List aq}{A:Array Value}(h:pz M w c k a A)(e:Ext c w c' w'):pz M w' c' k a A:=
 let ⟨l,f,g,d⟩:=h
 ⟨l,f,g,fun i hi j b=>(d i hi j b).ext e⟩
theorem pz.nil{c:dk}{k:Nat}:pz M w c k [] #[]:=⟨by simp,fun _ _=>undef,fun i j hi=>absurd hi (by simp),fun i hi=>absurd hi (by simp)⟩
theorem rC{i j k n:Nat}(hi:i<n)(a:j<k):i*k+j<n*k:=by
 have:(i+1)*k≤n*k:=cu k hi;rw[dN]at this;omega
theorem GH{c:dk}{k n:Nat}(q:k≠0){b o:Nat}{g:List aq}(h:g.length=n)(f:Nat→Nat→Value)
  (r:∀i j,i<n→j<k→w.cell? ⟨b,o+i*k+j,none⟩=some (f i j)∧(f i j).oneCell'=true)
  (v:∀i (hi:i<g.length) j (d:j<(cellsOf g[i]).length),R M w c (cellsOf g[i])[j] (f i j)) :
  ∃A,pz M w c k g A∧∀w',w'.heap=w.heap→(loadCells ⟨b,o,none⟩ (n*k)).run P w'=.ok A w':=by
 have a:∀w':World,w'.heap=w.heap→∀p,p<n*k→w'.cell? ((⟨b,o,none⟩:Addr).add p)=some (f (p/k) (p%k)):=fun w' l p t=>by
  rw[kK];have x:p/k<n:=(kW (gw q)).2 t;have y:p%k<k:=Nat.mod_lt _ (gw q);have:=(r (p/k) (p%k) x y).1;have e:o+p/k*k+p%k=o+p:=by have:=pA p k;rw[iv]at this;omega
  rw[e]at this;simp only[World.cell?,l]at this ⊢;exact this
 refine⟨_,⟨?_,f,fun i j hi d=>⟨?_,(r i j (h▸hi) d).2⟩,v⟩,fun w' l=>run_loadCells w' _ (n*k) (fun p=>f (p/k) (p%k)) (a w' l)⟩
 ·simp[h]
 have m:=rC (n:=n) (h▸hi) d;have u:(i*k+j)/k=i:=by rw[iv,Nat.mul_add_div (gw q),Nat.div_eq_of_lt d];omega
 have s:(i*k+j)%k=j:=by rw[iv,mc,ly d]
 simp[m,u,s]
theorem adh{c:dk}{σ:aw}(D:fd M w c σ){y:aq}{cy:Value}(hy:R M w c y cy){B:List aq}(h:rd σ y=some B){k:Nat}(V:k≠0)(d:∀x∈B,aM x=k) :
  (∀w',(Builtin.lenOf cy).run P w'=.ok B.length w')∧∃A,pz M w c k B A∧∀w',w'.heap=w.heap→(Builtin.firstCells k B.length cy).run P w'=.ok A w':=by
 cases hy with
 |any=>simp[rd]at h
 |int=>simp[rd]at h
 |bool=>simp[rd]at h
 |@emp _ _ cap a _=>
  simp only[rd,aL]at h;subst h;refine⟨fun w'=>rfl,#[],pz.nil,fun w' _=>?_⟩;cases a<;>simp[Builtin.firstCells,loadCells,loadCellsFrom]
 |nilp=>simp[rd]at h
 |nilf=>simp[rd]at h
 |nilm=>simp[rd]at h
 |agg=>simp[rd]at h
 |tup=>simp[rd]at h
 |ptr=>simp[rd]at h
 |ptrOld=>simp[rd]at h
 |cptr=>simp[rd]at h
 |asl=>simp[rd]at h
 |aslOld=>simp[rd]at h
 |fn=>simp[rd]at h
 |imap=>simp[rd]at h
 |mp=>simp[rd]at h
 |mpOld=>simp[rd]at h
 |yld=>simp[rd]at h
 |yldOld=>simp[rd]at h
 |it=>simp[rd]at h
 |itOld=>simp[rd]at h
 |@str _ s t ht=>
  simp only[rd,aL]at h;subst h ht;have H:t.data.toList.length=t.size:=by simp
  simp only[dg,H];refine⟨fun w'=>rfl,(t.data.map fun b=>Value.int .u8 b.toNat),?_,fun w' _=>?_⟩
  rotate_left 1
  ·have n:t.extract 0 t.size=t:=by
    apply WideB.bytes_inj';simp
   simp only[Builtin.firstCells,n];rfl
  by_cases l:t.data.toList=[]
  ·have e:t.data=#[]:=by rw[←Array.toList_eq_nil_iff];exact l
   rw[l,e];simpa using pz.nil
  have I:k=1:=by
   obtain⟨x,n⟩:=gB _ l;exact (d _ (md n)).symm
  subst I;refine⟨by simp,fun i _=>Value.int .u8 (t.data.getD i 0).toNat,fun i j hi p=>?_,fun i hi j p=>?_⟩
  ·have:j=0:=by omega
   subst this;have Q:i<t.data.size:=by simpa using hi
   have e:t.data[i]?=some t.data[i]:=by simp
   simp[e,Value.oneCell']
  have Q:i<t.data.size:=by simpa using hi
  simp only[dn,cellsOf,bA,bD]at p ⊢;have:j=0:=by omega
  subst this;have e:t.data[i]?=some t.data[i]:=by simp
  simp[e];exact .int
 |@aa _ b xs cap a K f C m G U E O S=>
  simp only[rd,aL]at h;subst h;refine⟨fun w'=>rfl,?_⟩;by_cases l:xs=[]
  ·subst l;exact⟨#[],pz.nil,fun w' r=>by simp[Builtin.firstCells,loadCells,loadCellsFrom]⟩
  have z:K=k:=by
   obtain⟨x,n⟩:=gB _ l;rw[←E x n,d x n]
  subst z;obtain⟨blk,o,sp⟩:=a;simp only at m;subst m;exact GH V rfl f O (fun i hi j p=>(S i hi j p).ext (Ext.ofStill D.sb _))
 |@imm0 _ b cap a=>
  simp only[rd,aL]at h;subst h;exact⟨fun w'=>rfl,#[],pz.nil,fun w' r=>by cases a<;>simp[Builtin.firstCells,loadCells,loadCellsFrom]⟩
 |@lst _ xs cap a K f C m G U E O S=>
  simp only[rd,aL]at h;subst h;refine⟨fun w'=>rfl,?_⟩;by_cases l:xs=[]
  ·subst l;exact⟨#[],pz.nil,fun w' r=>by simp[Builtin.firstCells,loadCells,loadCellsFrom]⟩
  have z:K=k:=by
   obtain⟨x,n⟩:=gB _ l;rw[←E x n,d x n]
  subst z;obtain⟨blk,o,sp⟩:=a;simp only at m;subst m;exact GH V rfl f O S
 |@lst0 _ cap a=>
  simp only[rd,aL]at h;subst h;exact⟨fun w'=>rfl,#[],pz.nil,fun w' r=>by cases a<;>simp[Builtin.firstCells,loadCells,loadCellsFrom]⟩
 |@ai _ a=>
  simp only[rd,aL]at h;subst h;exact⟨fun w'=>rfl,#[],pz.nil,fun w' r=>by cases a<;>simp[Builtin.firstCells,loadCells,loadCellsFrom]⟩
 |@sl _ id ep off len cap q blk C m G U E=>
  obtain⟨k2,es,u,X,rfl⟩:=pN h;have N:c.H id=.arr k2 ep:=by rw[D.H,fe u]
  have J:q=k2:=by rw[N]at m;cases m;rfl
  subst J;obtain⟨o1,Z,o3,o4⟩:=D.obj id _ u;obtain⟨cs,T,F,q1,q2,q3,q4,Y⟩:=o4 blk G;have g:((es.drop off).take len).length=len:=by simp;omega
  rw[g];refine⟨fun w'=>rfl,?_⟩;by_cases l:len=0
  ·subst l;exact⟨#[],by simp;exact pz.nil,fun w' r=>by simp[Builtin.firstCells,loadCells,loadCellsFrom]⟩
  have z:q=k:=by
   have W:((es.drop off).take len)[0]'(by omega)∈(es.drop off).take len:=aJ _;rw[←d _ W];exact (Z _ (ej (cT W))).symm
  subst z;refine GH (o:=off*q) V g (fun i j=>F (off+i) j) (fun i j hi p=>?_) (fun i hi j p=>?_)
  ·obtain⟨a1,a2⟩:=q4 (off+i) j (by omega) p;refine⟨?_,a2⟩;simp only[World.cell?,q1];rw[show off*q+i*q+j=(off+i)*q+j by rw[dN]];exact a1
  rw[g]at hi;have e:((es.drop off).take len)[i]'(by rw[g];exact hi)=es[off+i]'(by omega):=by simp
  have L:j<(cellsOf (es[off+i]'(by omega))).length:=by rw[←e];exact p
  have:=Y (off+i) (by omega) j L;simp only[dP,eG];exact this
 |@sl0 _ id ep off q a C m=>
  obtain⟨k2,es,u,X,rfl⟩:=pN h;simp only[List.take_zero,bD];exact⟨fun w'=>rfl,#[],pz.nil,fun w' r=>by cases a<;>simp[Builtin.firstCells,loadCells,loadCellsFrom]⟩
 |@slOld _ id ep off len v l C m G U=>
  obtain⟨k2,es,u,X,rfl⟩:=pN h;have N:c.H id=.arr k2 ep:=by rw[D.H,fe u]
  exact absurd (m _ _ N) (dI _)
theorem Ka(n:Nat):∀(r c:Nat),c≤2*n+192→Builtin.growBy n r c≤2*n+192
 |0,c,h=>h
 |r+1,c,h=>by
  simp only[Builtin.growBy];split
  ·exact h
  exact Ka n r _ (by omega)
theorem xS{n c:Nat}(h:c<n):Builtin.nextslicecap n c≤2*n+192:=by
 unfold Builtin.nextslicecap;split
 ·omega
 split
 ·omega
 exact Ka n 4 c (by omega)
structure aa4 (P:Program) (T U:TypeId) (k:Nat):Prop where
 ex:∃(e:TypeId) (i:TypeInfo) (z:Value) (d:TypeDesc),P.underlying T=some (.slice e)∧P.info? e=some i∧i.size=k∧i.zero=some z∧z.cells.size=k∧i.bytes≤1024∧i.bytes≠0 ∧
  P.underlying U=some d∧(∀q,d≠.int q)
 k0:k≠0
theorem VP{c:dk}{σ:aw}(m:fd M w c σ){x:aq}{i:Value}(o:R M w c x i)(h:Cz σ x=true):∃a n cap,i=.slice a n cap∧n≤cap:=by
 cases o with
 |aa K f g d b=>exact⟨_,_,_,rfl,b⟩
 |imm0=>exact⟨_,_,_,rfl,cK _⟩
 |lst K f g d b=>exact⟨_,_,_,rfl,b⟩
 |lst0=>exact⟨_,_,_,rfl,cK _⟩
 |ai=>exact⟨_,_,_,rfl,cK _⟩
 |sl g d b j=>exact⟨_,_,_,rfl,j⟩
 |sl0=>exact⟨_,_,_,rfl,cK _⟩
 |slOld q g d b j=>
  simp only[Cz,fresh]at h;split at h
  ·rename_i k e es p;have l:=fe p;rw[←m.H]at l;have:=d _ _ l;simp at h;omega
  cases h
 |_=>simp[Cz]at h
theorem Mi{T U ty:TypeId}{k:Nat}(s:aa4 P T U k){a:Option Addr}{n cap m:Nat}{cy:Value}{A:Array Value}{w':World}(p:(Builtin.lenOf cy).run P w=.ok m w)(l:(Builtin.firstCells k m cy).run P w=.ok A w)(c:n+m≤cap)
  (f:∀b,a=some b→(storeCells (b.add (n*k)) A.toList).run P w=.ok () w') (q:a=none→w'=w) :
  (Builtin.append_ #[T,U] ty #[.slice a n cap,cy]).run P w=.ok (.slice a (n+m) cap) w':=by
 obtain⟨⟨e,i,z,d,j,o,h,v,r,y,u,g,t⟩,x⟩:=s;have hd:(match d with|.int _=>true|_=>false)=false:=by cases d<;>first|rfl|exact absurd rfl (t _)
 cases a with
 |none=>
  obtain rfl:=q rfl;simp[Builtin.append_,run_underlying j,run_underlying g,sizeOf,typeInfo,o,h,hd,p,l,c]
 |some b=>
  have:=f b rfl;simp[Builtin.append_,run_underlying j,run_underlying g,sizeOf,typeInfo,o,h,hd,p,l,c,this]
theorem KX{T U ty:TypeId}{k:Nat}(x:aa4 P T U k){a:Option Addr}{n cap m:Nat}{cy:Value}{A B:Array Value}(I:(Builtin.lenOf cy).run P w=.ok m w)
  (F:∀w',w'.heap=w.heap→(Builtin.firstCells k m cy).run P w'=.ok A w') (t:∀w',w'.heap=w.heap→(Builtin.firstCells k n (.slice a n cap)).run P w'=.ok B w') (c:cap<n+m) (p:n+m≤bC) :
  ∃(b:Nat) (r:TypeId) (C:Array Value) (l:World),l.heap=w.heap∧Same w l∧n+m≤b∧C.size=(b - (n+m))*k ∧
   (Builtin.append_ #[T,U] ty #[.slice a n cap,cy]).run P w=.ok (.slice (some ⟨w.heap.size,0,none⟩) (n+m) b) (lj l (.cells (B++A++C) r (0,0))):=by
 obtain⟨⟨e,i,z,d,D,H,v,y,h,G,K,u,E⟩,L⟩:=x;have hd:(match d with|.int _=>true|_=>false)=false:=by cases d<;>first|rfl|exact absurd rfl (E _)
 have M:bC=68719476736:=rfl;have q:¬(n+m≤cap):=by omega
 have f:¬(9223372036854775807<((n:Int)+(m:Int))):=by omega
 have g:¬(281474976710656<Builtin.nextslicecap (n+m) cap*i.bytes):=by
  have s:=xS c;have J:Builtin.nextslicecap (n+m) cap*i.bytes≤(2*(n+m)+192)*1024:=Nat.mul_le_mul s G;omega
 have o:=F w.drew rfl;have j:=t w.drew rfl;refine⟨(Question.appendCap (n+m) cap e).cut (w.tape w.drawn (.appendCap (n+m) cap e)),e,Builtin.zeroCells z.cells ((Question.appendCap (n+m) cap e).cut (w.tape w.drawn (.appendCap (n+m) cap e))-(n+m)),w.drew,rfl,⟨rfl,rfl,rfl,aF _⟩,?_,?_,?_⟩
 rotate_left 2
 ·simp[Builtin.append_,run_underlying D,run_underlying u,sizeOf,typeInfo,zeroValue,H,v,y,I,q,f,g,Question.forced,o,j,newRow];rfl
 ·simp[Question.cut]
 simp[Builtin.zeroCells,h]
theorem pz.append{c:dk}{k:Nat}{xs b:List aq}{A B:Array Value}(q:pz M w c k xs A)(r:pz M w c k b B):pz M w c k (xs++b) (A++B):=by
 obtain⟨d,f,l,p⟩:=q;obtain⟨o,g,n,m⟩:=r;refine⟨by simp[d,o,dN],fun i j=>if i<xs.length then f i j else g (i-xs.length) j,fun i j hi a=>?_,fun i hi j a=>?_⟩
 ·dsimp only;by_cases h:i<xs.length
  ·rw[if_pos h,ee (by rw[d];exact rC h a)];exact l i j h a
  rw[if_neg h,lT (by rw[d];have:xs.length*k≤i*k:=cu k (by omega);omega)];have:=n (i-xs.length) j (by simp at hi;omega) a;rw[d,show i*k+j-xs.length*k=(i-xs.length)*k+j by
   have:i*k=(i-xs.length)*k+xs.length*k:=by rw[←Nat.add_mul];congr 1;omega
   omega]
  exact this
 dsimp only;by_cases h:i<xs.length
 ·rw[if_pos h];have e:(xs++b)[i]=xs[i]:=cq h;simp only[e]at a ⊢;exact p i h j a
 rw[if_neg h];have e:(xs++b)[i]=b[i-xs.length]'(by simp at hi;omega):=cP (by omega);simp only[e]at a ⊢;exact m _ _ j a
theorem iR.ofHeap{c:dk}{w':World}(e:w'.heap=w.heap)(d:Same w w'):iR c w c w':=
 { Ext.heap e with same:=d,size:=by rw[e];exact aF _,frame:=fun b _ _=>by rw[e],liv:=fun id b f a _=>⟨id,f,a⟩,old:=fun _ h _=>.inl h,oldb:=fun _ h _=>.inl h }
theorem ai8{c:dk}{σ:aw}(r:fd M w c σ){id k ep:Nat}{es es':List aq}(q:σ[id]?=some (.arr k ep es)){A C:Array Value}{T:TypeId}(B:k≠0)(d:∀x∈es',aM x=k)(v:pz M w c k es' A){n cap:Nat}(l:es'.length=n)(u:n≤cap)(z:C.size=(cap-n)*k) :
  ∃c',fd M (lj w (.cells (A++C) T (0,0))) c' (σ.set id (.arr k (ep+1) es'))∧iR c w c' (lj w (.cells (A++C) T (0,0))) ∧
   R M (lj w (.cells (A++C) T (0,0))) c' (.sl id (ep+1) 0 n) (.slice (some ⟨w.heap.size,0,none⟩) n cap):=by
 obtain⟨m,f,t,s⟩:=v;have e:id<σ.length:=(ak.1 q).1
 obtain⟨y,D⟩:=r.older q (es':=es') (p:=some w.heap.size) (room:=(A++C).size) (w':=lj w (.cells (A++C) T (0,0))) (fun b a _=>gJ a) (by rw[fO];omega) pP
  (fun b a=>by cases a;exact .inr ⟨aF _,by rw[fO];omega⟩) (fun g=>by
   refine⟨B,d,fun l=>by simp[dk.older]at l,fun b a=>?_⟩;have o:b=w.heap.size:=by simp[dk.older]at a;exact a.symm
   subst o;refine⟨A++C,T,f,rZ,by simp[m],by simp[dk.older],fun i j hi h=>?_,fun i hi j h=>(s i hi j h).ext g⟩;rw[ee (by rw[m];exact rC hi h)];exact t i j hi h)
 refine⟨_,y,D,?_⟩;have E:(c.older (σ.set id (.arr k (ep+1) es')) id (some w.heap.size) (A++C).size).H id=.arr k (ep+1):=by
  show hd _ id=_;rw[fe (aU e)]
 have:=R.sl (M:=M) (w:=lj w (.cells (A++C) T (0,0))) (c:=c.older (σ.set id (.arr k (ep+1) es')) id (some w.heap.size) (A++C).size) (id:=id) (ep:=ep+1) (off:=0) (len:=n) (cap:=cap) (k:=k) (blk:=w.heap.size)
  (by rw[show (c.older _ id _ _).N=c.N from rfl,r.N];exact e) E (by simp[dk.older]) u (by
   simp[dk.older,m,z,l];rw[←Nat.add_mul];apply cu;omega)
 simpa using this
structure aaD (P:Program) (w:World) (T U ty:TypeId) (k:Nat) (cy:Value) (m:Nat) (A:Array Value):Prop where
 room:∀{a:Option Addr} {n cap:Nat} {w':World},n+m≤cap→(∀b,a=some b→(storeCells (b.add (n*k)) A.toList).run P w=.ok () w')→(a=none→w'=w) →
  (Builtin.append_ #[T,U] ty #[.slice a n cap,cy]).run P w=.ok (.slice a (n+m) cap) w'
 grow:∀{a:Option Addr} {n cap:Nat} {B:Array Value},(∀w',w'.heap=w.heap→(Builtin.firstCells k n (.slice a n cap)).run P w'=.ok B w')→cap<n+m→n+m≤bC →
  ∃(cap':Nat) (T':TypeId) (C:Array Value) (w1:World),w1.heap=w.heap∧Same w w1∧n+m≤cap'∧C.size=(cap' - (n+m))*k ∧
   (Builtin.append_ #[T,U] ty #[.slice a n cap,cy]).run P w=.ok (.slice (some ⟨w.heap.size,0,none⟩) (n+m) cap') (lj w1 (.cells (B++A++C) T' (0,0)))
theorem FM{c:dk}{σ aj:aw}(D:fd M w c σ){x v:aq}{cx cy:Value}(W:R M w c x cx){d:List aq}{k:Nat}(X:k≠0)(h:append k x d σ=some (v,aj))
  {T U ty:TypeId} (J:(∀y∈d,aM y=k)→∃A,pz M w c k d A∧aaD P w T U ty k cy d.length A):p5 M P c w (do pure (.value (←Builtin.append_ #[T,U] ty #[cx,cy]))) v aj:=by
 unfold append at h;split at h
 ·
  rename_i al;split at h
  ·rename_i a0;cases h;obtain⟨a,n,cap,rfl,av⟩:=VP D W a0;have a4:d=[]:=da al;subst a4;obtain⟨A,r4,t⟩:=J (by simp);have hA:A=#[]:=by
    have:=r4.1;simp at this;exact this
   subst hA;have:=t.room (a:=a) (n:=n) (cap:=cap) (w':=w) (by simpa using av) (fun b _=>rfl) (fun _=>rfl);exact p5.quiet D (by simpa using this) W
  cases h
 rename_i al;split at h
 ·rename_i Z;have o:∀y∈d,aM y=k:=by simpa [aY] using Z
  obtain⟨A,r4,t⟩:=J o;cases x<;>simp only at h<;>first|(cases h;done)|skip
  case ai=>
   split at h
   ·rename_i H;cases h;cases W with
    |@ai _ a=>
     obtain⟨K,L,C,w1,z,e2,e3,e4,e5⟩:=t.grow (a:=a) (n:=0) (cap:=0) (B:=#[]) (fun w' _=>by cases a<;>simp[Builtin.firstCells,loadCells,loadCellsFrom]) (by omega) (by omega);have N:=D.heap z;obtain⟨S,f,f1,f2⟩:=r4
     obtain⟨c',h1,G,E,h4,ah,ar⟩:=N.newArr (ep:=0) (T:=L) (es:=d) (cs:=#[]++A++C) f X o (by simp;omega)
      (fun i j hi m=>by
       have:=f1 i j hi m;rw[ee (by simp[S];exact rC hi m)];simpa using this)
      (fun i hi j m=>(f2 i hi j m).ext (.heap z))
     have hz:w1.heap.size=w.heap.size:=by rw[z]
     refine p5.of e5 ah (iR.trans (iR.ofHeap z e2) ar) ?_;have:=R.sl (M:=M) (w:=lj w1 (.cells (#[]++A++C) L (0,0))) (c:=c') (id:=σ.length) (ep:=0) (off:=0) (len:=0+d.length) (cap:=K) (by omega) G E e3 (by rw[h4];simp[S,e4];rw[←Nat.add_mul];apply cu;omega);simpa [hz] using this
   cases h
  case sl id ep off n=>
   split at h
   ·rename_i V e es ho;split at h
    ·rename_i O;obtain⟨rfl,rfl,av,rfl,H⟩:=O;cases h;have ad:id<σ.length:=(ak.1 ho).1;have hH:c.H id=.arr V e:=by rw[D.H,fe ho]
     obtain⟨o1,o2,o3,o4⟩:=D.obj id _ ho;have s:∀x∈es.take n++d,aM x=V:=fun x W=>by
      rcases ba.1 W with h|h
      ·exact o2 x (cT h)
      exact o x h
     have l:(es.take n++d).length=n+d.length:=by simp;omega
     have grow:∀(a:Option Addr) (cap:Nat),cap<n+d.length→(∃B,pz M w c V (es.take n) B∧∀w',w'.heap=w.heap→(Builtin.firstCells V n (.slice a n cap)).run P w'=.ok B w') →
       p5 M P c w (do pure (.value (←Builtin.append_ #[T,U] ty #[.slice a n cap,cy]))) (.sl id (e+1) 0 (n+d.length)) (σ.set id (.arr V (e+1) (es.take n++d))):=fun a cap g ⟨B,hB,a8⟩=>by
      obtain⟨K,L,C,w1,z,e2,e3,e4,e5⟩:=t.grow (a:=a) (n:=n) (cap:=cap) a8 g H;have N:=D.heap z;obtain⟨c',h1,G,E⟩:=ai8 (T:=L) N ho (es':=es.take n++d) (A:=B++A) (C:=C) X s ((hB.append r4).ext (.heap z)) l e3 e4;refine p5.of e5 h1 (iR.trans (iR.ofHeap z e2) G) ?_;rw[z]at E;exact E
     cases W with
     |@sl _ _ _ _ _ cap k2 blk h1 G E h4 h5=>
      have a6:k2=V:=by rw[hH]at G;cases G;rfl
      subst a6;obtain⟨cs,L,F,q1,q2,q3,q4,q5⟩:=o4 blk E;have Y:∃B,pz M w c k2 (es.take n) B∧∀w',w'.heap=w.heap→(loadCells ⟨blk,0*k2,none⟩ (n*k2)).run P w'=.ok B w':=
       GH X (by simp;omega) F (fun i j hi m=>by
        obtain⟨a1,a2⟩:=q4 i j (by omega) m;refine⟨?_,a2⟩;simp only[World.cell?,q1];rw[show 0*k2+i*k2+j=i*k2+j by omega];exact a1) (fun i hi j m=>by
        have bc:i<n:=by simp at hi;omega
        have e:(es.take n)[i]=es[i]'(by omega):=by simp
        have u:j<(cellsOf (es[i]'(by omega))).length:=by rw[←e];exact m
        have:=q5 i (by omega) j u;simp only[dP];exact this)
      by_cases g:n+d.length≤cap
      ·obtain⟨S,f,f1,f2⟩:=r4;have ao:cap*k2≤cs.size:=by rw[←q3];simpa using h5
       have an:n*k2+d.length*k2≤cs.size:=by
        rw[←Nat.add_mul];exact bR (cu k2 g) ao
       have ab:∀v∈A.toList,v.oneCell'=true:=fun v hv=>by
        obtain⟨p,hp,rfl⟩:=cM.1 hv;have a3:p<d.length*k2:=by simpa [S] using hp
        have m:=Nat.mod_lt p (gw X);have hi:p/k2<d.length:=(kW (gw X)).2 a3;obtain⟨a1,a2⟩:=f1 (p/k2) (p%k2) hi m;have e:p/k2*k2+p%k2=p:=by rw[iv];exact pA p k2
        rw[e]at a1;have:A.toList[p]=f (p/k2) (p%k2):=by
         rw[cO (by simpa using hp)]at a1;simpa using dW a1
        rw[this];exact a2
       obtain⟨w',cs',g1,g2,g3,g4⟩:=nI (P:=P) blk (n*k2) L A.toList 0 cs w q1 (by simp[S];omega) ab;have af:=(D.plow id blk (by rw[hH];simp) E).1;have ae:∀i j,i<(es.take n++d).length→j<k2→cs'[i*k2+j]?=some (if i<n then F i j else f (i-n) j)∧(if i<n then F i j else f (i-n) j).oneCell'=true:=fun i j hi m=>by
        rw[l]at hi;rw[g4];simp only[eX,cR,S];by_cases r:i<n
        ·have:=rC r m;rw[if_pos r,if_neg (by omega)];exact q4 i j (by omega) m
        have q:i-n<d.length:=by omega
        have:=rC q m;have e:i*k2=(i-n)*k2+n*k2:=by rw[←Nat.add_mul];congr 1;omega
        rw[if_neg r,if_pos (by omega)];have:=f1 (i-n) j q m;simp only[fv];rw[show i*k2+j-n*k2=(i-n)*k2+j by omega];exact this
       obtain⟨h6,h7⟩:=D.older ho (es':=es.take n++d) (p:=some blk) (room:=c.room id) (w':=w') (fun b Q a9=>by rw[g2.get _ af,if_neg (fun e=>a9 (by rw[e];exact E))]) (by rw[g2.size];exact aF _) g2.toSame
        (fun b Q=>by cases Q;exact .inl E) (fun I=>by
         refine⟨X,s,fun hn=>by simp[dk.older]at hn,fun b Q=>?_⟩;have a7:b=blk:=by simp[dk.older]at Q;exact Q.symm
         subst a7;refine⟨cs',L,fun i j=>if i<n then F i j else f (i-n) j,by rw[g2.get _ af,if_pos rfl],by rw[l,g3,dN];exact an,by simp[dk.older,g3,q3],ae,fun i hi j m=>?_⟩;dsimp only;by_cases r:i<n
         ·rw[if_pos r];have e:(es.take n++d)[i]=es[i]'(by omega):=by rw[cq (by simp;omega)];simp
          have u:j<(cellsOf (es[i]'(by omega))).length:=by rw[←e];exact m
          have:=(q5 i (by omega) j u).ext I;simp only[e];exact this
         rw[if_neg r];have q:i-n<d.length:=by rw[l]at hi;omega
         have e:(es.take n++d)[i]=d[i-n]'q:=by
          rw[cP (by simp;omega)];congr 1;simp;omega
         have u:j<(cellsOf (d[i-n]'q)).length:=by rw[←e];exact m
         have:=(f2 (i-n) q j u).ext I;simp only[e];exact this)
       have ag:=t.room (a:=some ⟨blk,0*k2,none⟩) (n:=n) (cap:=cap) (w':=w') g (fun b Q=>by cases Q;rw[kK,mH,cE];exact g1) (fun h=>by cases h);refine p5.of ag h6 h7 ?_;have bb:(c.older (σ.set id (.arr k2 (e+1) (es.take n++d))) id (some blk) (c.room id)).H id=.arr k2 (e+1):=by
        show hd _ id=_;rw[fe (aU ad)]
       exact R.sl (by rw[show (c.older _ id _ _).N=c.N from rfl,D.N];exact ad) bb (by simp[dk.older]) g (by simpa [dk.older] using h5)
      exact grow _ _ (by omega) (by obtain⟨B,b1,b2⟩:=Y;exact⟨B,b1,fun w' a5=>b2 w' a5⟩)
     |@sl0 _ _ _ _ k2 a h1 G=>
      exact grow a 0 (by omega) ⟨#[],by simp;exact pz.nil,fun w' _=>by cases a<;>simp[Builtin.firstCells,loadCells,loadCellsFrom]⟩
     |slOld h0 h1 G=>exact absurd (G _ _ hH) (dI _)
    cases h
   cases h
 cases h
theorem XC{c:dk}{σ b:aw}(o:fd M w c σ){x y v:aq}{j cy:Value}(p:R M w c x j)(q:R M w c y cy){n:List aq}{k:Nat}(e:rd σ y=some n)(h:append k x n σ=some (v,b))
  {T U ty:TypeId} (d:aa4 P T U k):p5 M P c w (do pure (.value (←Builtin.append_ #[T,U] ty #[j,cy]))) v b:=
 FM o p d.k0 h fun a=>
  let ⟨m,A,r,l⟩:=adh o q e d.k0 a
  ⟨A,r,fun f i g=>Mi d (m w) (l w rfl) f i g,fun f i g=>KX d (m w) l f i g⟩
structure ai7 (P:Program) (T U:TypeId) (k:Nat) (e:TypeId) (i:TypeInfo) (z:Value):Prop where
 sl:P.underlying T=some (.slice e)
 info:P.info? e=some i
 size:i.size=k
 zero:i.zero=some z
 cells:z.cells.size=k
 small:i.bytes≤1024
 some_:i.bytes≠0
 int:∃q,P.underlying U=some (.int q)
 k0:k≠0
theorem Y3{T U ty e:TypeId}{k:Nat}{i:TypeInfo}{z:Value}(I:ai7 P T U k e i z){q:IntKind}{m:Nat}(R:m≤bC):aaD P w T U ty k (.int q m) m (Builtin.zeroCells z.cells m):=by
 obtain⟨u,o,F,t,J,D,O,⟨Q,v⟩,L⟩:=I;have A:bC=68719476736:=rfl;have s:IntKind.i64.wrap (m:Int)=m:=by
  simp[IntKind.wrap,IntKind.bits,IntKind.signed];omega
 have d:¬((m:Int)<0):=by omega
 have g:¬(281474976710656<(m:Int)*(i.bytes:Int)):=by
  have:m*i.bytes≤m*1024:=Nat.mul_le_mul_left m D;have:m*i.bytes≤281474976710656:=by omega
  have:=Int.ofNat_le.2 this;rw[Int.natCast_mul]at this;omega
 have M:∀w',(if m*i.size=0 then (pure #[]:Sem (Array Value)) else do pure (Builtin.zeroCells (←zeroValue e).cells m)).run P w'=.ok (Builtin.zeroCells z.cells m) w':=fun w'=>by
  by_cases f:m*i.size=0
  ·rw[if_pos f];have:m=0:=by
    rcases mr.1 f with h|h
    ·exact h
    omega
   subst this;simp[Builtin.zeroCells]
  rw[if_neg f];simp[zeroValue,typeInfo,o,t]
 have N:∀w',m*i.size≠0→(zeroValue e).run P w'=.ok z w':=fun w' _=>by simp[zeroValue,typeInfo,o,t]
 have x:m*i.size=0→Builtin.zeroCells z.cells m=#[]:=fun f=>by
  have:m=0:=by
   rcases mr.1 f with h|h
   ·exact h
   omega
  subst this;simp[Builtin.zeroCells]
 refine⟨fun {a n cap w'} c C y=>?_,fun {a n cap B} H c E=>?_⟩
 ·cases a with
  |none=>
   obtain rfl:=y rfl;by_cases f:m*i.size=0
   ·simp[Builtin.append_,run_underlying u,run_underlying v,sizeOf,typeInfo,o,asInt,asIntOf,s,d,g,c,f]
   simp[Builtin.append_,run_underlying u,run_underlying v,sizeOf,typeInfo,o,asInt,asIntOf,s,d,g,c,f,zeroValue,t]
  |some b=>
   have:=C b rfl;rw[←F]at this;by_cases f:m*i.size=0
   ·have r:((storeCells (b.add (n*i.size)) []).run P w)=.ok () w':=by rw[x f]at this;exact this
    simp[Builtin.append_,run_underlying u,run_underlying v,sizeOf,typeInfo,o,asInt,asIntOf,s,d,g,c,f,r]
   simp[Builtin.append_,run_underlying u,run_underlying v,sizeOf,typeInfo,o,asInt,asIntOf,s,d,g,c,f,zeroValue,t,this]
 have y:¬(n+m≤cap):=by omega
 have j:¬(9223372036854775807<((n:Int)+(m:Int))):=by omega
 have l:¬(281474976710656<Builtin.nextslicecap (n+m) cap*i.bytes):=by
  have G:=xS c;have K:Builtin.nextslicecap (n+m) cap*i.bytes≤(2*(n+m)+192)*1024:=Nat.mul_le_mul G D;omega
 have p:=H w.drew rfl;refine⟨(Question.appendCap (n+m) cap e).cut (w.tape w.drawn (.appendCap (n+m) cap e)),e,Builtin.zeroCells z.cells ((Question.appendCap (n+m) cap e).cut (w.tape w.drawn (.appendCap (n+m) cap e))-(n+m)),w.drew,rfl,⟨rfl,rfl,rfl,aF _⟩,?_,?_,?_⟩
 rotate_left 2
 ·rw[←F]at p;by_cases f:m*i.size=0
  ·simp[Builtin.append_,run_underlying u,run_underlying v,sizeOf,typeInfo,o,asInt,asIntOf,s,d,g,y,j,l,Question.forced,p,newRow,f,zeroValue,t,x f];rfl
  simp[Builtin.append_,run_underlying u,run_underlying v,sizeOf,typeInfo,o,asInt,asIntOf,s,d,g,y,j,l,Question.forced,p,newRow,f,zeroValue,t];rfl
 ·simp[Question.cut]
 simp[Builtin.zeroCells,J]
end Go.AM
namespace Go.AM
variable {M:dm} {w:World} {P:Program}
theorem Ad{c:dk}{σ:aw}(b:fd M w c σ){id ep:Nat}(h:fresh σ id ep=true):∃k es,σ[id]?=some (.arr k ep es)∧c.H id=.arr k ep:=by
 unfold fresh at h;split at h
 ·rename_i k e es a;have:e=ep:=by simpa using h
  subst this;exact⟨k,es,a,by rw[b.H,fe a]⟩
 cases h
theorem zP{c:dk}{σ:aw}(g:fd M w c σ){id ep i o:Nat}{p:Value}(j:R M w c (.ptr id ep i o) p)(f:fresh σ id ep=true) :
  ∃k b,id<c.N∧c.H id=.arr k ep∧c.place id=some b∧p=.pointer (some ⟨b,i*k+o,none⟩):=by
 obtain⟨k,es,m,d⟩:=Ad g f;cases j with
 |ptr e a h=>rw[d]at a;cases a;exact⟨_,_,e,d,h,rfl⟩
 |ptrOld l e a=>exact absurd (a _ _ d) (dI _)
theorem G5{f:Field}{n:Nat}(h:(P.info? f.type).map (·.size)=some n)(b:n≠0)(a:Addr):(fieldPlace a f).run P w=.ok (a.add f.offset) w:=by
 unfold fieldPlace;simp[gi h,b]
theorem ako{c:dk}{σ:aw}(z:fd M w c σ){p v:aq}{q:Value}(m:R M w c p q){S:TypeId}{i off n:Nat}{fs:Array Field}{f:Field}(t:P.underlying S=some (.struct fs))(x:fs[i]?=some f)
  (s:f.offset=off) (r:(P.info? f.type).map (·.size)=some n) (e:n≠0)
  (h:JA σ off p=some v):∃cv,(Instr.fieldAt S q i).run P w=.ok cv w∧R M w c v cv:=by
 have key:∀b o,(Instr.fieldAt S (.pointer (some ⟨b,o,none⟩)) i).run P w=.ok (.pointer (some ⟨b,o+off,none⟩)) w:=fun b o=>by
  unfold Instr.fieldAt Instr.sureAddr;simp only[Sem.run_bind,run_underlying t,Result.andThen_ok,x,Sem.run_pure,G5 r e,kK,s]
 cases p with
 |ptr id ep j o=>
  simp only[JA,CH]at h;split at h
  ·rename_i g;cases h;obtain⟨k,b,d,l,a,rfl⟩:=zP z m g;exact⟨_,key _ _,by rw[dA];exact .ptr d l a⟩
  cases h
 |cptr b y o=>
  cases h;cases m with
  |cptr f d l a u=>exact⟨_,key _ _,by rw[dA];exact .cptr f d l a u⟩
 |_=>cases h
theorem vz{c:dk}{i:aq}{a:Value}{n:Nat}(hi:R M w c i a)(h:rf i=some n):∃k,a=.int k n:=by
 cases hi<;>simp only[rf]at h<;>first|(cases h;done)|skip
 split at h
 ·cases h;rename_i b;exact⟨_,by rw[Int.toNat_of_nonneg b]⟩
 cases h
theorem aho{c:dk}{σ:aw}(z:fd M w c σ){x v:aq}{H G:Value}(A:R M w c x H){n:Nat}(hi:∃k,G=.int k (n:Int)){T e:TypeId}{k:Nat}(N:P.underlying T=some (.slice e))(V:(P.info? e).map (·.size)=some k)(W:k≠0)
  (h:CH σ k n x=some v):∃cv,(Instr.indexAt T H G).run P w=.ok cv w∧R M w c v cv:=by
 obtain⟨L,rfl⟩:=hi;have key:∀(a:Addr) (len cap:Nat),n<len→(Instr.indexAt T (.slice (some a) len cap) (.int L n)).run P w=.ok (.pointer (some (a.add (n*k)))) w:=fun a len cap d=>by
  unfold Instr.indexAt;have E:(0:Int)≤(n:Int)∧(n:Int)<(len:Int):=⟨by omega,by omega⟩;simp only[asIntOf,Sem.run_bind,Sem.run_pure,Result.andThen_ok,run_underlying N,E,and_self,cw,gi V];rfl
 cases x with
 |aa b xs=>
  simp only[CH,aK]at h;obtain⟨y,u,h⟩:=h;split at h
  ·rename_i p;cases h;obtain⟨d,rfl⟩:=ak.1 u;cases A with
   |@aa _ _ _ cap a K f i g C I s r t=>
    obtain⟨blk,o,S⟩:=a;simp only at i g r;subst g;have D:K=k:=by rw[←s _ (aJ d)];exact p
    subst D;refine⟨_,key _ _ _ d,?_⟩;rw[kK]
    have:=R.cptr (M:=M) (w:=w) (c:=c) (b:=b) (x:=xs[n]) (off:=0) (o:=o+n*K) (blk:=blk) (f n) i (by omega) (fun j q=>r n j d (by omega)) (fun j q=>by
     cases b with
     |true=>exact (t n d j q).ext (Ext.ofStill z.sb true)
     |false=>exact t n d j q)
    simpa using this
   |imm0=>simp at d
  cases h
 |lst xs=>
  simp only[CH,aK]at h;obtain⟨y,u,h⟩:=h;split at h
  ·rename_i p;cases h;obtain⟨d,rfl⟩:=ak.1 u;cases A with
   |@lst _ _ cap a K f i g C I s r t=>
    obtain⟨blk,o,S⟩:=a;simp only at i g r;subst g;have D:K=k:=by rw[←s _ (aJ d)];exact p
    subst D;refine⟨_,key _ _ _ d,?_⟩;rw[kK];have:=R.cptr (M:=M) (w:=w) (c:=c) (b:=true) (x:=xs[n]) (off:=0) (o:=o+n*K) (blk:=blk) (f n) (z.sb _ i) (by omega) (fun j q=>r n j d (by omega)) (fun j q=>t n d j q);simpa using this
   |lst0=>simp at d
  cases h
 |sl id ep off m=>
  simp only[JA,CH]at h;split at h
  ·rename_i Q;obtain⟨d,J,U⟩:=Q;cases h;obtain⟨F,es,O,B⟩:=Ad z U;have l:F=k:=by simp only[Yh,O]at J;exact dW J
   subst l;cases A with
   |@sl _ _ _ _ _ cap k2 blk i g C I s=>
    have l:k2=F:=by rw[B]at g;cases g;rfl
    subst l;refine⟨_,key _ _ _ d,?_⟩;rw[kK,←Nat.add_mul];exact R.ptr (off:=0) i B C
   |sl0 i g=>omega
   |slOld E i g=>exact absurd (g _ _ B) (dI _)
  cases h
 |_=>cases h
theorem aij{c:dk}{σ:aw}(A:fd M w c σ){x v:aq}{p l:Value}(q:R M w c x p){n m s:Nat}(hi:∃k,l=.int k (n:Int)){T e:TypeId}(t:P.underlying T=some (.array m e))(B:(P.info? e).map (·.size)=some s)
  (C:n<m) (h:JA σ (n*s) x=some v):∃cv,(Instr.indexAt T p l).run P w=.ok cv w∧R M w c v cv:=by
 obtain⟨r,rfl⟩:=hi;have key:∀(b o:Nat),(Instr.indexAt T (.pointer (some ⟨b,o,none⟩)) (.int r n)).run P w=.ok (.pointer (some ⟨b,o+n*s,none⟩)) w:=fun b o=>by
  unfold Instr.indexAt;have u:(0:Int)≤(n:Int)∧(n:Int)<(m:Int):=⟨by omega,by omega⟩;simp only[asIntOf,Sem.run_bind,Sem.run_pure,Result.andThen_ok,run_underlying t,Instr.sureAddr,u,and_self,cw,gi B];rw[←kK];rfl
 cases x with
 |ptr id ep j o=>
  simp only[JA,CH]at h;split at h
  ·rename_i g;cases h;obtain⟨k,b,d,i,a,rfl⟩:=zP A q g;exact⟨_,key _ _,by rw[dA];exact .ptr d i a⟩
  cases h
 |cptr b y o=>
  cases h;cases q with
  |cptr f d i a z=>exact⟨_,key _ _,by rw[dA];exact .cptr f d i a z⟩
 |_=>cases h
theorem aiA{c:dk}{x v:aq}{n:Value}(y:R M w c x n)(g:Go.AM.isAgg x=true)(k:aM x≠0){T:TypeId}{a:Bool}{s off:Nat}(b:uh P T a s=true)(h:xO a s x off=some v) :
  ∃A cv,n=.agg A∧(part T A off).run P w=.ok cv w∧R M w c v cv:=by
 obtain⟨cs,rfl⟩:=ry g;cases y with
 |@agg _ _ vs f t l B q=>
  by_cases o:cs=[]
  ·subst o;exact absurd rfl (k:aM (.agg [])≠0)
  have e:aM (.agg cs)≠0:=by simp[aM,o]
  obtain⟨i,r⟩:=EO (f:=f) (show uA M w c (.agg cs) f from ⟨fun j p=>(l j p).2,q⟩) e h (fun z=>by subst z;exact zu b);have m:off+s≤cs.length:=i;refine⟨vs,_,rfl,?_,r⟩;unfold part;cases a with
  |true=>
   simp only[Sem.run_bind,uc b,Result.andThen_ok,cw,gi (wq b),Sem.run_pure];congr 2;apply Array.ext
   ·simp;omega
   intro j u d;simp at d;have:=(l (off+j) (by omega)).1;rw[cO (by rw[t];omega)]at this;simp;exact dW this
  |false=>
   obtain rfl:=zu b;simp only[Sem.run_bind,uc b,Result.andThen_ok,bq,cI,(l off (by omega)).1,Sem.run_pure]
theorem XT{c:dk}{σ:aw}(l:fd M w c σ){x:aq}{g:Value}(m:R M w c x g){n:Nat}(h:tI σ x=some n):∃a cap,g=.slice a n cap∧n≤cap:=by
 cases m with
 |aa K f e d b=>simp only[tI,aL]at h;subst h;exact⟨_,_,rfl,b⟩
 |imm0=>simp only[tI,bD,aL]at h;subst h;exact⟨_,_,rfl,cK _⟩
 |lst K f e d b=>simp only[tI,aL]at h;subst h;exact⟨_,_,rfl,b⟩
 |lst0=>simp only[tI,bD,aL]at h;subst h;exact⟨_,_,rfl,cK _⟩
 |ai=>simp only[tI,aL]at h;subst h;exact⟨_,_,rfl,cK _⟩
 |emp _=>simp only[tI,aL]at h;subst h;exact⟨_,_,rfl,cK _⟩
 |sl e d b i=>
  simp only[tI]at h;split at h
  ·cases h;exact⟨_,_,rfl,i⟩
  cases h
 |sl0=>
  simp only[tI]at h;split at h
  ·cases h;exact⟨_,_,rfl,cK _⟩
  cases h
 |slOld p e d=>
  simp only[tI]at h;split at h
  ·rename_i j;obtain⟨k,es,q,o⟩:=Ad l j;exact absurd (d _ _ o) (dI _)
  cases h
 |_=>simp[tI]at h
theorem anD{c:dk}{σ:aw}(d:fd M w c σ){x:aq}{b:Value}(g:R M w c x b){n:Nat}(h:tI σ x=some n){T ty e:TypeId}(f:P.underlying T=some (.slice e)) :
  (Builtin.len_ #[T] ty #[b]).run P w=.ok (.int .i64 n) w:=by
 obtain⟨a,cap,rfl,_⟩:=XT d g h;simp[Builtin.len_,run_underlying f,goInt]
theorem aas{c:dk}{x:aq}{a:Value}(b:R M w c x a){n:Nat}(h:Jn x=some n):∃s t,x=.str s∧a=.string t∧t.data.toList=s∧t.size=n:=by
 cases b with
 |@str _ s t d=>
  simp only[Jn,aL]at h;subst d h;exact⟨_,t,rfl,rfl,rfl,by simp⟩
 |_=>simp[Jn]at h
theorem ahS{c:dk}{x:aq}{a:Value}(e:R M w c x a){n:Nat}(h:Jn x=some n){T ty:TypeId}(d:P.underlying T=some .string) :
  (Builtin.len_ #[T] ty #[a]).run P w=.ok (.int .i64 n) w:=by
 obtain⟨s,t,rfl,rfl,_,b⟩:=aas e h;simp[Builtin.len_,run_underlying d,goInt,b]
theorem JW{k:IntKind}{n y:Nat}{code:BoundsCode}(h:n≤y):(Instr.sliceBound (.int k n) y code).run P w=.ok n w:=by
 rw[run_sliceBound w k n y code (by omega) (by omega)];simp
theorem xd{len cap l h:Nat}{isS:Bool}{lo hi:Option Value}(a:(lo=none∧l=0)∨∃k,lo=some (.int k (l:Int)))(b:(hi=none∧h=len)∨∃k,hi=some (.int k (h:Int)))(d:l≤h)(c:h≤cap) :
  (Instr.sliceBounds isS len cap lo hi none).run P w=.ok (l,h,cap) w:=by
 unfold Instr.sliceBounds;rcases a with⟨rfl,rfl⟩|⟨k,rfl⟩<;>rcases b with⟨rfl,rfl⟩|⟨e,rfl⟩<;>simp[JW d,JW c]
theorem ab9{c:dk}{σ:aw}(hs:fd M w c σ){x v:aq}{cx:Value}(F:R M w c x cx){n l h:Nat}(r:tI σ x=some n){lo hi:Option Value}(X:(lo=none∧l=0)∨∃k,lo=some (.int k (l:Int)))
  (ab:(hi=none∧h=n)∨∃k,hi=some (.int k (h:Int))) {s:Nat} (d:aslice σ s x l h=some v) {T e:TypeId} (hT:P.underlying T=some (.slice e)) (hk:(P.info? e).map (·.size)=some s) :
  ∃cv,(Instr.sliceAt T cx lo hi none).run P w=.ok cv w∧R M w c v cv:=by
 obtain⟨a,cap,rfl,N⟩:=XT hs F r;have g:l≤h→h≤n→(Instr.sliceAt T (.slice a n cap) lo hi none).run P w=.ok (.slice (if cap=l then a else a.map (·.add (l*s))) (h-l) (cap-l)) w:=fun q p=>by
  unfold Instr.sliceAt Instr.slice;simp only[Sem.run_bind,run_underlying hT,Result.andThen_ok,xd X ab q (bR p N),gi hk,Sem.run_pure]
 cases x with
 |aa b xs=>
  simp only[aslice]at d;split at d
  ·rename_i u;obtain⟨J,A,G⟩:=u;cases d;simp only[tI,aL]at r;subst r;refine⟨_,g J A,?_⟩;by_cases E:h=l
   ·subst E;simp;exact .imm0
   rw[if_neg (by omega)];cases F with
   |@aa _ _ _ _ a' K f q p Z Q B L Y=>
    obtain⟨blk,o,sp⟩:=a';simp only at q p L;subst p;have hK:K=s:=by
     have I:xs[l]'(by omega)∈xs:=aJ _;have:=aY.1 G _ I;rw[←B _ I];simpa using this
    subst hK;have D:((xs.drop l).take (h-l)).length=h-l:=by simp;omega
    have:=R.aa (M:=M) (w:=w) (c:=c) (b:=b) (xs:=(xs.drop l).take (h-l)) (cap:=cap-l) (a:=⟨blk,o+l*K,none⟩) K (fun i j=>f (l+i) j) q rfl (by omega) Q (fun y S=>B y (ej (cT S)))
     (fun i j hi t=>by
      have:=L (l+i) j (by omega) t;rw[show o+l*K+i*K+j=o+(l+i)*K+j by rw[dN];omega];exact this)
     (fun i hi j t=>by
      have C:l+i<xs.length:=by omega
      have e:((xs.drop l).take (h-l))[i]=xs[l+i]:=by simp
      have z:j<(cellsOf xs[l+i]).length:=by rw[←e];exact t
      have:=Y (l+i) C j z;simp only[dP,eG];exact this)
    rw[D]at this;simpa [kK] using this
   |imm0=>simp at A;omega
  cases d
 |lst xs=>
  simp only[aslice]at d;split at d
  ·rename_i u;obtain⟨J,A,G⟩:=u;cases d;simp only[tI,aL]at r;subst r;refine⟨_,g J A,?_⟩;by_cases E:h=l
   ·subst E;simp;exact .lst0
   rw[if_neg (by omega)];cases F with
   |@lst _ _ _ a' K f q p Z Q B L Y=>
    obtain⟨blk,o,sp⟩:=a';simp only at q p L;subst p;have hK:K=s:=by
     have I:xs[l]'(by omega)∈xs:=aJ _;have:=aY.1 G _ I;rw[←B _ I];simpa using this
    subst hK;have D:((xs.drop l).take (h-l)).length=h-l:=by simp;omega
    have:=R.lst (M:=M) (w:=w) (c:=c) (xs:=(xs.drop l).take (h-l)) (cap:=cap-l) (a:=⟨blk,o+l*K,none⟩) K (fun i j=>f (l+i) j) q rfl (by omega) Q (fun y S=>B y (ej (cT S)))
     (fun i j hi t=>by
      have:=L (l+i) j (by omega) t;rw[show o+l*K+i*K+j=o+(l+i)*K+j by rw[dN];omega];exact this)
     (fun i hi j t=>by
      have C:l+i<xs.length:=by omega
      have e:((xs.drop l).take (h-l))[i]=xs[l+i]:=by simp
      have z:j<(cellsOf xs[l+i]).length:=by rw[←e];exact t
      have:=Y (l+i) C j z;simp only[dP,eG];exact this)
    rw[D]at this;simpa [kK] using this
   |lst0=>simp at A;omega
  cases d
 |ai=>
  simp only[aslice]at d;split at d
  ·rename_i u;obtain⟨rfl,rfl⟩:=u;cases d;refine⟨_,g (aF _) (cK _),?_⟩;cases F;simp;exact .ai
  cases d
 |sl id ep off m=>
  simp only[aslice]at d;split at d
  ·rename_i u;obtain⟨J,A,G⟩:=u;cases d;simp only[tI]at r;split at r
   ·rename_i hf;obtain⟨k,es,he,O⟩:=Ad hs hf;cases r;have W:k=s:=by simp only[Yh,he]at G;exact dW G
    subst W;refine⟨_,g J A,?_⟩;by_cases H:cap=l
    ·have E:h=l:=by omega
     have U:id<c.N:=by cases F<;>assumption
     subst H E;simp;exact .sl0 U O
    rw[if_neg H];cases F with
    |@sl _ _ _ _ _ _ k2 blk q p Z Q B=>
     have V:k2=k:=by rw[O]at p;cases p;rfl
     subst V;simp only[dK,kK,←Nat.add_mul];exact .sl q O Z (by omega) (by rw[show off+l+(cap-l)=off+cap by omega];exact B)
    |sl0=>omega
    |slOld E q p=>exact absurd (p _ _ O) (dI _)
   cases r
  cases d
 |_=>simp[aslice]at d
end Go.AM
namespace Go.AM
variable {M:dm} {w:World} {P:Program}
def ot(M:dm)(w:World)(c:dk)(env ls:List aq)(rs:Tmp→Option db)(tmps:Array Value):Prop:=
 ∀t o,rs t=some o→R M w c (o.eval env ls) (tmps.getD t undef)
theorem ot.ext{c c':dk}{w':World}{a:Tmp→Option db}{env ls:List aq}{tmps:Array Value}(h:ot M w c env ls a tmps)(d:Ext c w c' w'):ot M w' c' env ls a tmps:=
 fun t o b=>(h t o b).ext d
theorem uC{a:Act}{d t:Tmp}{v:Value}(hd:d<a.tmps.size):(a.put (some d) v).tmps.getD t undef=if t=d then v else a.tmps.getD t undef:=by
 simp only[Act.put,bV,dJ];by_cases h:d=t
 ·subst h;simp[hd]
 have:¬t=d:=fun e=>h e.symm;simp[h,this]
def Mg:aq→aq→Bool
 |.int k n,.int k' n'=>k==k'&&n==n'
 |.bool a,.bool b=>a==b
 |.str a,.str b=>a==b
 |.nilp,.nilp=>true
 |.nilf,.nilf=>true
 |.nilm,.nilm=>true
 |_,_=>false
theorem Su{a b:aq}(h:Mg a b=true):a=b:=by
 cases a<;>cases b<;>simp[Mg]at h<;>first|rfl|(subst h;rfl)|(obtain⟨d,c⟩:=h;subst d c;rfl)
def FE:db→db→Bool
 |.env i,.env j=>i==j
 |.loc i,.loc j=>i==j
 |.val a,.val b=>Mg a b
 |_,_=>false
theorem wi{a b:db}(h:FE a b=true):a=b:=by
 cases a<;>cases b<;>simp[FE]at h<;>first|rw[h]|rw[Su h]
def IE(a b:aq):Bool:=isAgg a&&isAgg b&&(oP (cellsOf a) (cellsOf b)==some true)
theorem Fz{a b:aq}(h:lX a b=some true):a=b:=by
 cases a<;>cases b<;>simp[lX]at h
 ·obtain⟨rfl,rfl⟩:=h;rfl
 ·subst h;rfl
 subst h;rfl
theorem CW:∀{a b:List aq},oP a b=some true→a=b
 |[],[],_=>rfl
 |[],_::_,h=>by simp[oP]at h
 |_::_,[],h=>by simp[oP]at h
 |a::x,b::y,h=>by
  simp only[oP,aK]at h;obtain⟨t,d,c⟩:=h;cases t with
  |true=>rw[Fz d,CW c]
  |false=>simp[aQ]at c
theorem O0{a b:aq}(h:IE a b=true):a=b:=by
 simp only[IE,ax,aX]at h;obtain⟨⟨d,f⟩,e⟩:=h;obtain⟨x,rfl⟩:=ry d;obtain⟨y,rfl⟩:=ry f;have c:oP x y=some true:=e;rw[CW c]
def lZ(M:dm)(rs:Tmp→Option db):Operand→db→Bool
 |.tmp t,x=>match rs t with
  |some o=>FE o x
  |none=>false
 |.const v,.val a=>po M.fm 6 v a
 |.func f,.val (.fn n [] [])=>M.fm n==f
 |.global g,.val (.cptr false a 0)=>match M.glob g with
  |some a'=>IE a' a
  |none=>false
 |_,_=>false
def kS(M:dm)(w:World)(c:dk):Prop:=(∀g a,M.glob g=some a→R M w c (.cptr false a 0) (.pointer (some ⟨g,0,none⟩)))∧M.tabs w c.sld
theorem kS.ext{c c':dk}{w':World}(h:kS M w c)(d:Ext c w c' w'):kS M w' c':=⟨fun g a f=>(h.1 g a f).ext d,M.tabs_ext _ _ _ _ h.2 d.sld fun b e=>d.rest b (.inr e)⟩
theorem Kt{c:dk}{e:Tmp→Option db}{env ls:List aq}{a:Act}(h:ot M w c env ls e a.tmps)(j:kS M w c){x:Operand}{d:db}(b:lZ M e x d=true) :
  R M w c (d.eval env ls) (a.eval x):=by
 unfold lZ at b;split at b
 ·split at b
  ·rename_i o g;have:=wi b;subst this;exact h _ _ g
  cases b
 ·exact tB b
 ·rename_i f n;have:M.fm n=f:=by simpa using b
  subst this;exact .fn (fun _=>undef) (fun _=>undef) rfl rfl (by simp) (by simp) (by simp) (by simp)
 ·split at b
  ·rename_i k i;have:=O0 b;subst this;exact j.1 _ _ i
  cases b
 cases b
structure u6 (F:Fence):Prop where
 fn:∀f,F.fn f
 depth:F.depth=none
 alive:F.alive=false
theorem u6.inRound{F:Fence}(h:u6 F)(l:Nat):u6 (F.inRound l):=⟨h.fn,h.depth,h.alive⟩
theorem p5.wp{F:Fence}{n:Nat}(l:u6 F){c:dk}{o:Oper}{a:Act}{v:aq}{b:aw}(h:p5 M P c w (execOp a.eval o) v b)(hd:∀c,o.op≠.defer c){K:Act→World→Prop}{Q:Exit→Act→World→Prop}
  (e:∀cv w' c',fd M w' c' b→iR c w c' w'→R M w' c' v cv→K (a.put o.dst cv) w'):o.wpIn F n P a w K Q:=by
 obtain⟨nx,w',c',cv,j,k,g,d,i⟩:=h;refine⟨fun f _=>l.fn f,?_⟩;rw[Oper.semAt_eq _ _ _ hd,j];rcases k with rfl|⟨rfl,rfl⟩
 ·exact e cv w' c' g d i
 exact e undef w' c' g d i
end Go.AM
namespace Go.AM
variable {M:dm} {w:World} {P:Program}
def ai1(M:dm)(n0:Nat)(w:World)(c:dk)(k:Nat)(xs:List aq)(cv:Value):Prop:=
 k≠0∧(∀x∈xs,aM x=k) ∧
 ((xs=[]∧∃a,cv=.slice a 0 0) ∨
  ∃(b cap:Nat) (cs:Array Value) (T:TypeId) (f:Nat→Nat→Value),cv=.slice (some ⟨b,0,none⟩) xs.length cap∧n0≤b∧w.heap[b]?=some (.cells cs T (0,0))∧¬c.bor b∧(∀id,c.H id≠.dead→c.place id≠some b) ∧
   xs.length≤cap∧cap*k≤cs.size∧(∀i j,i<xs.length→j<k→cs[i*k+j]?=some (f i j)∧(f i j).oneCell'=true) ∧
   ∀i (hi:i<xs.length) j (hj:j<(cellsOf xs[i]).length),R M w (c.still false) (cellsOf xs[i])[j] (f i j))
inductive RF (M:dm) (n0:Nat) (w:World) (c:dk):aq→Value→Prop
 |r {v cv}:R M w c v cv→RF M n0 w c v cv
 |frs {k xs cv}:ai1 M n0 w c k xs cv→RF M n0 w c (.frs k xs) cv
 |tup {k xs vs cv} {cvs:Array Value} (f:Nat→Value):ai1 M n0 w c k xs cv→cvs.size=vs.length+1→cvs[0]?=some cv→(∀i (h:i<vs.length),cvs[i+1]?=some (f i))→(∀i (h:i<vs.length),R M w c vs[i] (f i)) →
   RF M n0 w c (.tup (.frs k xs::vs)) (.tuple cvs)
theorem fd.stillOld{c:dk}{σ:aw}(d:fd M w c σ){b:Nat}(g:b<w.heap.size)(n:∀id,c.H id≠.dead→c.place id≠some b) :
  fd M w (c.addStill b) σ∧Ext c w (c.addStill b) w:=by
 have a:Ext c w (c.addStill b) w:=⟨fun _ h=>.inl h,fun _ h=>.inl h,fun _ _=>rfl,aF _,fun _ _=>.inl rfl,fun _ _ _ _=>⟨rfl,rfl,rfl⟩⟩;refine⟨⟨d.H,d.N,fun b g=>g.imp (d.sb b) id,fun x f=>?_,fun id x i j=>?_,d.inj,fun id o' m=>(d.obj id o' m).ext a (fun _=>⟨rfl,rfl,rfl⟩) fun _ _ _=>rfl⟩,a⟩
 ·rcases f with f|f
  ·exact d.low x f
  rw[f];exact g
 obtain⟨l,k⟩:=d.plow id x i j;exact⟨l,fun f=>f.elim k (fun e=>n id i (by rw[←e];exact j))⟩
theorem iR.stillOld{c c':dk}{w':World}{b:Nat}(h:iR c w c' w')(g:w.heap.size≤b)(f:Ext c' w' (c'.addStill b) w'):iR c w (c'.addStill b) w':=
 { Ext.trans h.toExt f with same:=h.same,size:=h.size,frame:=h.frame,liv:=h.liv,old:=fun x a d=>a.elim (fun a=>h.old x a d) fun e=>by omega,oldb:=fun x a d=>a.elim (fun a=>h.oldb x a d) fun e=>by omega }
theorem fd.adopt{c A:dk}{w0:World}{σ:aw}(g:fd M w c σ)(a:iR A w0 c w){b k:Nat}{xs:List aq}{cs:Array Value}{T:TypeId}{f:Nat→Nat→Value}(E:w0.heap.size≤b)(B:w.heap[b]?=some (.cells cs T (0,0)))(z:¬c.bor b)(C:∀id,c.H id≠.dead→c.place id≠some b)
  (H:k≠0) (r:∀x∈xs,aM x=k) (u:xs.length*k≤cs.size) (F:∀i j,i<xs.length→j<k→cs[i*k+j]?=some (f i j)∧(f i j).oneCell'=true)
  (G:∀i (hi:i<xs.length) j (q:j<(cellsOf xs[i]).length),R M w c (cellsOf xs[i])[j] (f i j)) :
  ∃c',c'.N=σ.length+1∧c'.H σ.length=.arr k 0∧c'.place σ.length=some b∧c'.room σ.length=cs.size∧fd M w c' (σ++[.arr k 0 xs])∧iR A w0 c' w∧Ext c w c' w:=by
 have v:b<w.heap.size:=(bE.1 B).1;have e:=Ext.grow (w':=w) g (.arr k 0 xs) (some b) cs.size (c.loops 0) (fun _ _=>rfl);have key:∀i,hd (σ++[.arr k 0 xs]) i≠.dead→i≠c.N→c.H i≠.dead:=fun i hi d=>by
  have p:i<σ.length:=by
   have:=Jg hi;rw[g.N]at d;simp at this;omega
  rwa [ue p,←g.H]at hi
 refine⟨c.grow (σ++[.arr k 0 xs]) (some b) cs.size (c.loops 0),by simp[dk.grow],?_,by simp[dk.grow,g.N],by simp[dk.grow,g.N],?_,?_,e⟩
 ·show hd (σ++[.arr k 0 xs]) σ.length=_;rw[fe oD]
 ·refine⟨rfl,rfl,g.sb,g.low,fun id x n l=>?_,fun i j x hi q m h=>?_,fun id o s=>?_⟩
  ·simp only[dk.grow]at n l ⊢;split at l
   ·cases l;exact⟨v,z⟩
   rename_i d;exact g.plow id x (key id n d) l
  ·simp only[dk.grow]at hi q m h;split at m
   ·split at h
    ·omega
    rename_i n l;cases m;exact absurd h (C j (key j q l))
   rename_i n;split at h
   ·cases h;exact absurd m (C i (key i hi n))
   rename_i l;exact g.inj i j x (key i hi n) (key j q l) m h
  by_cases p:id<σ.length
  ·rw[aS p]at s;have d:id≠c.N:=by rw[g.N];omega
   exact (g.obj id o s).ext e (fun _=>by simp[dk.grow,d]) fun _ _ _=>rfl
  have:id=σ.length:=by
   have:=(ak.1 s).1;simp at this;omega
  subst this;rw[oD]at s;cases s;refine⟨H,r,fun D=>by simp[dk.grow,g.N]at D,fun x t=>?_⟩;have y:x=b:=by simp[dk.grow,g.N]at t;exact t.symm
  subst y;exact⟨cs,T,f,B,u,by simp[dk.grow,g.N],F,fun i hi j q=>(G i hi j q).ext e⟩
 exact { Ext.trans a.toExt e with
  same:=a.same
  size:=a.size
  frame:=a.frame
  old:=a.old
  oldb:=a.oldb
  liv:=fun id x n l t=>by
   simp only[dk.grow]at n l;split at l
   ·cases l;omega
   rename_i d;exact a.liv id x (key id n d) l t }
theorem G3{s c:dk}{w0:World}{σ:aw}(l:fd M w c σ)(d:iR s w0 c w){v:aq}{cv:Value}(L:RF M w0.heap.size w c v cv)(y:∀vs,v≠.tup vs)(g:Bool) :
  ∃c',fd M w c' (vO g v σ).2∧iR s w0 c' w∧Ext c w c' w∧R M w c' (vO g v σ).1 cv:=by
 cases L with
 |r h=>
  have e:vO g v σ=(v,σ):=by
   cases h<;>rfl
  rw[e];exact⟨c,l,d,.refl c w,h⟩
 |tup f h=>exact absurd rfl (y _)
 |@frs k xs _ h=>
  obtain⟨E,m,h⟩:=h;cases g with
  |true=>
   show ∃c',fd M w c' (σ++[.arr k 0 xs])∧iR s w0 c' w∧Ext c w c' w∧R M w c' (.sl σ.length 0 0 xs.length) cv;rcases h with⟨rfl,a,rfl⟩|⟨b,cap,cs,T,f,rfl,C,u,G,B,t,x,z,D⟩
   ·
    have p:=Ext.grow (w':=w) l (.arr k 0 []) none 0 (c.loops 0) (fun _ _=>rfl);refine⟨c.grow (σ++[.arr k 0 []]) none 0 (c.loops 0),?_,?_,p,?_⟩
    ·refine l.grow _ _ _ _ (fun _ _=>rfl) (aF _) (fun b q=>by cases q) ⟨E,by simp,fun _=>rfl,fun b q=>by simp[dk.grow,l.N]at q⟩
    ·exact iR.trans d (iR.grow l _ _ _ _ (.refl w) (fun _ _=>rfl) (aF _) (fun b q=>by cases q))
    exact .sl0 (by simp[dk.grow]) (show hd (σ++[.arr k 0 []]) σ.length=_ by rw[fe oD])
   obtain⟨c',F,n,K,H,J,I,N⟩:=l.adopt d C u G B E m (bR (cu k t) x) z (fun i hi j o=>(D i hi j o).ext (Ext.ofStill l.sb false));refine⟨c',J,I,N,?_⟩;have:=R.sl (M:=M) (w:=w) (c:=c') (id:=σ.length) (ep:=0) (off:=0) (len:=xs.length) (cap:=cap) (k:=k) (blk:=b) (by omega) n K t (by rw[H];simpa using x);simpa using this
  |false=>
   show ∃c',fd M w c' σ∧iR s w0 c' w∧Ext c w c' w∧R M w c' (.aa false xs) cv;rcases h with⟨rfl,a,rfl⟩|⟨b,cap,cs,T,f,rfl,C,u,G,B,t,x,z,D⟩
   ·exact⟨c,l,d,.refl c w,.imm0⟩
   have A:b<w.heap.size:=(bE.1 u).1;obtain⟨F,n⟩:=l.stillOld A B;refine⟨c.addStill b,F,d.stillOld C n,n,?_⟩
   exact R.aa (a:=⟨b,0,none⟩) k f (by simp[dk.addStill]) rfl t E m (fun i j hi o=>by
    have:=z i j hi o;simp only[World.cell?,u,cE];exact this) (fun i hi j o=>(D i hi j o).ext (n.still false))
theorem acI{t c:dk}{w0:World}{σ:aw}(p:fd M w c σ)(b:iR t w0 c w){v:aq}{cv:Value}(y:RF M w0.heap.size w c v cv)(a:Bool) :
  ∃c',fd M w c' (mater a (v,σ)).2∧iR t w0 c' w∧R M w c' (mater a (v,σ)).1 cv:=by
 by_cases x:∃vs,v=.tup vs
 ·obtain⟨vs,rfl⟩:=x;cases vs with
  |nil=>
   cases y with
   |r h=>exact⟨c,p,b,h⟩
  |cons l vs=>
   show ∃c',fd M w c' (vO a l σ).2∧iR t w0 c' w∧R M w c' (.tup ((vO a l σ).1::vs)) cv;cases y with
   |r h=>
    cases h with
    |@tup _ _ cvs f q s o=>
     have A:=o 0 (by simp);simp only[cV]at A;have g:(∃d,l=.tup d)∨∀d,l≠.tup d:=by
      by_cases h:∃d,l=.tup d
      ·exact .inl h
      exact .inr fun d e=>h ⟨d,e⟩
     rcases g with⟨d,rfl⟩|g
     ·exact⟨c,p,b,.tup f q s o⟩
     obtain⟨c',n,j,u,m⟩:=G3 p b (.r A) g a;refine⟨c',n,j,.tup f (by simpa using q) (fun i hi=>s i (by simpa using hi)) (fun i hi=>?_)⟩;cases i with
     |zero=>exact m
     |succ i=>exact (o (i+1) (by simpa using hi)).ext u
   |@tup k xs _ z cvs f h q s o B=>
    obtain⟨c',n,j,u,m⟩:=G3 p b (.frs h) (by intro d e;cases e) a;refine⟨c',n,j,.tup (fun i=>if i=0 then z else f (i-1)) (by simpa using q) (fun i hi=>?_) (fun i hi=>?_)⟩
    ·cases i with
     |zero=>exact s
     |succ i=>simpa using o i (by simpa using hi)
    cases i with
    |zero=>exact m
    |succ i=>
     have:=(B i (by simpa using hi)).ext u;simpa using this
 obtain⟨c',n,j,_,m⟩:=G3 p b y (fun vs e=>x ⟨vs,e⟩) a;have e:mater a (v,σ)=vO a v σ:=by
  unfold mater;cases v<;>first|rfl|exact absurd ⟨_,rfl⟩ x
 rw[e];exact⟨c',n,j,m⟩
def rM(F:Fence)(n:Nat)(P:Program)(f:FuncId)(cargs:Array Value)(w:World)(R:Value→World→Prop):Prop:=
 ((callFunc f cargs).run P w=.ok (.enter f cargs) w∧CallsIn F n P f cargs w fun e w'=>∃cv,e=.returned cv∧R cv w') ∨
 ∃cv w',(callFunc f cargs).run P w=.ok (.value cv) w'∧R cv w'
def lQ(M:dm)(w:World)(c:dk)(args:List aq)(cargs:Array Value):Prop:=
 cargs.size=args.length∧∀i (h:i<args.length),∃x,cargs[i]?=some x∧R M w c args[i] x
def ig(M:dm)(c:dk)(w:World)(σ':aw)(v:aq)(cv:Value)(w':World):Prop:=
 ∃c',fd M w' c' σ'∧iR c w c' w'∧RF M w.heap.size w' c' v cv
def lN(M:dm)(P:Program)(C:ir):Prop:=
 ∀f args σ v σ',C f args σ=some (v,σ')→∀(F:Fence) (n:Nat) (w:World) (c:dk) (cargs:Array Value),u6 F→fd M w c σ→kS M w c→lQ M w c args cargs →
  rM F n P (M.fm f) cargs w (ig M c w σ' v)∧((∃a∈args,yI a=false)→∀(cargs':Array Value) (w':World),(callFunc (M.fm f) cargs').run P w'=.ok (.enter (M.fm f) cargs') w')
def kY(M:dm)(P:Program)(C:ir):Prop:=
 ∀site l env args σ v σ',C site (.frs l []::env++args) σ=some (v,σ')→∀(F:Fence) (n:Nat) (w:World) (c:dk) (cargs:Array Value) (x:Value),u6 F→fd M w c σ→kS M w c→lQ M w c args cargs→pD σ l=true →
  R M w c (.yld l site env) x→∃b tmps w1,x=.func (.yield b) #[] #[]∧(Instr.yield b cargs).run P w=.ok (.round b (c.loops l).fn tmps (c.loops l).assign (c.loops l).body) w1 ∧
   RoundIn F n P b (c.loops l).fn tmps (c.loops l).assign (c.loops l).body w1 fun e w'=>∃cv,e=.returned cv∧ig M c w σ' v cv w'
theorem rM.wp{F:Fence}{n:Nat}(l:u6 F){f:FuncId}{b:Array Value}{o:Oper}{a:Act}{j:Value→World→Prop}(h:∀n,rM F n P f b w j)(q:execOp a.eval o=callFunc f b)(hd:∀c,o.op≠.defer c)
  {K:Act→World→Prop} {Q:Exit→Act→World→Prop} (k:∀cv w',j cv w'→K (a.put o.dst cv) w'):o.wpIn F n P a w K Q:=by
 refine⟨fun f _=>l.fn f,?_⟩;rw[Oper.semAt_eq _ _ _ hd,q];rcases h (n-1) with⟨g,i⟩|⟨cv,w',g,i⟩
 ·rw[g];refine⟨fun p=>absurd p (by rw[l.depth];simp),i.mono fun e w' ⟨cv,d,m⟩=>?_⟩;subst d;exact k cv w' m
 rw[g];exact k cv w' i
theorem ig.mater{c:dk}{b:aw}{v:aq}{cv:Value}{w':World}(h:ig M c w b v cv w')(a:Bool) :
  ∃c',fd M w' c' (mater a (v,b)).2∧iR c w c' w'∧R M w' c' (mater a (v,b)).1 cv:=
 let ⟨_,d,f,e⟩:=h
 acI d f e a
theorem Yq{c:dk}{g:Tmp→Option db}{env ls:List aq}{a:Act}(h:ot M w c env ls g a.tmps)(f:kS M w c):∀{xs:List Operand} {b:List db},xs.length=b.length→((xs.zip b).all fun p=>lZ M g p.1 p.2)=true →
  ∀i (h:i<b.length),∃x,(xs.map a.eval)[i]?=some x∧R M w c (b[i].eval env ls) x
 |[],[],_,_,i,hi=>absurd hi (by simp)
 |[],_::_,e,_,_,_=>by simp at e
 |_::_,[],e,_,_,_=>by simp at e
 |x::xs,j::b,e,d,i,hi=>by
  simp only[fV,lJ,ax]at d;cases i with
  |zero=>exact⟨_,rfl,Kt h f d.1⟩
  |succ i=>simpa using Yq h f (by simpa using e) d.2 i (by simpa using hi)
end Go.AM
namespace Go.AM
variable (M:dm) (P:Program) (rs:Tmp→Option db)
def Dn(T:TypeId)(k:Nat):Bool:=(P.info? T).map (·.size)==some k&&k != 0
def rH(T:TypeId)(z:aq):Bool:=match (P.info? T).map (·.zero) with
 |some (some v)=>po M.fm 8 v z
 |_=>false
def rQ(T:TypeId)(k:Nat):Bool:=match (P.info? T).map fun i=>(i.zero,i.bytes) with
 |some (some v,b)=>v.cells.size==k&&decide (b≤1024)&&b != 0
 |_=>false
def oB(T:TypeId):Option TypeId:=match P.underlying T with
 |some (.slice e)=>some e
 |_=>none
def abe(T:TypeId):Bool:=match P.underlying T with
 |some (.int _)=>false
 |some _=>true
 |none=>false
def Vq(T:TypeId)(k:IntKind):Bool:=match P.underlying T with
 |some (.int j)=>j==k
 |_=>false
def Bw(T:TypeId):Bool:=match P.underlying T with
 |some (.int _)=>true
 |_=>false
def Ih(T:TypeId):Bool:=match P.underlying T with
 |some .string=>true
 |_=>false
def FK:Option Operand→Option db→Bool
 |none,none=>true
 |some x,some x'=>lZ M rs x x'
 |_,_=>false
def ya(xs:List Operand)(xs':List db):Bool:=xs.length==xs'.length&&(xs.zip xs').all fun p=>lZ M rs p.1 p.2
def vy(place:Nat→Option (Nat×Nat)):List (Nat×Operand)→List (Nat×Nat×db)→Bool
 |[],[]=>true
 |(i,x)::ps,(off,s,x')::qs=>place i==some (off,s)&&lZ M rs x x'&&vy place ps qs
 |_,_=>false
def GR(S:TypeId)(i:Nat):Option Field:=match P.underlying S with
 |some (.struct fs)=>fs[i]?
 |_=>none
end Go.AM
namespace Go.AM
variable {M:dm} {w:World} {P:Program}
theorem lY{T:TypeId}{k:Nat}(h:Dn P T k=true):(P.info? T).map (·.size)=some k∧k≠0:=by
 simpa [Dn] using h
theorem gG{T e:TypeId}(h:oB P T=some e):P.underlying T=some (.slice e):=by
 unfold oB at h;split at h
 ·cases h;assumption
 cases h
theorem sm{T:TypeId}{z:aq}(h:rH M P T z=true):∃i v,P.info? T=some i∧i.zero=some v∧(∀w,(zeroValue T).run P w=.ok v w)∧po M.fm 8 v z=true:=by
 unfold rH at h;unfold zeroValue typeInfo;cases hq:P.info? T with
 |none=>simp[hq]at h
 |some i=>
  simp only[hq,dK]at h;cases hz:i.zero with
  |none=>simp[hz]at h
  |some v=>
   rw[hz]at h;exact⟨i,v,rfl,hz,fun w=>by simp[hq,hz],h⟩
theorem sf{T:TypeId}{k:Nat}(h:rQ P T k=true):∃i z,P.info? T=some i∧i.zero=some z∧z.cells.size=k∧i.bytes≤1024∧i.bytes≠0∧∀w,(zeroValue T).run P w=.ok z w:=by
 unfold rQ at h;cases hq:P.info? T with
 |none=>simp[hq]at h
 |some i=>
  simp only[hq,dK]at h;cases hz:i.zero with
  |none=>simp[hz]at h
  |some v=>
   rw[hz]at h;simp only[ax,aX,cd,gT]at h;exact⟨i,v,rfl,hz,h.1.1,h.1.2,h.2,fun w=>by simp[zeroValue,typeInfo,hq,hz]⟩
theorem Hp{c:dk}{v:aq}{cv:Value}(h:R M w c v cv){k:Nat}(a:aM v=k)(b:k≠0):cv.cells.size=k:=by
 obtain⟨_,_,d,_⟩:=tO h (by omega);omega
theorem MG{c:dk}{σ:aw}(J:fd M w c σ){T e:TypeId}{k len:Nat}(D:P.underlying T=some (.slice e))(K:(P.info? e).map (·.size)=some k)(d:k≠0)(y:rQ P e k=true)(U:len*k≤2^24)
  {vs:List aq} {cvs:List Value} (x:vs.length=len) (l:cvs.length=len) (t:∀i (h:i<vs.length) (O:i<cvs.length),R M w c vs[i] cvs[i]) (o:∀v∈vs,aM v=k) (n:len≠0) {b:Array (Nat×Value)} (E:b.toList=(List.range len).zip cvs) :
  p5 M P c w (do pure (.value (←Instr.buildSlice T len b))) (.lst vs) σ:=by
 obtain⟨i,z,Q,V,S,_,_,C⟩:=sf y;obtain⟨f,N,A,H⟩:=BS (c:=c) d (by omega) t o;obtain⟨B,s,L,F⟩:=BJ k cvs 0 ((Array.range (len*k)).map (z.cells[· % z.cells.size]!)) (fun v G=>by
  obtain⟨j,m,rfl⟩:=cM.1 G;exact Hp (t j (by omega) m) (o _ (aJ _)) d) (by simp;rw[l];exact aF _)
 rw[l,←List.range_eq_range']at s;obtain⟨I,u⟩:=J.addStill (.cells B e (0,0));have p:¬(len*k=0):=fun e=>(mr.1 e).elim n d;refine⟨.value (.slice (some ⟨w.heap.size,0,none⟩) len len),lj w (.cells B e (0,0)),c.addStill w.heap.size,_,?_,.inl rfl,I,u,?_⟩
 ·have r:¬(16777216<len*k):=by omega
  simp[Instr.buildSlice,run_underlying D,gi K,C,E,r,p,newRow,s];rfl
 have:=R.lst (M:=M) (w:=lj w (.cells B e (0,0))) (c:=c.addStill w.heap.size) (xs:=vs) (a:=⟨w.heap.size,0,none⟩) (cap:=len) k f (by simp[dk.addStill]) rfl (by omega) d o (fun i j hi m=>by
  have:=A i j hi m;simp only[World.cell?,rZ];have q:=rC hi m;have g:=F (i*k+j);rw[if_pos (by rw[l,cE];rw[x]at q;omega)]at g;rw[show 0+i*k+j=i*k+j by omega];refine⟨?_,this.2⟩;rw[show i*k+j-0*k=i*k+j by omega,this.1]at g;exact g) (fun i hi j m=>(H i hi j m).ext u.toExt)
 rw[x]at this;exact this
theorem Rt{c:dk}{σ:aw}(N:fd M w c σ){T e:TypeId}{k len:Nat}(F:P.underlying T=some (.slice e))(O:(P.info? e).map (·.size)=some k)(b:k≠0)(A:rQ P e k=true)(Y:len*k≤2^24)
  {vs:List aq} {cvs:List Value} (t:vs.length=len) (d:cvs.length=len) (y:∀i (h:i<vs.length) (U:i<cvs.length),R M w c vs[i] cvs[i]) (p:∀v∈vs,aM v=k) (l:len≠0) {a:Array (Nat×Value)} (H:a.toList=(List.range len).zip cvs) :
  p5 M P c w (do pure (.value (←Instr.buildSlice T len a))) (.sl σ.length 0 0 vs.length) (σ++[.arr k 0 vs]):=by
 obtain⟨i,z,V,Z,X,_,_,D⟩:=sf A;obtain⟨f,S,C,L⟩:=BS (c:=c) b (by omega) y p;obtain⟨B,u,E,I⟩:=BJ k cvs 0 ((Array.range (len*k)).map (z.cells[· % z.cells.size]!)) (fun v K=>by
  obtain⟨j,o,rfl⟩:=cM.1 K;exact Hp (y j (by omega) o) (p _ (aJ _)) b) (by simp;rw[d];exact aF _)
 rw[d,←List.range_eq_range']at u;have x:B.size=len*k:=by rw[E];simp
 have q:¬(len*k=0):=fun e=>(mr.1 e).elim l b
 obtain⟨c',W,Q,G,J,n,m⟩:=N.newArr (ep:=0) (T:=e) (es:=vs) (cs:=B) f b p (by rw[x,t];exact aF _)
  (fun i j hi o=>by
   have:=C i j hi o;have r:=rC hi o;have g:=I (i*k+j);rw[if_pos (by rw[d,cE];rw[t]at r;omega),show i*k+j-0*k=i*k+j by omega,this.1]at g;exact⟨g,this.2⟩) L
 refine⟨.value (.slice (some ⟨w.heap.size,0,none⟩) len len),lj w (.cells B e (0,0)),c',_,?_,.inl rfl,n,m,?_⟩
 ·have s:¬(16777216<len*k):=by omega
  simp[Instr.buildSlice,run_underlying F,gi O,D,H,s,q,newRow,u];rfl
 have:=R.sl (M:=M) (w:=lj w (.cells B e (0,0))) (c:=c') (id:=σ.length) (ep:=0) (off:=0) (len:=len) (cap:=len) (k:=k) (blk:=w.heap.size) (by omega) Q G (aF _) (by rw[J,x];simp);rw[t];simpa using this
theorem Gp{c:dk}{σ:aw}(e:fd M w c σ){k:Nat}(f:k≠0)(a:Option Addr) :
  ∃c',fd M w c' (σ++[.arr k 0 []])∧iR c w c' w∧R M w c' (.sl σ.length 0 0 0) (.slice a 0 0):=by
 refine⟨c.grow (σ++[.arr k 0 []]) none 0 (c.loops 0),?_,?_,?_⟩
 ·refine e.grow _ _ _ _ (fun _ _=>rfl) (aF _) (fun b d=>by cases d) ⟨f,by simp,fun _=>rfl,fun b d=>by simp[dk.grow,e.N]at d⟩
 ·exact iR.grow e _ _ _ _ (.refl w) (fun _ _=>rfl) (aF _) (fun b d=>by cases d)
 exact .sl0 (by simp[dk.grow]) (show hd (σ++[.arr k 0 []]) σ.length=_ by rw[fe oD])
theorem aia{c:dk}{σ:aw}(Q:fd M w c σ){T e:TypeId}{k:Nat}(J:P.underlying T=some (.slice e))(v:k≠0)(H:rQ P e k=true){zero:aq}(r:rH M P e zero=true)(F:aM zero=k){m:Nat}(Z:m≤bC)(C:(P.info? e).map (·.size)=some k){k1 k2:IntKind} :
  p5 M P c w (do pure (.value (←Instr.makeSlice T (.int k1 m) (.int k2 m)))) (.sl σ.length 0 0 m) (σ++[.arr k 0 (List.replicate m zero)]):=by
 obtain⟨i,z,u,D,O,I,_,W⟩:=sf H;obtain⟨h,X,A,B,y3,y4⟩:=sm r;rw[u]at A;cases A;rw[D]at B;cases B;have q:i.size=k:=by rw[u]at C;simpa using C
 have V:R M w c zero z:=tB y4;obtain⟨g,y,L,l⟩:=tO V (by omega);have n:bC=68719476736:=rfl;have o:(i.bytes:Int)*(m:Int)≤281474976710656:=by
  have:i.bytes*m≤1024*m:=cu m I;have:i.bytes*m≤281474976710656:=by omega
  rw[←Int.natCast_mul];exact Int.ofNat_le.2 this
 have b:=run_make (P:=P) w T e i z J u D k1 k2 m m (by omega) (Int.le_refl _) o (by omega)
 obtain⟨c',Y,U,K,N,f,d⟩:=Q.newArr (ep:=0) (T:=e) (es:=List.replicate m zero) (cs:=madeCells z.cells (m*k)) (fun _ j=>g j) v (fun x S=>by rw[(List.mem_replicate.1 S).2];exact F) (by simp[size_madeCells])
  (fun h j hi a=>by
   have p:h < m:=by simpa using hi
   have s:=rC p a;have t:(h * k+j)%k=j:=by rw[iv,mc,ly a]
   have G:=l j (by omega);refine⟨?_,y.one j (by omega)⟩;have E:z.cells[j]! = g j:=by rw[getElem!_def,G]
   simp[madeCells,s,O,t,E])
  (fun h hi j a=>by
   have t:(List.replicate m zero)[h]=zero:=kD ..;simp only[t]at a ⊢;exact y.rel j a)
 refine⟨.value (.slice (some ⟨w.heap.size,0,none⟩) m m),_,c',_,?_,.inl rfl,f,d,?_⟩
 ·rw[Sem.run_bind,b];simp[q];rfl
 have:=R.sl (M:=M) (w:=lj w (.cells (madeCells z.cells (m*k)) e (0,0))) (c:=c') (id:=σ.length) (ep:=0) (off:=0) (len:=m) (cap:=m) (k:=k) (blk:=w.heap.size) (by omega) U K (aF _) (by rw[N,size_madeCells];simp);simpa using this
theorem ab1{c:dk}{σ:aw}(d:fd M w c σ)(T:TypeId):p5 M P c w (do pure (.value (←Instr.makeMap T none))) (.mp σ.length) (σ++[.map []]):=by
 have e:=Ext.grow (w':=lj w (.map #[] 0)) d (.map []) (some w.heap.size) 0 (c.loops 0) (fun b a=>gJ a);refine⟨.value (.map (some w.heap.size)),lj w (.map #[] 0),c.grow (σ++[.map []]) (some w.heap.size) 0 (c.loops 0),_,rfl,.inl rfl,?_,?_,?_⟩
 ·refine d.grow _ _ _ _ (fun b a=>gJ a) (by rw[fO];omega) (fun b a=>by cases a;rw[fO];omega) ?_;exact⟨w.heap.size,0,#[],fun _=>undef,fun _=>undef,by simp[dk.grow,d.N],rZ,rfl,fun i hi=>absurd hi (by simp),fun i hi=>absurd hi (by simp),fun i hi=>absurd hi (by simp)⟩
 ·exact iR.grow d _ _ _ _ pP (fun b a=>gJ a) (by rw[fO];omega) (fun b a=>by cases a;exact aF _)
 refine .mp (by simp[dk.grow]) ?_ (by simp[dk.grow,d.N]);show hd (σ++[.map []]) σ.length=_;rw[fe oD]
theorem air{c:dk}{σ e:aw}(d:fd M w c σ){x v:aq}{f:Value}(k:R M w c x f)(h:QV σ x=some (v,e)){T:TypeId}(j:P.underlying T=some .string):p5 M P c w (do pure (.value (←Instr.range T f))) v e:=by
 unfold QV at h;split at h
 ·rename_i s;cases h;cases k with|@str _ _ t i=>
  have g:=Ext.grow (w':=lj w (.stringIter t 0)) d (.it s 0) (some w.heap.size) 0 (c.loops 0) (fun b a=>gJ a);refine⟨.value (.pointer (some ⟨w.heap.size,0,none⟩)),lj w (.stringIter t 0),c.grow (σ++[.it s 0]) (some w.heap.size) 0 (c.loops 0),_,?_,.inl rfl,?_,?_,?_⟩
  ·simp[Instr.range,run_underlying j,newObj,lj,Sem.run]
  ·refine d.grow _ _ _ _ (fun b a=>gJ a) (by rw[fO];omega) (fun b a=>by cases a;rw[fO];omega) ?_;exact⟨w.heap.size,t,by simp[dk.grow,d.N],i,rZ⟩
  ·exact iR.grow d _ _ _ _ pP (fun b a=>gJ a) (by rw[fO];omega) (fun b a=>by cases a;exact aF _)
  refine .it (by simp[dk.grow]) ?_ (by simp[dk.grow,d.N]);show hd (σ++[.it s 0]) σ.length=_;rw[fe oD]
 cases h
theorem act{c:dk}{σ p:aw}(f:fd M w c σ){x v:aq}{A:Value}(D:R M w c x A)(h:uz σ x=some (v,p)){T:TypeId}:p5 M P c w (do pure (.value (←Instr.next A true T))) v p:=by
 unfold uz at h;split at h
 ·rename_i id;split at h
  ·rename_i s pos j;have E:c.H id=.it:=by rw[f.H,fe j]
   have a:c.H id≠.dead:=by rw[E];simp
   obtain⟨b,t,g,r,B⟩:=f.obj id _ j;cases D with
   |itOld F C y=>exact absurd y a
   |it C y z=>
    rw[g]at z;cases z;have k:t.size=s.length:=by rw[←r,cR];rfl
    have u:(⟨s.toArray⟩:ByteArray)=t:=by rw[←r,Array.toArray_toList]
    split at h
    ·rename_i e;cases h;rw[u];have d:uW w { w with heap:=w.heap.setIfInBounds b (.stringIter t (pos+(Utf8.decode t pos).2)) } b (.stringIter t (pos+(Utf8.decode t pos).2)):=⟨⟨rfl,rfl,rfl,aF _⟩,rfl⟩;have q:=f.plow id b a g;have l:wA M { w with heap:=w.heap.setIfInBounds b (.stringIter t (pos+(Utf8.decode t pos).2)) } c id (.it s (pos+(Utf8.decode t pos).2)):=⟨b,t,g,r,by rw[d.get _ q.1,if_pos rfl]⟩;have m:=(ak.1 j).1;obtain⟨n,o⟩:=f.setObj' j (by simp) (by rw[fe (aU m),fe j]) g d l;refine .of (c':=c) (w':={ w with heap:=w.heap.setIfInBounds b (.stringIter t (pos+(Utf8.decode t pos).2)) }) (cv:=.tuple #[.bool true,.int .i64 pos,.int .i32 (Utf8.decode t pos).1]) ?_ n (iR.setB f a g d o) ?_
     ·simp[Instr.next,getObj,setObj,Sem.run,B,k,e,goInt]
     refine .tup (fun i=>if i=0 then .bool true else if i=1 then .int .i64 pos else .int .i32 (Utf8.decode t pos).1) rfl (fun i hi=>?_) (fun i hi=>?_)
     ·match i,hi with
      |0,_=>rfl
      |1,_=>rfl
      |2,_=>rfl
      |i+3,hi=>exact absurd hi (by simp)
     match i,hi with
     |0,_=>exact .bool
     |1,_=>exact .int
     |2,_=>exact .int
     |i+3,hi=>exact absurd hi (by simp)
    rename_i e;cases h;refine .of (c':=c) (w':=w) (cv:=.tuple #[.bool false]) ?_ f (.refl c w) ?_
    ·simp[Instr.next,getObj,Sem.run,B,k,e]
    refine .tup (fun _=>.bool false) rfl (fun i hi=>?_) (fun i hi=>?_)
    ·have:i=0:=by simpa using hi
     subst this;rfl
    have:i=0:=by simpa using hi
    subst this;exact .bool
  cases h
 cases h
def kR(M:dm)(w:World)(c:dk)(es:List (aq×aq))(en:List MapEntry):Prop:=
 en.length=es.length∧∀i (h:i<es.length),∃e,en[i]?=some e∧ma (es[i]).1=true∧R M w c (es[i]).1 e.key∧R M w c (es[i]).2 e.val
theorem kR.tail{c:dk}{x:aq×aq}{es:List (aq×aq)}{e:MapEntry}{en:List MapEntry}(h:kR M w c (x::es) (e::en)):kR M w c es en:=
 ⟨by simpa using h.1,fun i hi=>by have:=h.2 (i+1) (by simpa using hi);simpa only [eT,eg] using this⟩
theorem kR.head{c:dk}{x:aq×aq}{es:List (aq×aq)}{e:MapEntry}{en:List MapEntry}(h:kR M w c (x::es) (e::en)):ma x.1=true∧R M w c x.1 e.key∧R M w c x.2 e.val:=by
 obtain⟨g,a,f,d,b⟩:=h.2 0 (by simp);simp at a;subst a;exact⟨f,d,b⟩
theorem GI{c:dk}{a b:aq}{f g:Value}(i:R M w c a f)(j:R M w c b g){t:Bool}(h:qH a b=some t){d:TypeDesc}(hd:∃q,d=.int q):Instr.sameNow d g f=some t∧(t=true→a=b):=by
 obtain⟨q,rfl⟩:=hd;unfold qH at h;split at h
 ·split at h
  ·rename_i k;subst k;cases h;cases i;cases j;simp only[Instr.sameNow,cw,aL];exact⟨by rw[eM,aX,aX,eq_comm],fun e=>by rw[aX]at e;rw[e]⟩
  cases h
 cases h
theorem N2{c:dk}{k:aq}{ck:Value}(g:R M w c k ck){d:TypeDesc}(hd:∃q,d=.int q):∀{es:List (aq×aq)} {en:List MapEntry} (n:Nat) {r:Option aq},kR M w c es en→lookup k es=some r →
  (r=none∧Instr.findNow d ck en n=some none)∨∃v i cv,r=some v∧Instr.findNow d ck en n=some (some (i,cv))∧R M w c v cv
 |[],[],n,r,_,h=>by simp only[lookup,aL]at h;exact .inl ⟨h.symm,rfl⟩
 |[],_::_,_,_,h,_=>by simp[kR]at h
 |_::_,[],_,_,h,_=>by simp[kR]at h
 |x::es,e::en,n,r,m,h=>by
  obtain⟨_,l,p⟩:=m.head;simp only[lookup]at h;split at h
  ·rename_i j;obtain⟨a,_⟩:=GI l g j hd;cases h;exact .inr ⟨_,n,_,rfl,by simp[Instr.findNow,a],p⟩
  ·rename_i j;obtain⟨a,_⟩:=GI l g j hd;rcases N2 g hd (n+1) m.tail h with⟨f,b⟩|⟨v,i,cv,f,b,o⟩
   ·exact .inl ⟨f,by simp[Instr.findNow,a,b]⟩
   exact .inr ⟨v,i,cv,f,by simp[Instr.findNow,a,b],o⟩
  cases h
theorem Nv{c:dk}{k:aq}{ck:Value}(a:R M w c k ck)(h:vW k=true):∃q n,k=.int q n∧ck=.int q n:=by
 cases k<;>simp[vW]at h;cases a;exact⟨_,_,rfl,rfl⟩
theorem Wb{k:aq}(h:vW k=true):ma k=true:=by
 cases k<;>first|rfl|(simp[vW]at h)
theorem qP{a:TypeId}{q:IntKind}(hd:P.underlying a=some (.int q))(e:Bool)(n:Nat)(v:Value):(Instr.checkKey e (n+1) a v).run P w=.ok () w:=by
 unfold Instr.checkKey;simp only[Sem.run_bind,run_underlying hd,Result.andThen_ok];cases v<;>rfl
theorem kL{b:TypeId}{d:TypeDesc}{k:Value}{l:List MapEntry}{a:Option (Nat×Value)}(hd:P.underlying b=some d)(h:Instr.findNow d k l 0=some a):(Instr.findKey b k l).run P w=.ok a w:=by
 simp[Instr.findKey,run_underlying hd,h]
theorem Tu{c:dk}{σ:aw}(k:fd M w c σ){m:aq}{t:Value}(s:R M w c m t){es:List (aq×aq)}(h:yw σ m=some es) :
  (t=.map none∧es=[])∨∃r en p,t=.map (some r)∧w.heap[r]?=some (.map en p)∧kR M w c es en.toList:=by
 unfold yw at h;split at h
 ·rename_i b es';cases h;cases s with
  |@imap _ _ _ r a en f g v d j C F x=>
   refine .inr ⟨r,en,a,rfl,d,by simpa using j,fun i hi=>?_⟩;obtain⟨e,q,n,l,o⟩:=C i hi;refine⟨e,by simpa using q,o.1,?_,?_⟩
   ·rw[n];exact (F i hi).ext (Ext.ofStill k.sb b)
   rw[l];exact (x i hi).ext (Ext.ofStill k.sb b)
 ·cases h;cases s;exact .inl ⟨rfl,rfl⟩
 ·rename_i id;unfold ip at h;split at h
  ·rename_i es' u;cases h;obtain⟨b,p,en,f,g,y,A,D,B,z,E⟩:=k.obj id _ u;have G:c.H id=.map:=by rw[k.H,fe u]
   cases s with
   |@mp _ _ blk v d j=>
    rw[y]at j;cases j;refine .inr ⟨b,en,p,rfl,A,by simpa using D,fun i hi=>?_⟩;obtain⟨e,q,n,l,o⟩:=B i hi;exact⟨e,by simpa using q,o.1,n▸z i hi,l▸E i hi⟩
   |mpOld H v d=>rw[G]at d;cases d
  cases h
 cases h
theorem nR{r:Nat}{es:Array MapEntry}{a:Nat}(b:w.heap[r]?=some (.map es a)):(getObj r).run P w=.ok (.map es a) w:=by
 simp[getObj,Sem.run,b]
theorem xj{r:Nat}{es:Array MapEntry}{a:Nat}(o:Go.Obj)(b:w.heap[r]?=some (.map es a)):(setObj r o).run P w=.ok () { w with heap:=w.heap.setIfInBounds r o }:=by
 simp[setObj,Sem.run,b]
theorem aiL{c:dk}{σ:aw}(F:fd M w c σ){m k:aq}{y ck:Value}(H:R M w c m y)(G:R M w c k ck)(E:vW k=true){es:List (aq×aq)}(h:yw σ m=some es){r:Option aq}(l:lookup k es=some r)
  {T p n:TypeId} {q:IntKind} (g:P.underlying T=some (.map p n)) (a:P.underlying p=some (.int q)) {zero:aq} (A:rH M P n zero=true) (ok:Bool) :
  ∃cv,(Instr.lookup T y ck ok).run P w=.ok cv w∧R M w c (if ok then .tup [r.getD zero,.bool r.isSome] else r.getD zero) cv:=by
 obtain⟨i,z,_,_,o,B⟩:=sm A;have f:R M w c zero z:=tB B;have d:∀(x:aq) (e:Value) (t:Bool),R M w c x e→R M w c (if ok then .tup [x,.bool t] else x) (if ok then .tuple #[e,.bool t] else e):=fun x e t s=>by
  cases ok with
  |false=>exact s
  |true=>
   refine .tup (fun i=>if i=0 then e else .bool t) rfl (fun i hi=>?_) (fun i hi=>?_)
   ·simp at hi;have:i=0∨i=1:=by omega
    rcases this with rfl|rfl<;>rfl
   simp at hi;have:i=0∨i=1:=by omega
   rcases this with rfl|rfl
   ·exact s
   exact .bool
 rcases Tu F H h with⟨rfl,rfl⟩|⟨b,en,I,rfl,u,D⟩
 ·simp only[lookup,aL]at l;subst l;refine⟨_,?_,d zero z false f⟩;simp[Instr.lookup,run_underlying g,qP a,Instr.findKey,run_underlying a,Instr.findNow,o]
 rcases N2 G ⟨q,rfl⟩ 0 D l with⟨rfl,j⟩|⟨v,i,cv,rfl,j,C⟩
 ·refine⟨_,?_,d zero z false f⟩;simp[Instr.lookup,run_underlying g,nR u,qP a,kL a j,o]
 refine⟨_,?_,d v cv true C⟩;simp[Instr.lookup,run_underlying g,nR u,qP a,kL a j]
theorem IF{c:dk}{k v:aq}{ck cv:Value}(j:R M w c k ck)(z:R M w c v cv)(b:vW k=true){d:TypeDesc}(hd:∃q,d=.int q)(a:Nat):∀{es:List (aq×aq)} {en:List MapEntry} (n:Nat) {es':List (aq×aq)},kR M w c es en→mput k v es=some es' →
  (Instr.findNow d ck en n=some none∧kR M w c es' (en++[{ key:=ck,val:=cv,born:=a }])) ∨
  ∃i e f,Instr.findNow d ck en n=some (some (n+i,f))∧en[i]?=some e∧e.key=ck∧kR M w c es' (en.set i { e with key:=ck,val:=cv })
 |[],[],n,_,_,h=>by
  simp only[mput,aL]at h;subst h;refine .inl ⟨rfl,rfl,fun i hi=>?_⟩;have:i=0:=by simp at hi;exact hi
  subst this;exact⟨_,rfl,Wb b,j,z⟩
 |[],_::_,_,_,h,_=>by simp[kR]at h
 |_::_,[],_,_,h,_=>by simp[kR]at h
 |x::es,e::en,n,es',p,h=>by
  obtain⟨C,r,I⟩:=p.head;simp only[mput]at h;split at h
  ·rename_i u;obtain⟨o,E⟩:=GI r j u hd;cases h;have A:=E rfl;obtain⟨q,m,rfl,rfl⟩:=Nv j b;obtain⟨L,K,B,F⟩:=Nv r (A▸b);rw[A]at B;cases B;refine .inr ⟨0,e,e.val,by simp[Instr.findNow,o],rfl,F,by simpa using p.1,fun i hi=>?_⟩;cases i with
   |zero=>exact⟨_,rfl,C,by rw[A];exact j,z⟩
   |succ i=>
    have:=p.2 (i+1) (by simpa using hi);simpa only [mS,eT,eg] using this
  ·rename_i u;obtain⟨o,_⟩:=GI r j u hd;simp only[aQ]at h;obtain⟨l,y,rfl⟩:=h
   have cons:∀{g},kR M w c l g→kR M w c (x::l) (e::g):=fun {g} D=>⟨by simpa using D.1,fun i hi=>by
    cases i with
    |zero=>exact⟨_,rfl,C,r,I⟩
    |succ i=>
     have:=D.2 i (by simpa using hi);simpa only [eT,eg] using this⟩
   rcases IF j z b hd a (n+1) p.tail y with⟨t,s⟩|⟨i,G,f,t,s,J,H⟩
   ·exact .inl ⟨by simp[Instr.findNow,o,t],cons s⟩
   exact .inr ⟨i+1,G,f,by simp[Instr.findNow,o,t];omega,by simpa using s,J,by simpa using cons H⟩
  cases h
theorem aav{c:dk}{σ K:aw}(F:fd M w c σ){m k v:aq}{cm ck cv:Value}(hm:R M w c m cm)(hk:R M w c k ck)(hv:R M w c v cv)(h:N8 σ k v m=some K)
  {T kt et:TypeId} {q:IntKind} (hT:P.underlying T=some (.map kt et)) (u:P.underlying kt=some (.int q)) :
  ∃w',(Instr.mapUpdate T cm ck cv).run P w=.ok () w'∧fd M w' c K∧iR c w c w':=by
 unfold N8 at h;split at h
 ·rename_i id;simp only[aK]at h;obtain⟨es,Y,h2⟩:=h;split at h2
  ·rename_i J;simp only[aQ]at h2;obtain⟨es',h3,rfl⟩:=h2;unfold ip at Y;split at Y
   ·rename_i ag S;cases Y;obtain⟨b,G,en,f,g,Q,X,q3,q4,q5,q6⟩:=F.obj id _ S;have hH:c.H id=.map:=by rw[F.H,fe S]
    have z:kR M w c es en.toList:=⟨by simpa using q3,fun i hi=>by
     obtain⟨e,s,N,L,V⟩:=q4 i hi;exact⟨e,by simpa using s,V.1,N▸q5 i hi,L▸q6 i hi⟩⟩
    have hB:∀e∈en.toList,e.born<G:=fun e z=>by
     obtain⟨i,hi,rfl⟩:=cM.1 z;obtain⟨e',s,_,_,_,e5⟩:=q4 i (by simpa [q3] using hi);rw[cO (by simpa using hi)]at s;cases s;simpa using e5
    have ae:cm=.map (some b):=by
     cases hm with
     |mp a1 a2 a3=>rw[Q]at a3;cases a3;rfl
     |mpOld a0 a1 a2=>rw[hH]at a2;cases a2
    subst ae;have ad:=(ak.1 S).1;have W:∀(a:Array MapEntry) (d:Nat),kR M w c es' a.toList→(∀e∈a.toList,e.born<d)→(Instr.mapUpdate T (.map (some b)) ck cv).run P w=.ok () { w with heap:=w.heap.setIfInBounds b (.map a d) } →
      ∃w',(Instr.mapUpdate T (.map (some b)) ck cv).run P w=.ok () w'∧fd M w' c (σ.set id (.map es'))∧iR c w c w':=fun a d t af H=>by
     have o:uW w { w with heap:=w.heap.setIfInBounds b (.map a d) } b (.map a d):=⟨⟨rfl,rfl,rfl,aF _⟩,rfl⟩;have r:c.H id≠.dead:=by rw[hH];simp
     have D:=F.plow id b r Q;have p:Ext c w c { w with heap:=w.heap.setIfInBounds b (.map a d) }:=⟨fun _ h=>h,fun _ h=>h,fun y hy=>by rw[o.get _ D.1,if_neg (fun e=>by subst e;exact D.2 (hy.elim (fun h=>h) (F.sb _)))],aF _,fun _ _=>.inl rfl,fun _ _ _ _=>⟨rfl,rfl,rfl⟩⟩;have U:wA M { w with heap:=w.heap.setIfInBounds b (.map a d) } c id (.map es'):=by
      refine⟨b,d,a,fun i=>((a[i]?).map (·.key)).getD undef,fun i=>((a[i]?).map (·.val)).getD undef,Q,by rw[o.get _ D.1,if_pos rfl],by simpa using t.1,fun i hi=>?_,fun i hi=>?_,fun i hi=>?_⟩
      ·obtain⟨e,s,N,L,V⟩:=t.2 i hi;have l:a[i]?=some e:=by simpa using s
       exact⟨e,l,by dsimp only;rw[l];rfl,by dsimp only;rw[l];rfl,N,af e (aN (by simpa using l))⟩
      ·obtain⟨e,s,N,L,V⟩:=t.2 i hi;have l:a[i]?=some e:=by simpa using s
       dsimp only;rw[l];exact L.ext p
      obtain⟨e,s,N,L,V⟩:=t.2 i hi;have l:a[i]?=some e:=by simpa using s
      dsimp only;rw[l];exact V.ext p
     obtain⟨I,_⟩:=F.setObj' S (by simp) (by rw[fe (aU ad),fe S]) Q o U;exact⟨_,H,I,iR.setB F r Q o p⟩
    rcases IF hk hv J ⟨q,rfl⟩ G 0 z h3 with⟨b1,b2⟩|⟨i,e,ah,b1,b2,b3,b4⟩
    ·refine W (en.push { key:=ck,val:=cv,born:=G }) (G+1) (by simpa using b2) (fun e z=>by
      simp only[Array.toList_push,ba,aP]at z;rcases z with z|rfl
      ·exact nU (hB e z)
      exact o7 _) ?_
     simp[Instr.mapUpdate,run_underlying hT,nR X,qP u,kL u b1,xj _ X]
    obtain⟨E,n,rfl,rfl⟩:=Nv hk J;rw[cE]at b1;have B:en[i]?=some e:=by simpa using b2
    have hi:i<en.size:=(bE.1 B).1;have ab:en[i]=e:=(bE.1 B).2;have A:(en.modify i fun e=>{ e with key:=.int E n,val:=cv }).toList=en.toList.set i { e with key:=.int E n,val:=cv }:=by
     apply fb;intro j;simp only[fv,gy,dw];by_cases O:i=j
     ·subst O;simp[hi,ab]
     simp[O]
    refine W (en.modify i fun e=>{ e with key:=.int E n,val:=cv }) G ?_ (fun x Z=>by
     rw[A]at Z;rcases eV Z with Z|rfl
     ·exact hB x Z
     exact hB e (aN b2)) ?_
    ·rw[A];exact b4
    have C:(Instr.keyThatStays (.int E n) (.int E n)).run P w=.ok (.int E n) w:=by simp[Instr.keyThatStays,Instr.sameBits]
    simp[Instr.mapUpdate,run_underlying hT,nR X,qP u,kL u b1,B,b3,C,xj _ X]
   cases Y
  cases h2
 cases h
end Go.AM
namespace Go.AM
variable {M:dm} {w:World} {P:Program}
def rF(P:Program)(T:TypeId)(k:Nat):Bool:=uh P T false 1&&(match P.underlying T with
 |some (.int _)=>k==0
 |some .bool=>k==1
 |some .string=>k==2
 |_=>false)
theorem rA{T:TypeId}(h:uh P T false 1=true){cs:Array Value}{off:Nat}{x:Value}(a:cs[off]?=some x):(part T cs off).run P w=.ok x w:=by
 unfold part;simp[uc h,a]
theorem Kz{s t:ByteArray}:(s==t)=(s.data.toList==t.data.toList):=by
 rw[beq_toListBytes];exact OO
theorem IZ{c:dk}{a b:aq}{n o:Value}(l:R M w c a n)(m:R M w c b o){t:Bool}(h:lX a b=some t){T:TypeId}{k:Nat}(f:sF a=k)(e:rF P T k=true)(d:Nat) :
  (Op.equalIn (d+1) T n o).run P w=.ok t w:=by
 unfold rF at e;simp only[ax]at e;obtain⟨_,e⟩:=e;unfold lX at h;split at h
 ·split at h
  ·rename_i i;subst i;cases h;cases l;cases m;simp only[sF]at f;subst f;split at e
   ·rename_i j g;exact run_equalIn_int w d T _ _ _ _ g
   ·cases e
   ·cases e
   cases e
  cases h
 ·cases h;cases l;cases m;simp only[sF]at f;subst f;split at e
  ·cases e
  ·rename_i g;exact run_equalIn_bool w d T _ _ g
  ·cases e
  cases e
 ·cases h;cases l with|str p=>cases m with|str q=>
  simp only[sF]at f;subst f;split at e
  ·cases e
  ·cases e
  ·rename_i g;rw[run_equalIn_string w d T _ _ g,OO,p,q]
  cases e
 cases h
def gm(M:dm)(w:World)(c:dk)(i:Nat)(x:List aq)(xs:Array Value):Prop:=∀j (h:j<x.length),∃v,xs[i+j]?=some v∧R M w c x[j] v
theorem gm.tail{c:dk}{i:Nat}{a:aq}{x:List aq}{xs:Array Value}(h:gm M w c i (a::x) xs):gm M w c (i+1) x xs:=fun j b=>by
 obtain⟨v,d,e⟩:=h (j+1) (by simpa using b);exact⟨v,by rw[←d];congr 1;omega,e⟩
theorem gm.head{c:dk}{i:Nat}{a:aq}{x:List aq}{xs:Array Value}(h:gm M w c i (a::x) xs):∃v,xs[i]?=some v∧R M w c a v:=h 0 (by simp)
def nK(P:Program):Nat→List Field→List Nat→Bool
 |_,[],[]=>true
 | i,f::fs,k::ks=>f.name != "_" && f.offset == i&&rF P f.type k&&nK P (i+1) fs ks
 |_,_,_=>false
theorem Br{c:dk}(d:Nat){xs n:Array Value}:∀(ks:List Nat) (fs:List Field) (i:Nat) (x y:List aq) (t:Bool),nK P i fs ks=true→gm M w c i x xs→gm M w c i y n→eR ks x y=some t →
  (Op.eqFields (d+1) xs n fs).run P w=.ok t w
 |[],[],i,x,y,t,_,_,_,h=>by simp only[eR,aL]at h;subst h;rfl
 |[],_::_,_,_,_,_,h,_,_,_=>by simp[nK]at h
 |_::_,[],_,_,_,_,h,_,_,_=>by simp[nK]at h
 |k::ks,f::fs,i,[],y,t,_,_,_,h=>by simp[eR]at h
 |k::ks,f::fs,i,_::_,[],t,_,_,_,h=>by simp[eR]at h
 |k::ks,f::fs,i,a::x,b::y,t,m,o,l,h=>by
  simp only[nK,ax,gT,aX]at m;obtain⟨⟨⟨r,p⟩,j⟩,C⟩:=m;have e:uh P f.type false 1=true:=by unfold rF at j;simp only[ax]at j;exact j.1
  simp only[eR]at h;split at h
  ·rename_i B;simp only[aK]at h;obtain⟨q,A,g⟩:=h;obtain⟨F,u,s⟩:=o.head;obtain⟨E,D,z⟩:=l.head;have v:=IZ (P:=P) s z A B j d;subst p;simp only[Op.eqFields,ne_eq,r,kO,cw,Sem.run_bind,rA e u,rA e D,Result.andThen_ok,v,Sem.run_ite];cases q with
   |true=>
    simp only[cw]at g;simpa using Br d ks fs _ x y t C o.tail l.tail g
   |false=>
    simp at g;subst g;simp
  cases h
theorem YZ{T:TypeId}{m:Nat}(h:uh P T true m=true)(cs:Array Value)(off:Nat):(part T cs off).run P w=.ok (.agg (cs.extract off (off+m))) w:=by
 unfold part;simp only[Sem.run_bind,uc h,Result.andThen_ok,cw,gi (wq h),Sem.run_pure]
def YW(P:Program)(i:Nat)(f:Field)(ks:List Nat):Bool:=f.name != "_" && f.offset == i&&uh P f.type true ks.length&&!P.stoodInHeld f.type&&(match P.underlying f.type with
 |some (.struct gs)=>nK P 0 gs.toList ks
 |_=>false)
def ua(P:Program):Nat→List Field→List Nat→Bool
 |_,[],[]=>true
 | i,f::fs,k::ks=>(f.name != "_" && f.offset == i&&rF P f.type k&&ua P (i+1) fs ks) || (fs.isEmpty&&YW P i f (k::ks))
 |_,_,_=>false
theorem gm.extract{c:dk}{i m:Nat}{x:List aq}{xs:Array Value}(h:gm M w c i x xs)(e:x.length≤m):gm M w c 0 x (xs.extract i (i+m)):=fun j b=>by
 obtain⟨v,a,d⟩:=h j b;refine⟨v,?_,d⟩;rw[oV];have:=(bE.1 a).1;rw[if_pos (by omega),cE];exact a
theorem CP:∀{ks:List Nat} {x y:List aq},eR ks (x.take ks.length) (y.take ks.length)=eR ks x y
 |[],_,_=>by simp[eR]
 |k::ks,[],y=>by simp[eR]
 |k::ks,a::x,[]=>by simp[eR]
 |k::ks,a::x,b::y=>by simp[eR,CP]
theorem gm.take{c:dk}{i:Nat}{x:List aq}{xs:Array Value}(h:gm M w c i x xs)(m:Nat):gm M w c i (x.take m) xs:=fun j b=>by
 have a:j<x.length:=by simp at b;omega
 obtain⟨v,d,e⟩:=h j a;exact⟨v,d,by simpa using e⟩
theorem Fp{c:dk}(d:Nat){xs D:Array Value}:∀(ks:List Nat) (fs:List Field) (i:Nat) (x y:List aq) (t:Bool),ua P i fs ks=true→gm M w c i x xs→gm M w c i y D→eR ks x y=some t →
  (Op.eqFields (d+2) xs D fs).run P w=.ok t w
 |[],[],i,x,y,t,_,_,_,h=>by simp only[eR,aL]at h;subst h;rfl
 |[],_::_,_,_,_,_,h,_,_,_=>by simp[ua]at h
 |_::_,[],_,_,_,_,h,_,_,_=>by simp[ua]at h
 |k::ks,f::fs,i,[],y,t,_,_,_,h=>by simp[eR]at h
 |k::ks,f::fs,i,_::_,[],t,_,_,_,h=>by simp[eR]at h
 |k::ks,f::fs,i,a::x,b::y,t,e,z,s,h=>by
  simp only[ua,dL]at e;rcases e with e|e
  ·simp only[ax,gT,aX]at e;obtain⟨⟨⟨r,q⟩,g⟩,C⟩:=e;have l:uh P f.type false 1=true:=by unfold rF at g;simp only[ax]at g;exact g.1
   simp only[eR]at h;split at h
   ·rename_i K;simp only[aK]at h;obtain⟨E,J,p⟩:=h;obtain⟨O,G,F⟩:=z.head;obtain⟨N,L,I⟩:=s.head;have H:=IZ (P:=P) F I J K g (d+1);subst q;simp only[Op.eqFields,ne_eq,r,kO,cw,Sem.run_bind,rA l G,rA l L,Result.andThen_ok,H,Sem.run_ite];cases E with
    |true=>
     simp only[cw]at p;simpa using Fp d ks fs _ x y t C z.tail s.tail p
    |false=>
     simp at p;subst p;simp
   cases h
  simp only[YW,ax,gT,aX,List.isEmpty_iff]at e;obtain⟨rfl,⟨⟨⟨r,q⟩,g⟩,C⟩,u⟩:=e;split at u
  ·rename_i gs n;have v:P.stoodInHeld f.type=false:=by simpa using C
   have j:P.fieldsOf f.type=gs:=by unfold Program.fieldsOf;rw[n]
   have o:∀A B:Array Value,(Op.equalIn (d+2) f.type (.agg A) (.agg B)).run P w=(Op.eqFields (d+1) A B gs.toList).run P w:=fun A B=>by
    rw[run_equalIn_struct w (d+1) f.type A B (by rw[j];exact n) v,j]
   rw[←CP]at h;have key:=Br d (k::ks) gs.toList 0 _ _ t u ((z.take (k::ks).length).extract (m:=(k::ks).length) (by rw[cY];omega)) ((s.take (k::ks).length).extract (m:=(k::ks).length) (by rw[cY];omega)) h;subst q;simp only[Op.eqFields,ne_eq,r,kO,cw,Sem.run_bind,YZ g,Result.andThen_ok,o,key,Sem.run_ite];cases t<;>simp
  cases u
theorem Ks{c:dk}(d:Nat){xs m:Array Value}{e:TypeId}{k:Nat}(g:rF P e k=true):∀(n i:Nat) (x y:List aq) (t:Bool),gm M w c i x xs→gm M w c i y m→eR (List.replicate n k) x y=some t →
  (Op.eqItems (d+1) e 1 xs m (List.range' i n)).run P w=.ok t w
 |0,i,x,y,t,_,_,h=>by simp only[List.replicate_zero,eR,aL]at h;subst h;rfl
 |n+1,i,[],y,t,_,_,h=>by simp[jH,eR]at h
 |n+1,i,_::_,[],t,_,_,h=>by simp[jH,eR]at h
 |n+1,i,a::x,b::y,t,o,l,h=>by
  have f:uh P e false 1=true:=by unfold rF at g;simp only[ax]at g;exact g.1
  simp only[jH,eR]at h;split at h
  ·rename_i z;simp only[aK]at h;obtain⟨p,v,j⟩:=h;obtain⟨C,r,q⟩:=o.head;obtain⟨B,A,u⟩:=l.head;have s:=IZ (P:=P) q u v z g d;simp only[o8,Op.eqItems,kj,Sem.run_bind,rA f r,rA f A,Result.andThen_ok,s,Sem.run_ite];cases p with
   |true=>
    simp only[cw]at j;simpa using Ks d g n (i+1) x y t o.tail l.tail j
   |false=>
    simp at j;subst j;simp
  cases h
def abK(P:Program)(T:TypeId)(ks:List Nat):Bool:=!P.eqGuardType P.depth T&&(match P.underlying T with
 |some (.struct fs)=>!P.stoodInHeld T&&ua P 0 fs.toList ks
 |some (.array n e)=>(match ks with
  |k::_=>rF P e k&&ks==List.replicate n k
  |[]=>false)
 |_=>false)
theorem nM.from{c:dk}{cs:List aq}{A:Array Value}(h:nM M w c cs A):gm M w c 0 cs A:=fun j a=>by
 obtain⟨v,b,_,d⟩:=h.2 j a;exact⟨v,by rw[cE];exact b,d⟩
theorem ad3{c:dk}{a b:List aq}{xs o:Array Value}(m:nM M w c a xs)(j:nM M w c b o){ks:List Nat}{t:Bool}(r:eR ks a b=some t){T:TypeId}(d:abK P T ks=true) :
  (Op.equalIn 10000 T (.agg xs) (.agg o)).run P w=.ok t w:=by
 unfold abK at d;simp only[ax]at d;obtain⟨_,d⟩:=d;split at d
 ·rename_i fs l;simp only[ax]at d;have s:P.stoodInHeld T=false:=by simpa using d.1
  have h:P.fieldsOf T=fs:=by unfold Program.fieldsOf;rw[l]
  rw[run_equalIn_struct w 9999 T xs o (by rw[h];exact l) s,h];exact Fp 9997 ks fs.toList 0 a b t d.2 m.from j.from r
 ·rename_i n e u;split at d
  ·rename_i k x;simp only[ax,aX]at d;obtain⟨g,q⟩:=d;have p:uh P e false 1=true:=by unfold rF at g;simp only[ax]at g;exact g.1
   have f:=wq p;cases hi:P.info? e with
   |none=>rw[hi]at f;cases f
   |some i=>
    rw[hi]at f;have v:P.cellsOf e=1:=by unfold Program.cellsOf;rw[hi];simpa using f
    rw[run_equalIn_array w 9999 xs o u hi,v,pI];rw[q]at r;exact Ks 9998 g n 0 a b t m.from j.from r
  cases d
 cases d
theorem an7{c:dk}{x y v:aq}{l cy:Value}(H:R M w c x l)(C:R M w c y cy){n:Bool}{ks:List Nat}(h:eqa n ks x y=some v){T:TypeId}(d:abK P T ks=true){op:BinOp}(o:op=if n then .neq else .eql)(g m:Operand) :
  ∃cv,(do eqGuard op T g m l cy;binOp op T l cy:Sem Value).run P w=.ok cv w∧R M w c v cv:=by
 unfold eqa at h;split at h
 ·rename_i a b;simp only[aQ]at h;obtain⟨t,G,rfl⟩:=h;have i:=d;unfold abK at d;simp only[ax]at d;obtain⟨A,d⟩:=d;have e:P.eqGuardType P.depth T=false:=by simpa using A
  cases H with|@agg _ _ xs u z p B q=>cases C with|@agg _ _ f E s r F D=>
  have k:nM M w c a xs:=R.rcells (.agg u z p B q);have j:nM M w c b f:=R.rcells (.agg E s r F D);have key:(Op.equalIn 10000 T (.agg xs) (.agg f)).run P w=.ok t w:=ad3 k j G i;refine⟨.bool (if n then !t else t),?_,.bool⟩;subst o;cases n
  ·simp only[bq,cI,Sem.run_bind,run_eqGuard_agg w .eql T g m xs f e,Result.andThen_ok,run_eql_struct,key]
  simp only[cw,Sem.run_bind,run_eqGuard_agg w .neq T g m xs f e,Result.andThen_ok,run_neq_struct,key]
 cases h
theorem anS{c:dk}{x y v:aq}{e cy:Value}(k:R M w c x e)(j:R M w c y cy){n:Bool}(h:eqb n x y=some v){T:TypeId}(i:P.underlying T=some .bool){op:BinOp}(g:op=if n then .neq else .eql)(d f:Operand) :
  ∃cv,(do eqGuard op T d f e cy;binOp op T e cy:Sem Value).run P w=.ok cv w∧R M w c v cv:=by
 unfold eqb at h;split at h
 ·cases h;cases k;cases j;rename_i a b;refine⟨.bool (if n then !(a==b) else (a==b)),?_,.bool⟩;have key:(Op.equal T (.bool a) (.bool b)).run P w=.ok (a==b) w:=run_equalIn_bool w 9999 T a b i;subst g;cases n
  ·simp only[bq,cI,Sem.run_bind,vf .eql T d f (.inr (.inr ⟨a,rfl⟩)),Result.andThen_ok];simp[binOp,key]
  simp only[cw,Sem.run_bind,vf .neq T d f (.inr (.inr ⟨a,rfl⟩)),Result.andThen_ok];simp[binOp,key]
 cases h
theorem aiW{c:dk}{σ:aw}(t:fd M w c σ){x v:aq}{f:Value}(m:R M w c x f){n:Bool}(h:uN n σ x=some v){T e:TypeId}(s:P.underlying T=some (.slice e)){op:BinOp}(d:op=if n then .neq else .eql)(i o:Operand) :
  ∃cv,(do eqGuard op T i o f (.slice none 0 0);binOp op T f (.slice none 0 0):Sem Value).run P w=.ok cv w∧R M w c v cv:=by
 have key:∃a l k,f=.slice a l k∧v=neg n a.isNone:=by
  unfold uN at h;split at h
  ·cases h;cases m with|emp h=>exact⟨_,_,_,rfl,by rw[h]⟩
  ·cases h
  split at h
  ·rename_i g _ y z b;cases h;cases m<;>first|(simp[rd]at b;done)|skip
   case str=>exact absurd rfl (g _)
   case aa=>exact⟨_,_,_,rfl,rfl⟩
   case lst=>exact⟨_,_,_,rfl,rfl⟩
   case sl=>exact⟨_,_,_,rfl,rfl⟩
   case sl0 h1 p=>
    simp only[rd]at b;unfold sliceAt at b;split at b
    ·split at b
     ·simp at b
     cases b
    cases b
   case slOld=>
    rename_i p _ _ _ _;simp only[rd]at b;unfold sliceAt at b;split at b
    ·rename_i k e es r;split at b
     ·rename_i u;have:=p k e (by rw[t.H,fe r]);omega
     cases b
    cases b
  cases h
 obtain⟨a,l,k,rfl,rfl⟩:=key;have j:(Op.equal T (.slice a l k) (.slice none 0 0)).run P w=.ok a.isNone w:=by
  unfold Op.equal Op.maxDepth;unfold Op.equalIn;simp only[Sem.run_bind,run_underlying s,Result.andThen_ok];cases a<;>rfl
 have q:(eqGuard op T i o (.slice a l k) (.slice none 0 0)).run P w=.ok () w:=by
  unfold eqGuard;subst d;cases n<;>simp
 refine⟨.bool (if n then !a.isNone else a.isNone),?_,.bool⟩;simp only[Sem.run_bind,q,Result.andThen_ok];subst d;cases n
 ·simp[binOp,j]
 simp[binOp,j]
end Go.AM
