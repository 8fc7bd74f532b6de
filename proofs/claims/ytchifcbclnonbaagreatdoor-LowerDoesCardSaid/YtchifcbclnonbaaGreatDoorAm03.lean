/- Part of the proof. -/
import Derived.Test.YtchifcbclnonbaaGreatDoorAm02
import Derived.Laws.Strings
import Derived.Laws.Slices
import Derived.Laws.Append
import Derived.Laws.MakeOwn
import Derived.Laws.StructEq
import Derived.ChangeKeysEq
set_option linter.unusedVariables false
set_option linter.unusedSimpArgs false
set_option linter.unusedSectionVars false
namespace Go.AM
variable {M:cO} {w:World} {P:Program}
def mF(fm:Nat→FuncId):Nat→Value→ap→Bool
 |_,.int k n,.int k' m=>k==k'&&n==m
 |_,.bool b,.bool b'=>b==b'
 |_,.string s,.str l=>s.data.toList==l
 |_,.slice none 0 0,.ai=>true
 |_,.slice none 0 0,.aa _ []=>true
 |_,.pointer none,.nilp=>true
 |_,.nilFunc,.nilf=>true
 |_,.map none,.nilm=>true
 |_,.func (.func f) a b,.fn n [] []=>a.size==0&&b.size==0&&fm n==f
 |n+1,.agg vs,.agg cs=>vs.size==cs.length&&(vs.toList.zip cs).all fun p=>p.1.oneCell'&&mF fm n p.1 p.2
 |_,_,_=>false
theorem qH{c:cJ}:∀{n:Nat} {v:Value} {a:ap},mF M.fm n v a=true→R M w c a v:=by
 intro n;induction n with
 |zero=>
  intro v a h;unfold mF at h;split at h<;>simp_all
  ·exact .int
  ·exact .bool
  ·exact .str h
  ·exact .ai
  ·exact .imm0
  ·exact .nilp
  ·exact .nilf
  ·exact .nilm
  rename_i f a b m;obtain⟨⟨h1,h2⟩,rfl⟩:=h;exact .fn (fun _=>undef) (fun _=>undef) (by simp) (by simp) (by simp) (by simp) (by simp) (by simp)
 |succ n ih=>
  intro v a h;cases hb:Go.AM.isAgg a with
  |false=>
   unfold mF at h;split at h<;>simp_all
   ·exact .int
   ·exact .bool
   ·exact .str h
   ·exact .ai
   ·exact .imm0
   ·exact .nilp
   ·exact .nilf
   ·exact .nilm
   ·rename_i f a b m;obtain⟨⟨h1,h2⟩,rfl⟩:=h;exact .fn (fun _=>undef) (fun _=>undef) (by simp) (by simp) (by simp) (by simp) (by simp) (by simp)
   simp[Go.AM.isAgg]at hb
  |true=>
   obtain⟨cs,rfl⟩:=pk hb;cases v<;>first|(simp[mF]at h;done)|skip
   rename_i vs;have h':(vs.size==cs.length&&(vs.toList.zip cs).all fun p=>p.1.oneCell'&&mF M.fm n p.1 p.2)=true:=h;simp only[am,aG,aI]at h';obtain⟨h1,h2⟩:=h';have key:∀i (hi:i<cs.length),∃x,vs[i]?=some x∧x.oneCell'=true∧mF M.fm n x cs[i]=true:=fun i hi=>by
    have hi':i<vs.size:=by omega
    refine⟨vs[i],by simp[hi'],?_⟩;have hm:(vs[i],cs[i])∈vs.toList.zip cs:=by
     rw[bP];exact⟨i,by simp;omega,by simp⟩
    exact h2 _ hm
   refine .agg (fun i=>vs.getD i undef) h1 (fun i hi=>?_) (fun i hi=>?_) (fun i hi=>?_)
   ·obtain⟨x,hx,h3,h4⟩:=key i hi;have:vs.getD i undef=x:=by simp[bA,hx]
    rw[this];exact⟨hx,h3⟩
   ·obtain⟨x,hx,h3,h4⟩:=key i hi;exact (ih h4).small h3
   obtain⟨x,hx,h3,h4⟩:=key i hi;have:vs.getD i undef=x:=by simp[bA,hx]
   rw[this];exact ih h4
def lB(M:cO)(w:World)(c:cJ)(cs:List ap)(A:Array Value):Prop:=
 A.size=cs.length∧∀j (h:j<cs.length),∃x,A[j]?=some x∧x.oneCell'=true∧R M w c cs[j] x
theorem lB.agg{c:cJ}{cs:List ap}{A:Array Value}(h:lB M w c cs A):R M w c (.agg cs) (.agg A):=by
 refine .agg (fun j=>A.getD j undef) h.1 (fun j hj=>?_) (fun j hj=>?_) (fun j hj=>?_)
 ·obtain⟨x,h1,h2,_⟩:=h.2 j hj;have:A.getD j undef=x:=by simp[bA,h1]
  rw[this];exact⟨h1,h2⟩
 ·obtain⟨x,h1,h2,h3⟩:=h.2 j hj;exact h3.small h2
 obtain⟨x,h1,h2,h3⟩:=h.2 j hj;have:A.getD j undef=x:=by simp[bA,h1]
 rw[this];exact h3
theorem R.rcells{c:cJ}{cs:List ap}{A:Array Value}(h:R M w c (.agg cs) (.agg A)):lB M w c cs A:=by
 cases h with
 |agg f h1 h2 h3 h4=>exact⟨h1,fun j hj=>⟨f j,(h2 j hj).1,(h2 j hj).2,h4 j hj⟩⟩
theorem Ch(off:Nat):∀(l:List Value) (n:Nat) (A:Array Value),
  ((l.zipIdx n).foldl (fun cs p=>cs.setIfInBounds (off+p.2) p.1) A).size=A.size ∧
  ∀j,((l.zipIdx n).foldl (fun cs p=>cs.setIfInBounds (off+p.2) p.1) A)[j]?=if off+n≤j∧j<off+n+l.length∧j<A.size then l[j-(off+n)]? else A[j]?
 |[],n,A=>⟨rfl,fun j=>by rw[if_neg (by rintro⟨h1,h2,_⟩;simp at h2;omega)];rfl⟩
 |v::l,n,A=>by
  obtain⟨h1,h2⟩:=Ch off l (n+1) (A.setIfInBounds (off+n) v);simp only[List.zipIdx_cons,dh];refine⟨by rw[h1];simp,fun j=>?_⟩;rw[h2 j];simp only[lu,cn];by_cases hj:off+(n+1)≤j∧j<off+(n+1)+l.length∧j<A.size
  ·rw[if_pos hj,if_pos (by omega),show j-(off+n)=(j-(off+(n+1)))+1 by omega];simp
  rw[if_neg hj,dt];by_cases hj2:off+n=j
  ·subst hj2;by_cases hs:off+n<A.size
   ·rw[if_pos rfl,if_pos hs,if_pos ⟨by omega,by omega,hs⟩];simp
   rw[if_pos rfl,if_neg hs,if_neg (by omega)];simp;omega
  rw[if_neg hj2,if_neg (by omega)]
theorem VB(off:Nat)(l A:Array Value) :
  (l.zipIdx.foldl (fun cs (c,j)=>cs.setIfInBounds (off+j) c) A).size=A.size ∧
  ∀j,(l.zipIdx.foldl (fun cs (c,j)=>cs.setIfInBounds (off+j) c) A)[j]?=if off≤j∧j<off+l.size∧j<A.size then l[j-off]? else A[j]?:=by
 have h:=Ch off l.toList 0 A;have e:l.zipIdx.foldl (fun cs (c,j)=>cs.setIfInBounds (off+j) c) A=(l.toList.zipIdx 0).foldl (fun cs p=>cs.setIfInBounds (off+p.2) p.1) A:=by
  rw[←Array.foldl_toList];simp
 rw[e];simpa using h
theorem Xl{c:cJ}(place:Nat→Option (Nat×Nat)):∀(ps:List (Nat×Value)) (es0:List (Nat×Nat×ap)) (zero cs:List ap) (A:Array Value),lB M w c zero A→ps.length=es0.length →
  (∀i (h:i<ps.length) (h':i<es0.length),place ps[i].1=some (es0[i].1,es0[i].2.1)∧R M w c es0[i].2.2 ps[i].2)→fill zero es0=some cs →
  ∃B,Instr.fill place A ps=some B∧lB M w c cs B
 |[],[],zero,cs,A,h,_,_,hf=>by cases hf;exact⟨A,rfl,h⟩
 |[],_::_,_,_,_,_,hl,_,_=>by simp at hl
 |_::_,[],_,_,_,_,hl,_,_=>by simp at hl
 |(i,cv)::ps,(off,s,v)::es0,zero,cs,A,h,hl,hr,hf=>by
  simp only[fill]at hf;split at hf
  ·rename_i hc;obtain⟨h1,h2,h3⟩:=hc;have h0:=hr 0 (by simp) (by simp);simp only[cC]at h0;obtain⟨g,hg,hgs,hgc⟩:=qP h0.2 (by omega);obtain⟨z1,z2⟩:=VB off cv.cells A;have hv:=nz (v:=v) (by omega);have hlen:(zero.take off++cellsOf v++zero.drop (off+s)).length=zero.length:=by simp;omega
   have hnew:lB M w c (zero.take off++cellsOf v++zero.drop (off+s)) (cv.cells.zipIdx.foldl (fun cs (c,j)=>cs.setIfInBounds (off+j) c) A):=by
    refine⟨by rw[z1,h.1,hlen],fun j hj=>?_⟩;rw[hlen]at hj;rw[z2 j];by_cases hj1:j<off
    ·rw[if_neg (by omega)];obtain⟨x,x1,x2,x3⟩:=h.2 j hj;refine⟨x,x1,x2,?_⟩;rw[bH (by simp;omega),bH (by simp;omega)];simpa using x3
    by_cases hj2:j<off+s
    ·rw[if_pos ⟨by omega,by omega,by rw[h.1];exact hj⟩,hgc _ (by omega)];refine⟨_,rfl,hg.one _ (by omega),?_⟩;have:=hg.rel (j-off) (by omega);rw[bH (by simp;omega),ct (by simp;omega)];simp only[cz];have e:j-min off zero.length=j-off:=by rw[ec (by omega)]
     simpa [e] using this
    rw[if_neg (by omega)];obtain⟨x,x1,x2,x3⟩:=h.2 j hj;refine⟨x,x1,x2,?_⟩;rw[ct (by simp;omega)];simp only[dY,dD,cz];have e:off+s+(j-(min off zero.length+(cellsOf v).length))=j:=by rw[ec (by omega)];omega
    simpa [e] using x3
   obtain⟨B,hB,hB2⟩:=Xl place ps es0 _ cs _ hnew (by simpa using hl) (fun i hi hi'=>by have:=hr (i+1) (by simpa using hi) (by simpa using hi');simpa using this) hf;refine⟨B,?_,hB2⟩;simp only[Instr.fill,h0.1];rw[if_neg]
   ·exact hB
   have e1:cv.cells.size=s:=by omega
   have e2:=h.1;simp[e1];omega
  cases hf
theorem yl(k:Nat):∀(cvs:List Value) (s:Nat) (A:Array Value),(∀v∈cvs,v.cells.size=k)→(s+cvs.length)*k≤A.size →
  ∃B,Instr.fill (fun i=>some (i*k,k)) A ((List.range' s cvs.length).zip cvs)=some B∧B.size=A.size ∧
   ∀p,B[p]?=if s*k≤p∧p<(s+cvs.length)*k then (cvs.flatMap fun v=>v.cells.toList)[p-s*k]? else A[p]?
 |[],s,A,_,_=>⟨A,rfl,rfl,fun p=>by rw[if_neg (by simp)]⟩
 |v::cvs,s,A,h1,h2=>by
  have hv:=h1 v (cQ ..);obtain⟨z1,z2⟩:=VB (s*k) v.cells A;simp only[cn]at h2;have hmul:(s+(cvs.length+1))*k=(s+1+cvs.length)*k:=by congr 1;omega
  have hm2:(s+1)*k=s*k+k:=by rw[dy];omega
  have hm3:(s+1)*k≤(s+1+cvs.length)*k:=bO k (by omega);obtain⟨B,b1,b2,b3⟩:=yl k cvs (s+1) (v.cells.zipIdx.foldl (fun cs (c,j)=>cs.setIfInBounds (s*k+j) c) A) (fun x hx=>h1 x (bq _ hx)) (by rw[z1];omega);refine⟨B,?_,by rw[b2,z1],fun p=>?_⟩
  ·rw[show (List.range' s (v::cvs).length)=s::List.range' (s+1) cvs.length by simp[mq]];simp only[gu,Instr.fill];rw[if_neg]
   ·exact b1
   simp[hv];omega
  rw[b3 p,z2 p];simp only[cn,iQ,hv];by_cases hp:(s+1)*k≤p∧p<(s+1+cvs.length)*k
  ·rw[if_pos hp,if_pos (by omega),bY (by simp;omega)];congr 1;simp;omega
  rw[if_neg hp];by_cases hq:s*k≤p∧p<s*k+k
  ·rw[if_pos ⟨by omega,by omega,by omega⟩,if_pos (by omega),bu (by simp;omega)];simp
  rw[if_neg (by omega),if_neg (by omega)]
end Go.AM
namespace Go.AM
variable {M:cO} {w:World} {P:Program}
theorem pV{op:BinOp}{k:IntKind}{x y n:Int}(h:intBits op k x y=some n):(Op.intBits op k x y).run P w=.ok (.int k n) w:=by
 cases op<;>simp only[intBits]at h<;>first|(cases h;done)|(injection h with h;subst h;rfl)
theorem O8{c:cJ}{op:BinOp}{T:TypeId}{k:IntKind}{a b:Int}{v:ap}(hop:op≠.shl∧op≠.shr)(h:IQ op k a b=some v) :
  ∃cv,(binOp op T (.int k a) (.int k b)).run P w=.ok cv w∧R M w c v cv:=by
 cases op<;>simp[IQ]at h hop<;>simp only[binOp,ne_eq,not_true,bQ]
 case quo=>obtain⟨h1,rfl⟩:=h;exact⟨_,by simp only[Op.intDiv,h1,bQ];rfl,.int⟩
 case rem=>obtain⟨h1,rfl⟩:=h;exact⟨_,by simp only[Op.intDiv,h1,bQ];rfl,.int⟩
 case and=>obtain⟨n,h1,rfl⟩:=h;exact⟨_,pV h1,.int⟩
 case or=>obtain⟨n,h1,rfl⟩:=h;exact⟨_,pV h1,.int⟩
 case xor=>obtain⟨n,h1,rfl⟩:=h;exact⟨_,pV h1,.int⟩
 case andNot=>obtain⟨n,h1,rfl⟩:=h;exact⟨_,pV h1,.int⟩
 all_goals subst h;first|exact⟨_,rfl,.int⟩|exact⟨_,rfl,.bool⟩|(refine⟨.bool _,?_,.bool⟩;simp[Op.intCmp])
theorem HP{c:cJ}{op:BinOp}{T:TypeId}{k k':IntKind}{a b:Int}{v:ap}(h:shift op k a b=some v) :
  ∃cv,(binOp op T (.int k a) (.int k' b)).run P w=.ok cv w∧R M w c v cv:=by
 unfold shift at h;split at h
 ·cases h
 rename_i hb;cases op<;>simp at h<;>subst h
 ·exact⟨_,by simp only[binOp,Op.shift,hb,bQ];rfl,.int⟩
 exact⟨_,by simp only[binOp,Op.shift,hb,bQ];rfl,.int⟩
theorem Lw{s t:ByteArray}:(s.toList==t.toList)=(s.data.toList==t.data.toList):=by
 rw[Go.ByteArray.toList_eq,Go.ByteArray.toList_eq]
theorem sP(op:BinOp)(T:TypeId)(x y:Operand){a b:Value}(h:(∃k n,a=.int k n)∨(∃s,a=.string s)∨(∃t,a=.bool t)):(eqGuard op T x y a b).run P w=.ok () w:=by
 rcases h with⟨k,n,rfl⟩|⟨s,rfl⟩|⟨t,rfl⟩<;>cases op<;>rfl
theorem Yb{c:cJ}{op:UnOp}{x v:ap}{cx:Value}(hx:R M w c x cx)(h:una op x=some v):∃cv,(Op.unary op cx).run P w=.ok cv w∧R M w c v cv:=by
 unfold una at h;split at h
 ·cases hx;cases h;exact⟨_,by simp only[Op.unary,Op.intArith];rfl,.int⟩
 ·cases hx;simp only[aK]at h;obtain⟨n,h1,rfl⟩:=h;exact⟨_,by simp only[Op.unary];exact pV h1,.int⟩
 ·cases hx;cases h;exact⟨_,rfl,.bool⟩
 cases h
theorem run_underlying{T:TypeId}{d:TypeDesc}(h:P.underlying T=some d)(w:World):(underlying T).run P w=.ok d w:=by
 unfold underlying;simp[h]
theorem Ua{c:cJ}{S T:TypeId}{k k':IntKind}{n:Int}{d:TypeDesc}(hS:P.underlying S=some d)(hT:P.underlying T=some (.int k))(hd:∃j,d=.int j) :
  (convert S T (.int k' n)).run P w=.ok (.int k (k.wrap n)) w:=by
 obtain⟨j,rfl⟩:=hd;unfold convert;simp only[Sem.run_bind,run_underlying hS,run_underlying hT,Result.andThen_ok];rfl
end Go.AM
namespace Go.AM
variable {M:cO} {w:World} {P:Program}
def cJ.older(c:cJ)(σ:aw)(id:Nat)(p:Option Nat)(room:Nat):cJ:=
 { c with H:=hd σ,place:=fun i=>if i=id then p else c.place i,room:=fun i=>if i=id then room else c.room i }
theorem iN{σ:aw}{o:Obj}{id i:Nat}(h:i≠id):hd (σ.set id o) i=hd σ i:=by
 unfold hd;rw[cX (fun e=>h e.symm)]
theorem ek.older{c:cJ}{σ:aw}(hs:ek M w c σ){id k ep:Nat}{es es':List ap}(ho:σ[id]?=some (.arr k ep es)){p:Option Nat}{room:Nat}{w':World}
  (hw:∀b,b<w.heap.size→c.place id≠some b→w'.heap[b]?=w.heap[b]?) (hz:w.heap.size≤w'.heap.size) (hsame:Same w w')
  (hp:∀b,p=some b→c.place id=some b∨(w.heap.size≤b∧b<w'.heap.size))
  (hobj:Ext c w (c.older (σ.set id (.arr k (ep+1) es')) id p room) w'→rz M w' (c.older (σ.set id (.arr k (ep+1) es')) id p room) id (.arr k (ep+1) es')) :
  ek M w' (c.older (σ.set id (.arr k (ep+1) es')) id p room) (σ.set id (.arr k (ep+1) es'))∧gG c w (c.older (σ.set id (.arr k (ep+1) es')) id p room) w':=by
 have hlt:id<σ.length:=(ak.1 ho).1;have hself:(σ.set id (.arr k (ep+1) es'))[id]?=some (.arr k (ep+1) es'):=cr hlt;have hH:c.H id=.arr k ep:=by rw[hs.H,dV ho]
 have hlive:c.H id≠.dead:=by rw[hH];simp
 have hext:Ext c w (c.older (σ.set id (.arr k (ep+1) es')) id p room) w':=by
  refine⟨fun _ h=>h,fun _ h=>h,fun b hb=>hw b ?_ fun e=>?_,aB _,fun i hi=>?_,fun i hi hq _=>?_⟩
  ·exact hs.low b (hb.elim (fun h=>h) (hs.sb b))
  ·exact (hs.plow id b hlive e).2 (hb.elim (fun h=>h) (hs.sb b))
  ·by_cases hii:i=id
   ·subst hii;refine .inr (.inr ⟨k,ep,ep+1,hH,?_,mx _⟩);show hd _ i=_;rw[dV hself]
   left;show c.H i=hd _ i;rw[iN hii,hs.H]
  have hii:i≠id:=fun e=>by
   subst e;have:(c.older (σ.set i (.arr k (ep+1) es')) i p room).H i=.arr k (ep+1):=by
    show hd _ i=_;rw[dV hself]
   rw[this,hH]at hq;cases hq
  simp[cJ.older,hii]
 have hstp:gG c w (c.older (σ.set id (.arr k (ep+1) es')) id p room) w':=
  { hext with
   same:=hsame
   size:=hz
   frame:=fun b hb hn=>hw b hb (hn id hlive)
   old:=fun _ h _=>.inl h
   oldb:=fun _ h _=>.inl h
   liv:=fun i b h1 h2 hb=>by
    simp only[cJ.older]at h1 h2;split at h2
    ·rcases hp b h2 with h|h
     ·exact⟨id,hlive,h⟩
     omega
    rename_i hii;exact⟨i,by rw[hs.H];rwa [iN hii]at h1,h2⟩ }
 refine⟨⟨rfl,by rw[show (c.older _ id p room).N=c.N from rfl,hs.N];simp,hs.sb,fun b hb=>aN (hs.low b hb) hz,fun i b h1 h2=>?_,fun i j b hi hj hbi hbj=>?_,fun i o hio=>?_⟩,hstp⟩
 ·simp only[cJ.older]at h1 h2 ⊢;split at h2
  ·rcases hp b h2 with h|h
   ·obtain⟨a1,a2⟩:=hs.plow id b hlive h;exact⟨aN a1 hz,a2⟩
   exact⟨h.2,fun hb=>absurd (hs.low b hb) (by omega)⟩
  rename_i hii;rw[iN hii,←hs.H]at h1;obtain⟨a1,a2⟩:=hs.plow i b h1 h2;exact⟨aN a1 hz,a2⟩
 ·simp only[cJ.older]at hi hj hbi hbj;split at hbi
  ·split at hbj
   ·omega
   rename_i h1 h2;rw[iN h2,←hs.H]at hj;rcases hp b hbi with h|h
   ·exact absurd (hs.inj id j b hlive hj h hbj) (fun e=>h2 e.symm)
   have:=(hs.plow j b hj hbj).1;omega
  rename_i h1;rw[iN h1,←hs.H]at hi;split at hbj
  ·rcases hp b hbj with h|h
   ·exact absurd (hs.inj id i b hlive hi h hbi) (fun e=>h1 e.symm)
   have:=(hs.plow i b hi hbi).1;omega
  rename_i h2;rw[iN h2,←hs.H]at hj;exact hs.inj i j b hi hj hbi hbj
 by_cases hii:i=id
 ·subst hii;rw[hself]at hio;cases hio;exact hobj hext
 rw[cX (fun e=>hii e.symm)]at hio;refine (hs.obj i o hio).ext hext (fun _=>by simp[cJ.older,hii]) fun hnd b hb=>hw b ?_ fun e=>?_
 ·exact (hs.plow i b (by rw[hs.H];exact fun h=>hnd ((pz hio).1 h)) hb).1
 exact hii (hs.inj i id b (by rw[hs.H];exact fun h=>hnd ((pz hio).1 h)) hlive hb e)
theorem WideB.bytes_inj'{a b:ByteArray}(h:a.data=b.data):a=b:=by cases a;cases b;cases h;rfl
def mW(M:cO)(w:World)(c:cJ)(k:Nat)(ys:List ap)(A:Array Value):Prop:=
 A.size=ys.length*k∧∃f:Nat→Nat→Value,(∀i j,i<ys.length→j<k→A[i*k+j]?=some (f i j)∧(f i j).oneCell'=true) ∧
  ∀i (hi:i<ys.length) j (hj:j<(cellsOf ys[i]).length),R M w c (cellsOf ys[i])[j] (f i j)
theorem mW.ext{c c':cJ}{w':World}{k:Nat}{ys:List ap}{A:Array Value}(h:mW M w c k ys A)(he:Ext c w c' w'):mW M w' c' k ys A:=
 let ⟨h1,f,h2,h3⟩:=h
 ⟨h1,f,h2,fun i hi j hj=>(h3 i hi j hj).ext he⟩
theorem mW.nil{c:cJ}{k:Nat}:mW M w c k [] #[]:=⟨by simp,fun _ _=>undef,fun i j hi=>absurd hi (by simp),fun i hi=>absurd hi (by simp)⟩
theorem oX{i j k n:Nat}(hi:i<n)(hj:j<k):i*k+j<n*k:=by
 have:(i+1)*k≤n*k:=bO k hi;rw[dy]at this;omega
theorem C3{c:cJ}{k n:Nat}(hk:k≠0){b o:Nat}{ys:List ap}(hn:ys.length=n)(f:Nat→Nat→Value)
  (hc:∀i j,i<n→j<k→w.cell? ⟨b,o+i*k+j,none⟩=some (f i j)∧(f i j).oneCell'=true)
  (hr:∀i (hi:i<ys.length) j (hj:j<(cellsOf ys[i]).length),R M w c (cellsOf ys[i])[j] (f i j)) :
  ∃A,mW M w c k ys A∧∀w',w'.heap=w.heap→(loadCells ⟨b,o,none⟩ (n*k)).run P w'=.ok A w':=by
 have hcell:∀w':World,w'.heap=w.heap→∀p,p<n*k→w'.cell? ((⟨b,o,none⟩:Addr).add p)=some (f (p/k) (p%k)):=fun w' hw p hp=>by
  rw[ja];have h1:p/k<n:=(jo (fF hk)).2 hp;have h2:p%k<k:=pC _ (fF hk);have:=(hc (p/k) (p%k) h1 h2).1;have e:o+p/k*k+p%k=o+p:=by have:=mZ p k;rw[gm]at this;omega
  rw[e]at this;simp only[World.cell?,hw]at this ⊢;exact this
 refine⟨_,⟨?_,f,fun i j hi hj=>⟨?_,(hc i j (hn▸hi) hj).2⟩,hr⟩,fun w' hw=>run_loadCells w' _ (n*k) (fun p=>f (p/k) (p%k)) (hcell w' hw)⟩
 ·simp[hn]
 have hlt:=oX (n:=n) (hn▸hi) hj;have e1:(i*k+j)/k=i:=by rw[gm,Nat.mul_add_div (fF hk),Nat.div_eq_of_lt hj];omega
 have e2:(i*k+j)%k=j:=by rw[gm,kp,jx hj]
 simp[hlt,e1,e2]
theorem Zb{c:cJ}{σ:aw}(hs:ek M w c σ){y:ap}{cy:Value}(hy:R M w c y cy){ys:List ap}(h:rd σ y=some ys){k:Nat}(hk:k≠0)(hall:∀x∈ys,aC x=k) :
  (∀w',(Builtin.lenOf cy).run P w'=.ok ys.length w')∧∃A,mW M w c k ys A∧∀w',w'.heap=w.heap→(Builtin.firstCells k ys.length cy).run P w'=.ok A w':=by
 cases hy with
 |any=>simp[rd]at h
 |int=>simp[rd]at h
 |bool=>simp[rd]at h
 |@emp _ _ cap a _=>
  simp only[rd,az]at h;subst h;refine⟨fun w'=>rfl,#[],mW.nil,fun w' _=>?_⟩;cases a<;>simp[Builtin.firstCells,loadCells,loadCellsFrom]
 |nilp=>simp[rd]at h
 |nilf=>simp[rd]at h
 |nilm=>simp[rd]at h
 |agg=>simp[rd]at h
 |tup=>simp[rd]at h
 |ptr=>simp[rd]at h
 |ptrOld=>simp[rd]at h
 |cptr=>simp[rd]at h
 |asl=>simp[rd]at h
 |aslOld=>simp[rd]at h
 |fn=>simp[rd]at h
 |imap=>simp[rd]at h
 |mp=>simp[rd]at h
 |mpOld=>simp[rd]at h
 |yld=>simp[rd]at h
 |yldOld=>simp[rd]at h
 |it=>simp[rd]at h
 |itOld=>simp[rd]at h
 |@str _ s t ht=>
  simp only[rd,az]at h;subst h ht;have hsz:t.data.toList.length=t.size:=by simp
  simp only[cR,hsz];refine⟨fun w'=>rfl,(t.data.map fun b=>Value.int .u8 b.toNat),?_,fun w' _=>?_⟩
  rotate_left 1
  ·have hx:t.extract 0 t.size=t:=by
    apply WideB.bytes_inj';simp
   simp only[Builtin.firstCells,hx];rfl
  by_cases h0:t.data.toList=[]
  ·have e:t.data=#[]:=by rw[←Array.toList_eq_nil_iff];exact h0
   rw[h0,e];simpa using mW.nil
  have hk1:k=1:=by
   obtain⟨x,hx⟩:=fJ _ h0;exact (hall _ (gb hx)).symm
  subst hk1;refine⟨by simp,fun i _=>Value.int .u8 (t.data.getD i 0).toNat,fun i j hi hj=>?_,fun i hi j hj=>?_⟩
  ·have:j=0:=by omega
   subst this;have hi':i<t.data.size:=by simpa using hi
   have e:t.data[i]?=some t.data[i]:=by simp
   simp[e,Value.oneCell']
  have hi':i<t.data.size:=by simpa using hi
  simp only[cP,cellsOf,cn,cK]at hj ⊢;have:j=0:=by omega
  subst this;have e:t.data[i]?=some t.data[i]:=by simp
  simp[e];exact .int
 |@aa _ b xs cap a K f h1 h2 h3 h4 h5 h6 h7=>
  simp only[rd,az]at h;subst h;refine⟨fun w'=>rfl,?_⟩;by_cases h0:xs=[]
  ·subst h0;exact⟨#[],mW.nil,fun w' hw=>by simp[Builtin.firstCells,loadCells,loadCellsFrom]⟩
  have hK:K=k:=by
   obtain⟨x,hx⟩:=fJ _ h0;rw[←h5 x hx,hall x hx]
  subst hK;obtain⟨blk,o,sp⟩:=a;simp only at h2;subst h2;exact C3 hk rfl f h6 (fun i hi j hj=>(h7 i hi j hj).ext (Ext.ofStill hs.sb _))
 |@imm0 _ b cap a=>
  simp only[rd,az]at h;subst h;exact⟨fun w'=>rfl,#[],mW.nil,fun w' hw=>by cases a<;>simp[Builtin.firstCells,loadCells,loadCellsFrom]⟩
 |@lst _ xs cap a K f h1 h2 h3 h4 h5 h6 h7=>
  simp only[rd,az]at h;subst h;refine⟨fun w'=>rfl,?_⟩;by_cases h0:xs=[]
  ·subst h0;exact⟨#[],mW.nil,fun w' hw=>by simp[Builtin.firstCells,loadCells,loadCellsFrom]⟩
  have hK:K=k:=by
   obtain⟨x,hx⟩:=fJ _ h0;rw[←h5 x hx,hall x hx]
  subst hK;obtain⟨blk,o,sp⟩:=a;simp only at h2;subst h2;exact C3 hk rfl f h6 h7
 |@lst0 _ cap a=>
  simp only[rd,az]at h;subst h;exact⟨fun w'=>rfl,#[],mW.nil,fun w' hw=>by cases a<;>simp[Builtin.firstCells,loadCells,loadCellsFrom]⟩
 |@ai _ a=>
  simp only[rd,az]at h;subst h;exact⟨fun w'=>rfl,#[],mW.nil,fun w' hw=>by cases a<;>simp[Builtin.firstCells,loadCells,loadCellsFrom]⟩
 |@sl _ id ep off len cap k' blk h1 h2 h3 h4 h5=>
  obtain⟨k2,es,ho,hl,rfl⟩:=nA h;have hH:c.H id=.arr k2 ep:=by rw[hs.H,dV ho]
  have hkk:k'=k2:=by rw[hH]at h2;cases h2;rfl
  subst hkk;obtain⟨o1,o2,o3,o4⟩:=hs.obj id _ ho;obtain⟨cs,T,F,q1,q2,q3,q4,q5⟩:=o4 blk h3;have hlen:((es.drop off).take len).length=len:=by simp;omega
  rw[hlen];refine⟨fun w'=>rfl,?_⟩;by_cases h0:len=0
  ·subst h0;exact⟨#[],by simp;exact mW.nil,fun w' hw=>by simp[Builtin.firstCells,loadCells,loadCellsFrom]⟩
  have hK:k'=k:=by
   have hm:((es.drop off).take len)[0]'(by omega)∈(es.drop off).take len:=aO _;rw[←hall _ hm];exact (o2 _ (dC (cN hm))).symm
  subst hK;refine C3 (o:=off*k') hk hlen (fun i j=>F (off+i) j) (fun i j hi hj=>?_) (fun i hi j hj=>?_)
  ·obtain⟨a1,a2⟩:=q4 (off+i) j (by omega) hj;refine⟨?_,a2⟩;simp only[World.cell?,q1];rw[show off*k'+i*k'+j=(off+i)*k'+j by rw[dy]];exact a1
  rw[hlen]at hi;have e:((es.drop off).take len)[i]'(by rw[hlen];exact hi)=es[off+i]'(by omega):=by simp
  have hj':j<(cellsOf (es[off+i]'(by omega))).length:=by rw[←e];exact hj
  have:=q5 (off+i) (by omega) j hj';simp only[dB,dY];exact this
 |@sl0 _ id ep off k' a h1 h2=>
  obtain⟨k2,es,ho,hl,rfl⟩:=nA h;simp only[List.take_zero,cK];exact⟨fun w'=>rfl,#[],mW.nil,fun w' hw=>by cases a<;>simp[Builtin.firstCells,loadCells,loadCellsFrom]⟩
 |@slOld _ id ep off len v h0 h1 h2 h3 h4=>
  obtain⟨k2,es,ho,hl,rfl⟩:=nA h;have hH:c.H id=.arr k2 ep:=by rw[hs.H,dV ho]
  exact absurd (h2 _ _ hH) (dn _)
theorem If(n:Nat):∀(r c:Nat),c≤2*n+192→Builtin.growBy n r c≤2*n+192
 |0,c,h=>h
 |r+1,c,h=>by
  simp only[Builtin.growBy];split
  ·exact h
  exact If n r _ (by omega)
theorem vr{n c:Nat}(h:c<n):Builtin.nextslicecap n c≤2*n+192:=by
 unfold Builtin.nextslicecap;split
 ·omega
 split
 ·omega
 exact If n 4 c (by omega)
structure UJ (P:Program) (T U:TypeId) (k:Nat):Prop where
 ex:∃(e:TypeId) (i:TypeInfo) (z:Value) (d:TypeDesc),P.underlying T=some (.slice e)∧P.info? e=some i∧i.size=k∧i.zero=some z∧z.cells.size=k∧i.bytes≤1024∧i.bytes≠0 ∧
  P.underlying U=some d∧(∀q,d≠.int q)
 k0:k≠0
theorem SB{c:cJ}{σ:aw}(hs:ek M w c σ){x:ap}{cx:Value}(hx:R M w c x cx)(h:zA σ x=true):∃a n cap,cx=.slice a n cap∧n≤cap:=by
 cases hx with
 |aa K f h1 h2 h3=>exact⟨_,_,_,rfl,h3⟩
 |imm0=>exact⟨_,_,_,rfl,cd _⟩
 |lst K f h1 h2 h3=>exact⟨_,_,_,rfl,h3⟩
 |lst0=>exact⟨_,_,_,rfl,cd _⟩
 |ai=>exact⟨_,_,_,rfl,cd _⟩
 |sl h1 h2 h3 h4=>exact⟨_,_,_,rfl,h4⟩
 |sl0=>exact⟨_,_,_,rfl,cd _⟩
 |slOld h0 h1 h2 h3 h4=>
  simp only[zA,fresh]at h;split at h
  ·rename_i k e es he;have hH:=dV he;rw[←hs.H]at hH;have:=h2 _ _ hH;simp at h;omega
  cases h
 |_=>simp[zA]at h
theorem Kv{T U ty:TypeId}{k:Nat}(ht:UJ P T U k){a:Option Addr}{n cap m:Nat}{cy:Value}{A:Array Value}{w':World}(hl:(Builtin.lenOf cy).run P w=.ok m w)(hf:(Builtin.firstCells k m cy).run P w=.ok A w)(hroom:n+m≤cap)
  (hst:∀b,a=some b→(storeCells (b.add (n*k)) A.toList).run P w=.ok () w') (hn:a=none→w'=w) :
  (Builtin.append_ #[T,U] ty #[.slice a n cap,cy]).run P w=.ok (.slice a (n+m) cap) w':=by
 obtain⟨⟨e,i,z,d,h1,h2,h3,h4,hzc,h5,h6,h7,h8⟩,hk⟩:=ht;have hd:(match d with|.int _=>true|_=>false)=false:=by cases d<;>first|rfl|exact absurd rfl (h8 _)
 cases a with
 |none=>
  obtain rfl:=hn rfl;simp[Builtin.append_,run_underlying h1,run_underlying h7,sizeOf,typeInfo,h2,h3,hd,hl,hf,hroom]
 |some b=>
  have:=hst b rfl;simp[Builtin.append_,run_underlying h1,run_underlying h7,sizeOf,typeInfo,h2,h3,hd,hl,hf,hroom,this]
theorem I0{T U ty:TypeId}{k:Nat}(ht:UJ P T U k){a:Option Addr}{n cap m:Nat}{cy:Value}{A B:Array Value}(hl:(Builtin.lenOf cy).run P w=.ok m w)
  (hf:∀w',w'.heap=w.heap→(Builtin.firstCells k m cy).run P w'=.ok A w') (ho:∀w',w'.heap=w.heap→(Builtin.firstCells k n (.slice a n cap)).run P w'=.ok B w') (hroom:cap<n+m) (hbig:n+m≤aV) :
  ∃(cap':Nat) (T':TypeId) (C:Array Value) (w1:World),w1.heap=w.heap∧Same w w1∧n+m≤cap'∧C.size=(cap' - (n+m))*k ∧
   (Builtin.append_ #[T,U] ty #[.slice a n cap,cy]).run P w=.ok (.slice (some ⟨w.heap.size,0,none⟩) (n+m) cap') (iw w1 (.cells (B++A++C) T' (0,0))):=by
 obtain⟨⟨e,i,z,d,h1,h2,h3,h4,hzc,h5,h6,h7,h8⟩,hk⟩:=ht;have hd:(match d with|.int _=>true|_=>false)=false:=by cases d<;>first|rfl|exact absurd rfl (h8 _)
 have hm:aV=68719476736:=rfl;have hn:¬(n+m≤cap):=by omega
 have h63':¬(9223372036854775807<((n:Int)+(m:Int))):=by omega
 have h48':¬(281474976710656<Builtin.nextslicecap (n+m) cap*i.bytes):=by
  have a1:=vr hroom;have a2:Builtin.nextslicecap (n+m) cap*i.bytes≤(2*(n+m)+192)*1024:=Nat.mul_le_mul a1 h5;omega
 have hf':=hf w.drew rfl;have ho':=ho w.drew rfl;refine⟨(Question.appendCap (n+m) cap e).cut (w.tape w.drawn (.appendCap (n+m) cap e)),e,Builtin.zeroCells z.cells ((Question.appendCap (n+m) cap e).cut (w.tape w.drawn (.appendCap (n+m) cap e))-(n+m)),w.drew,rfl,⟨rfl,rfl,rfl,aB _⟩,?_,?_,?_⟩
 rotate_left 2
 ·simp[Builtin.append_,run_underlying h1,run_underlying h7,sizeOf,typeInfo,zeroValue,h2,h3,h4,hl,hn,h63',h48',Question.forced,hf',ho',newRow];rfl
 ·simp[Question.cut]
 simp[Builtin.zeroCells,hzc]
theorem mW.append{c:cJ}{k:Nat}{xs ys:List ap}{A B:Array Value}(ha:mW M w c k xs A)(hb:mW M w c k ys B):mW M w c k (xs++ys) (A++B):=by
 obtain⟨a1,f,a2,a3⟩:=ha;obtain⟨b1,g,b2,b3⟩:=hb;refine⟨by simp[a1,b1,dy],fun i j=>if i<xs.length then f i j else g (i-xs.length) j,fun i j hi hj=>?_,fun i hi j hj=>?_⟩
 ·dsimp only;by_cases h:i<xs.length
  ·rw[if_pos h,dN (by rw[a1];exact oX h hj)];exact a2 i j h hj
  rw[if_neg h,jT (by rw[a1];have:xs.length*k≤i*k:=bO k (by omega);omega)];have:=b2 (i-xs.length) j (by simp at hi;omega) hj;rw[a1,show i*k+j-xs.length*k=(i-xs.length)*k+j by
   have:i*k=(i-xs.length)*k+xs.length*k:=by rw[←Nat.add_mul];congr 1;omega
   omega]
  exact this
 dsimp only;by_cases h:i<xs.length
 ·rw[if_pos h];have e:(xs++ys)[i]=xs[i]:=bH h;simp only[e]at hj ⊢;exact a3 i h j hj
 rw[if_neg h];have e:(xs++ys)[i]=ys[i-xs.length]'(by simp at hi;omega):=ct (by omega);simp only[e]at hj ⊢;exact b3 _ _ j hj
theorem gG.ofHeap{c:cJ}{w':World}(e:w'.heap=w.heap)(hs:Same w w'):gG c w c w':=
 { Ext.heap e with same:=hs,size:=by rw[e];exact aB _,frame:=fun b _ _=>by rw[e],liv:=fun id b a1 a2 _=>⟨id,a1,a2⟩,old:=fun _ h _=>.inl h,oldb:=fun _ h _=>.inl h }
theorem acJ{c:cJ}{σ:aw}(hs:ek M w c σ){id k ep:Nat}{es es':List ap}(ho:σ[id]?=some (.arr k ep es)){A C:Array Value}{T:TypeId}(hk:k≠0)(hall:∀x∈es',aC x=k)(hr:mW M w c k es' A){n cap:Nat}(hn:es'.length=n)(hc:n≤cap)(hC:C.size=(cap-n)*k) :
  ∃c',ek M (iw w (.cells (A++C) T (0,0))) c' (σ.set id (.arr k (ep+1) es'))∧gG c w c' (iw w (.cells (A++C) T (0,0))) ∧
   R M (iw w (.cells (A++C) T (0,0))) c' (.sl id (ep+1) 0 n) (.slice (some ⟨w.heap.size,0,none⟩) n cap):=by
 obtain⟨f0,f,f1,f2⟩:=hr;have hlt:id<σ.length:=(ak.1 ho).1
 obtain⟨h1,h2⟩:=hs.older ho (es':=es') (p:=some w.heap.size) (room:=(A++C).size) (w':=iw w (.cells (A++C) T (0,0))) (fun b hb _=>fa hb) (by rw[eu];omega) lW
  (fun b hb=>by cases hb;exact .inr ⟨aB _,by rw[eu];omega⟩) (fun hext=>by
   refine⟨hk,hall,fun hn=>by simp[cJ.older]at hn,fun b hb=>?_⟩;have hb':b=w.heap.size:=by simp[cJ.older]at hb;exact hb.symm
   subst hb';refine⟨A++C,T,f,nU,by simp[f0],by simp[cJ.older],fun i j hi hj=>?_,fun i hi j hj=>(f2 i hi j hj).ext hext⟩;rw[dN (by rw[f0];exact oX hi hj)];exact f1 i j hi hj)
 refine⟨_,h1,h2,?_⟩;have hH:(c.older (σ.set id (.arr k (ep+1) es')) id (some w.heap.size) (A++C).size).H id=.arr k (ep+1):=by
  show hd _ id=_;rw[dV (cr hlt)]
 have:=R.sl (M:=M) (w:=iw w (.cells (A++C) T (0,0))) (c:=c.older (σ.set id (.arr k (ep+1) es')) id (some w.heap.size) (A++C).size) (id:=id) (ep:=ep+1) (off:=0) (len:=n) (cap:=cap) (k:=k) (blk:=w.heap.size)
  (by rw[show (c.older _ id _ _).N=c.N from rfl,hs.N];exact hlt) hH (by simp[cJ.older]) hc (by
   simp[cJ.older,f0,hC,hn];rw[←Nat.add_mul];apply bO;omega)
 simpa using this
structure Xn (P:Program) (w:World) (T U ty:TypeId) (k:Nat) (cy:Value) (m:Nat) (A:Array Value):Prop where
 room:∀{a:Option Addr} {n cap:Nat} {w':World},n+m≤cap→(∀b,a=some b→(storeCells (b.add (n*k)) A.toList).run P w=.ok () w')→(a=none→w'=w) →
  (Builtin.append_ #[T,U] ty #[.slice a n cap,cy]).run P w=.ok (.slice a (n+m) cap) w'
 grow:∀{a:Option Addr} {n cap:Nat} {B:Array Value},(∀w',w'.heap=w.heap→(Builtin.firstCells k n (.slice a n cap)).run P w'=.ok B w')→cap<n+m→n+m≤aV →
  ∃(cap':Nat) (T':TypeId) (C:Array Value) (w1:World),w1.heap=w.heap∧Same w w1∧n+m≤cap'∧C.size=(cap' - (n+m))*k ∧
   (Builtin.append_ #[T,U] ty #[.slice a n cap,cy]).run P w=.ok (.slice (some ⟨w.heap.size,0,none⟩) (n+m) cap') (iw w1 (.cells (B++A++C) T' (0,0)))
theorem CP{c:cJ}{σ σ':aw}(hs:ek M w c σ){x v:ap}{cx cy:Value}(hx:R M w c x cx){ys:List ap}{k:Nat}(hk:k≠0)(h:append k x ys σ=some (v,σ'))
  {T U ty:TypeId} (hsrc:(∀y∈ys,aC y=k)→∃A,mW M w c k ys A∧Xn P w T U ty k cy ys.length A):nD M P c w (do pure (.value (←Builtin.append_ #[T,U] ty #[cx,cy]))) v σ':=by
 unfold append at h;split at h
 ·
  rename_i hys;split at h
  ·rename_i hsl;cases h;obtain⟨a,n,cap,rfl,hle⟩:=SB hs hx hsl;have hy0:ys=[]:=bM hys;subst hy0;obtain⟨A,r4,hap⟩:=hsrc (by simp);have hA:A=#[]:=by
    have:=r4.1;simp at this;exact this
   subst hA;have:=hap.room (a:=a) (n:=n) (cap:=cap) (w':=w) (by simpa using hle) (fun b _=>rfl) (fun _=>rfl);exact nD.quiet hs (by simpa using this) hx
  cases h
 rename_i hys;split at h
 ·rename_i hall;have hall':∀y∈ys,aC y=k:=by simpa [aI] using hall
  obtain⟨A,r4,hap⟩:=hsrc hall';cases x<;>simp only at h<;>first|(cases h;done)|skip
  case ai=>
   split at h
   ·rename_i hbig;cases h;cases hx with
    |@ai _ a=>
     obtain⟨cap',T',C,w1,e1,e2,e3,e4,e5⟩:=hap.grow (a:=a) (n:=0) (cap:=0) (B:=#[]) (fun w' _=>by cases a<;>simp[Builtin.firstCells,loadCells,loadCellsFrom]) (by omega) (by omega);have hs1:=hs.heap e1;obtain⟨f0,f,f1,f2⟩:=r4
     obtain⟨c',h1,h2,h3,h4,hsim,hstp⟩:=hs1.newArr (ep:=0) (T:=T') (es:=ys) (cs:=#[]++A++C) f hk hall' (by simp;omega)
      (fun i j hi hj=>by
       have:=f1 i j hi hj;rw[dN (by simp[f0];exact oX hi hj)];simpa using this)
      (fun i hi j hj=>(f2 i hi j hj).ext (.heap e1))
     have hz:w1.heap.size=w.heap.size:=by rw[e1]
     refine nD.of e5 hsim (gG.trans (gG.ofHeap e1 e2) hstp) ?_;have:=R.sl (M:=M) (w:=iw w1 (.cells (#[]++A++C) T' (0,0))) (c:=c') (id:=σ.length) (ep:=0) (off:=0) (len:=0+ys.length) (cap:=cap') (by omega) h2 h3 e3 (by rw[h4];simp[f0,e4];rw[←Nat.add_mul];apply bO;omega);simpa [hz] using this
   cases h
  case sl id ep off n=>
   split at h
   ·rename_i k' e es ho;split at h
    ·rename_i hcond;obtain⟨rfl,rfl,hle,rfl,hbig⟩:=hcond;cases h;have hlt:id<σ.length:=(ak.1 ho).1;have hH:c.H id=.arr k' e:=by rw[hs.H,dV ho]
     obtain⟨o1,o2,o3,o4⟩:=hs.obj id _ ho;have hall2:∀x∈es.take n++ys,aC x=k':=fun x hx=>by
      rcases cq.1 hx with h|h
      ·exact o2 x (cN h)
      exact hall' x h
     have hlen2:(es.take n++ys).length=n+ys.length:=by simp;omega
     have grow:∀(a:Option Addr) (cap:Nat),cap<n+ys.length→(∃B,mW M w c k' (es.take n) B∧∀w',w'.heap=w.heap→(Builtin.firstCells k' n (.slice a n cap)).run P w'=.ok B w') →
       nD M P c w (do pure (.value (←Builtin.append_ #[T,U] ty #[.slice a n cap,cy]))) (.sl id (e+1) 0 (n+ys.length)) (σ.set id (.arr k' (e+1) (es.take n++ys))):=fun a cap hroom ⟨B,hB,hBr⟩=>by
      obtain⟨cap',T',C,w1,e1,e2,e3,e4,e5⟩:=hap.grow (a:=a) (n:=n) (cap:=cap) hBr hroom hbig;have hs1:=hs.heap e1;obtain⟨c',h1,h2,h3⟩:=acJ (T:=T') hs1 ho (es':=es.take n++ys) (A:=B++A) (C:=C) hk hall2 ((hB.append r4).ext (.heap e1)) hlen2 e3 e4;refine nD.of e5 h1 (gG.trans (gG.ofHeap e1 e2) h2) ?_;rw[e1]at h3;exact h3
     cases hx with
     |@sl _ _ _ _ _ cap k2 blk h1 h2 h3 h4 h5=>
      have hkk:k2=k':=by rw[hH]at h2;cases h2;rfl
      subst hkk;obtain⟨cs,T',F,q1,q2,q3,q4,q5⟩:=o4 blk h3;have hold:∃B,mW M w c k2 (es.take n) B∧∀w',w'.heap=w.heap→(loadCells ⟨blk,0*k2,none⟩ (n*k2)).run P w'=.ok B w':=
       C3 hk (by simp;omega) F (fun i j hi hj=>by
        obtain⟨a1,a2⟩:=q4 i j (by omega) hj;refine⟨?_,a2⟩;simp only[World.cell?,q1];rw[show 0*k2+i*k2+j=i*k2+j by omega];exact a1) (fun i hi j hj=>by
        have hi':i<n:=by simp at hi;omega
        have e:(es.take n)[i]=es[i]'(by omega):=by simp
        have hj':j<(cellsOf (es[i]'(by omega))).length:=by rw[←e];exact hj
        have:=q5 i (by omega) j hj';simp only[dB];exact this)
      by_cases hroom:n+ys.length≤cap
      ·obtain⟨f0,f,f1,f2⟩:=r4;have hcap:cap*k2≤cs.size:=by rw[←q3];simpa using h5
       have hfit:n*k2+ys.length*k2≤cs.size:=by
        rw[←Nat.add_mul];exact aZ (bO k2 hroom) hcap
       have hone:∀v∈A.toList,v.oneCell'=true:=fun v hv=>by
        obtain⟨p,hp,rfl⟩:=bP.1 hv;have hp':p<ys.length*k2:=by simpa [f0] using hp
        have hj:=pC p (fF hk);have hi:p/k2<ys.length:=(jo (fF hk)).2 hp';obtain⟨a1,a2⟩:=f1 (p/k2) (p%k2) hi hj;have e:p/k2*k2+p%k2=p:=by rw[gm];exact mZ p k2
        rw[e]at a1;have:A.toList[p]=f (p/k2) (p%k2):=by
         rw[bW (by simpa using hp)]at a1;simpa using dz a1
        rw[this];exact a2
       obtain⟨w',cs',g1,g2,g3,g4⟩:=lO (P:=P) blk (n*k2) T' A.toList 0 cs w q1 (by simp[f0];omega) hone;have hbs:=(hs.plow id blk (by rw[hH];simp) h3).1;have hcs':∀i j,i<(es.take n++ys).length→j<k2→cs'[i*k2+j]?=some (if i<n then F i j else f (i-n) j)∧(if i<n then F i j else f (i-n) j).oneCell'=true:=fun i j hi hj=>by
        rw[hlen2]at hi;rw[g4];simp only[eF,cw,f0];by_cases hin:i<n
        ·have:=oX hin hj;rw[if_pos hin,if_neg (by omega)];exact q4 i j (by omega) hj
        have hi2:i-n<ys.length:=by omega
        have:=oX hi2 hj;have e:i*k2=(i-n)*k2+n*k2:=by rw[←Nat.add_mul];congr 1;omega
        rw[if_neg hin,if_pos (by omega)];have:=f1 (i-n) j hi2 hj;simp only[eB];rw[show i*k2+j-n*k2=(i-n)*k2+j by omega];exact this
       obtain⟨h6,h7⟩:=hs.older ho (es':=es.take n++ys) (p:=some blk) (room:=c.room id) (w':=w') (fun b hb hnb=>by rw[g2.get _ hbs,if_neg (fun e=>hnb (by rw[e];exact h3))]) (by rw[g2.size];exact aB _) g2.toSame
        (fun b hb=>by cases hb;exact .inl h3) (fun hext=>by
         refine⟨hk,hall2,fun hn=>by simp[cJ.older]at hn,fun b hb=>?_⟩;have hb':b=blk:=by simp[cJ.older]at hb;exact hb.symm
         subst hb';refine⟨cs',T',fun i j=>if i<n then F i j else f (i-n) j,by rw[g2.get _ hbs,if_pos rfl],by rw[hlen2,g3,dy];exact hfit,by simp[cJ.older,g3,q3],hcs',fun i hi j hj=>?_⟩;dsimp only;by_cases hin:i<n
         ·rw[if_pos hin];have e:(es.take n++ys)[i]=es[i]'(by omega):=by rw[bH (by simp;omega)];simp
          have hj':j<(cellsOf (es[i]'(by omega))).length:=by rw[←e];exact hj
          have:=(q5 i (by omega) j hj').ext hext;simp only[e];exact this
         rw[if_neg hin];have hi2:i-n<ys.length:=by rw[hlen2]at hi;omega
         have e:(es.take n++ys)[i]=ys[i-n]'hi2:=by
          rw[ct (by simp;omega)];congr 1;simp;omega
         have hj':j<(cellsOf (ys[i-n]'hi2)).length:=by rw[←e];exact hj
         have:=(f2 (i-n) hi2 j hj').ext hext;simp only[e];exact this)
       have hrun:=hap.room (a:=some ⟨blk,0*k2,none⟩) (n:=n) (cap:=cap) (w':=w') hroom (fun b hb=>by cases hb;rw[ja,kG,cu];exact g1) (fun h=>by cases h);refine nD.of hrun h6 h7 ?_;have hH2:(c.older (σ.set id (.arr k2 (e+1) (es.take n++ys))) id (some blk) (c.room id)).H id=.arr k2 (e+1):=by
        show hd _ id=_;rw[dV (cr hlt)]
       exact R.sl (by rw[show (c.older _ id _ _).N=c.N from rfl,hs.N];exact hlt) hH2 (by simp[cJ.older]) hroom (by simpa [cJ.older] using h5)
      exact grow _ _ (by omega) (by obtain⟨B,b1,b2⟩:=hold;exact⟨B,b1,fun w' hw'=>b2 w' hw'⟩)
     |@sl0 _ _ _ _ k2 a h1 h2=>
      exact grow a 0 (by omega) ⟨#[],by simp;exact mW.nil,fun w' _=>by cases a<;>simp[Builtin.firstCells,loadCells,loadCellsFrom]⟩
     |slOld h0 h1 h2=>exact absurd (h2 _ _ hH) (dn _)
    cases h
   cases h
 cases h
theorem VJ{c:cJ}{σ σ':aw}(hs:ek M w c σ){x y v:ap}{cx cy:Value}(hx:R M w c x cx)(hy:R M w c y cy){ys:List ap}{k:Nat}(hrd:rd σ y=some ys)(h:append k x ys σ=some (v,σ'))
  {T U ty:TypeId} (ht:UJ P T U k):nD M P c w (do pure (.value (←Builtin.append_ #[T,U] ty #[cx,cy]))) v σ':=
 CP hs hx ht.k0 h fun hall=>
  let ⟨r1,A,r4,hf⟩:=Zb hs hy hrd ht.k0 hall
  ⟨A,r4,fun h1 h2 h3=>Kv ht (r1 w) (hf w rfl) h1 h2 h3,fun h1 h2 h3=>I0 ht (r1 w) hf h1 h2 h3⟩
structure adv (P:Program) (T U:TypeId) (k:Nat) (e:TypeId) (i:TypeInfo) (z:Value):Prop where
 sl:P.underlying T=some (.slice e)
 info:P.info? e=some i
 size:i.size=k
 zero:i.zero=some z
 cells:z.cells.size=k
 small:i.bytes≤1024
 some_:i.bytes≠0
 int:∃q,P.underlying U=some (.int q)
 k0:k≠0
theorem TE{T U ty e:TypeId}{k:Nat}{i:TypeInfo}{z:Value}(ht:adv P T U k e i z){q:IntKind}{m:Nat}(hm:m≤aV):Xn P w T U ty k (.int q m) m (Builtin.zeroCells z.cells m):=by
 obtain⟨h1,h2,h3,h4,h5,h6,h7,⟨q',h8⟩,h9⟩:=ht;have hmost:aV=68719476736:=rfl;have hw:IntKind.i64.wrap (m:Int)=m:=by
  simp[IntKind.wrap,IntKind.bits,IntKind.signed];omega
 have hneg:¬((m:Int)<0):=by omega
 have hby:¬(281474976710656<(m:Int)*(i.bytes:Int)):=by
  have:m*i.bytes≤m*1024:=Nat.mul_le_mul_left m h6;have:m*i.bytes≤281474976710656:=by omega
  have:=Int.ofNat_le.2 this;rw[Int.natCast_mul]at this;omega
 have hz:∀w',(if m*i.size=0 then (pure #[]:Sem (Array Value)) else do pure (Builtin.zeroCells (←zeroValue e).cells m)).run P w'=.ok (Builtin.zeroCells z.cells m) w':=fun w'=>by
  by_cases h0:m*i.size=0
  ·rw[if_pos h0];have:m=0:=by
    rcases kv.1 h0 with h|h
    ·exact h
    omega
   subst this;simp[Builtin.zeroCells]
  rw[if_neg h0];simp[zeroValue,typeInfo,h2,h4]
 have hA:∀w',m*i.size≠0→(zeroValue e).run P w'=.ok z w':=fun w' _=>by simp[zeroValue,typeInfo,h2,h4]
 have hA0:m*i.size=0→Builtin.zeroCells z.cells m=#[]:=fun h0=>by
  have:m=0:=by
   rcases kv.1 h0 with h|h
   ·exact h
   omega
  subst this;simp[Builtin.zeroCells]
 refine⟨fun {a n cap w'} hroom hst hn=>?_,fun {a n cap B} ho hroom hbig=>?_⟩
 ·cases a with
  |none=>
   obtain rfl:=hn rfl;by_cases h0:m*i.size=0
   ·simp[Builtin.append_,run_underlying h1,run_underlying h8,sizeOf,typeInfo,h2,asInt,asIntOf,hw,hneg,hby,hroom,h0]
   simp[Builtin.append_,run_underlying h1,run_underlying h8,sizeOf,typeInfo,h2,asInt,asIntOf,hw,hneg,hby,hroom,h0,zeroValue,h4]
  |some b=>
   have:=hst b rfl;rw[←h3]at this;by_cases h0:m*i.size=0
   ·have this':((storeCells (b.add (n*i.size)) []).run P w)=.ok () w':=by rw[hA0 h0]at this;exact this
    simp[Builtin.append_,run_underlying h1,run_underlying h8,sizeOf,typeInfo,h2,asInt,asIntOf,hw,hneg,hby,hroom,h0,this']
   simp[Builtin.append_,run_underlying h1,run_underlying h8,sizeOf,typeInfo,h2,asInt,asIntOf,hw,hneg,hby,hroom,h0,zeroValue,h4,this]
 have hn:¬(n+m≤cap):=by omega
 have h63':¬(9223372036854775807<((n:Int)+(m:Int))):=by omega
 have h48':¬(281474976710656<Builtin.nextslicecap (n+m) cap*i.bytes):=by
  have a1:=vr hroom;have a2:Builtin.nextslicecap (n+m) cap*i.bytes≤(2*(n+m)+192)*1024:=Nat.mul_le_mul a1 h6;omega
 have ho':=ho w.drew rfl;refine⟨(Question.appendCap (n+m) cap e).cut (w.tape w.drawn (.appendCap (n+m) cap e)),e,Builtin.zeroCells z.cells ((Question.appendCap (n+m) cap e).cut (w.tape w.drawn (.appendCap (n+m) cap e))-(n+m)),w.drew,rfl,⟨rfl,rfl,rfl,aB _⟩,?_,?_,?_⟩
 rotate_left 2
 ·rw[←h3]at ho';by_cases h0:m*i.size=0
  ·simp[Builtin.append_,run_underlying h1,run_underlying h8,sizeOf,typeInfo,h2,asInt,asIntOf,hw,hneg,hby,hn,h63',h48',Question.forced,ho',newRow,h0,zeroValue,h4,hA0 h0];rfl
  simp[Builtin.append_,run_underlying h1,run_underlying h8,sizeOf,typeInfo,h2,asInt,asIntOf,hw,hneg,hby,hn,h63',h48',Question.forced,ho',newRow,h0,zeroValue,h4];rfl
 ·simp[Question.cut]
 simp[Builtin.zeroCells,h5]
end Go.AM
namespace Go.AM
variable {M:cO} {w:World} {P:Program}
theorem xz{c:cJ}{σ:aw}(hs:ek M w c σ){id ep:Nat}(h:fresh σ id ep=true):∃k es,σ[id]?=some (.arr k ep es)∧c.H id=.arr k ep:=by
 unfold fresh at h;split at h
 ·rename_i k e es he;have:e=ep:=by simpa using h
  subst this;exact⟨k,es,he,by rw[hs.H,dV he]⟩
 cases h
theorem w8{c:cJ}{σ:aw}(hs:ek M w c σ){id ep i o:Nat}{p:Value}(hp:R M w c (.ptr id ep i o) p)(hf:fresh σ id ep=true) :
  ∃k b,id<c.N∧c.H id=.arr k ep∧c.place id=some b∧p=.pointer (some ⟨b,i*k+o,none⟩):=by
 obtain⟨k,es,he,hH⟩:=xz hs hf;cases hp with
 |ptr h1 h2 h3=>rw[hH]at h2;cases h2;exact⟨_,_,h1,hH,h3,rfl⟩
 |ptrOld h0 h1 h2=>exact absurd (h2 _ _ hH) (dn _)
theorem EU{f:Field}{n:Nat}(h:(P.info? f.type).map (·.size)=some n)(hn:n≠0)(a:Addr):(fieldPlace a f).run P w=.ok (a.add f.offset) w:=by
 unfold fieldPlace;simp[fj h,hn]
theorem agQ{c:cJ}{σ:aw}(hs:ek M w c σ){p v:ap}{cp:Value}(hp:R M w c p cp){S:TypeId}{i off n:Nat}{fs:Array Field}{f:Field}(hS:P.underlying S=some (.struct fs))(hf:fs[i]?=some f)
  (ho:f.offset=off) (hn:(P.info? f.type).map (·.size)=some n) (hn0:n≠0)
  (h:GM σ off p=some v):∃cv,(Instr.fieldAt S cp i).run P w=.ok cv w∧R M w c v cv:=by
 have key:∀b o,(Instr.fieldAt S (.pointer (some ⟨b,o,none⟩)) i).run P w=.ok (.pointer (some ⟨b,o+off,none⟩)) w:=fun b o=>by
  unfold Instr.fieldAt Instr.sureAddr;simp only[Sem.run_bind,run_underlying hS,Result.andThen_ok,hf,Sem.run_pure,EU hn hn0,ja,ho]
 cases p with
 |ptr id ep j o=>
  simp only[GM,Ab]at h;split at h
  ·rename_i hfr;cases h;obtain⟨k,b,h1,h2,h3,rfl⟩:=w8 hs hp hfr;exact⟨_,key _ _,by rw[cA];exact .ptr h1 h2 h3⟩
  cases h
 |cptr b y o=>
  cases h;cases hp with
  |cptr f h1 h2 h3 h4=>exact⟨_,key _ _,by rw[cA];exact .cptr f h1 h2 h3 h4⟩
 |_=>cases h
theorem sW{c:cJ}{i:ap}{ci:Value}{n:Nat}(hi:R M w c i ci)(h:oP i=some n):∃k,ci=.int k n:=by
 cases hi<;>simp only[oP]at h<;>first|(cases h;done)|skip
 split at h
 ·cases h;rename_i h0;exact⟨_,by rw[Int.toNat_of_nonneg h0]⟩
 cases h
theorem ac0{c:cJ}{σ:aw}(hs:ek M w c σ){x v:ap}{cx ci:Value}(hx:R M w c x cx){n:Nat}(hi:∃k,ci=.int k (n:Int)){T e:TypeId}{k:Nat}(hT:P.underlying T=some (.slice e))(hk:(P.info? e).map (·.size)=some k)(hk0:k≠0)
  (h:Ab σ k n x=some v):∃cv,(Instr.indexAt T cx ci).run P w=.ok cv w∧R M w c v cv:=by
 obtain⟨ik,rfl⟩:=hi;have key:∀(a:Addr) (len cap:Nat),n<len→(Instr.indexAt T (.slice (some a) len cap) (.int ik n)).run P w=.ok (.pointer (some (a.add (n*k)))) w:=fun a len cap hlt=>by
  unfold Instr.indexAt;have h0:(0:Int)≤(n:Int)∧(n:Int)<(len:Int):=⟨by omega,by omega⟩;simp only[asIntOf,Sem.run_bind,Sem.run_pure,Result.andThen_ok,run_underlying hT,h0,and_self,bU,fj hk];rfl
 cases x with
 |aa b xs=>
  simp only[Ab,aA]at h;obtain⟨y,hy,h⟩:=h;split at h
  ·rename_i hyk;cases h;obtain⟨hlt,rfl⟩:=ak.1 hy;cases hx with
   |@aa _ _ _ cap a K f h1 h2 h3 h4 h5 h6 h7=>
    obtain⟨blk,o,sp⟩:=a;simp only at h1 h2 h6;subst h2;have hK:K=k:=by rw[←h5 _ (aO hlt)];exact hyk
    subst hK;refine⟨_,key _ _ _ hlt,?_⟩;rw[ja]
    have:=R.cptr (M:=M) (w:=w) (c:=c) (b:=b) (x:=xs[n]) (off:=0) (o:=o+n*K) (blk:=blk) (f n) h1 (by omega) (fun j hj=>h6 n j hlt (by omega)) (fun j hj=>by
     cases b with
     |true=>exact (h7 n hlt j hj).ext (Ext.ofStill hs.sb true)
     |false=>exact h7 n hlt j hj)
    simpa using this
   |imm0=>simp at hlt
  cases h
 |lst xs=>
  simp only[Ab,aA]at h;obtain⟨y,hy,h⟩:=h;split at h
  ·rename_i hyk;cases h;obtain⟨hlt,rfl⟩:=ak.1 hy;cases hx with
   |@lst _ _ cap a K f h1 h2 h3 h4 h5 h6 h7=>
    obtain⟨blk,o,sp⟩:=a;simp only at h1 h2 h6;subst h2;have hK:K=k:=by rw[←h5 _ (aO hlt)];exact hyk
    subst hK;refine⟨_,key _ _ _ hlt,?_⟩;rw[ja];have:=R.cptr (M:=M) (w:=w) (c:=c) (b:=true) (x:=xs[n]) (off:=0) (o:=o+n*K) (blk:=blk) (f n) (hs.sb _ h1) (by omega) (fun j hj=>h6 n j hlt (by omega)) (fun j hj=>h7 n hlt j hj);simpa using this
   |lst0=>simp at hlt
  cases h
 |sl id ep off m=>
  simp only[GM,Ab]at h;split at h
  ·rename_i hc;obtain⟨hlt,ha,hf⟩:=hc;cases h;obtain⟨k',es,he,hH⟩:=xz hs hf;have hkk:k'=k:=by simp only[T0,he]at ha;exact dz ha
   subst hkk;cases hx with
   |@sl _ _ _ _ _ cap k2 blk h1 h2 h3 h4 h5=>
    have hkk:k2=k':=by rw[hH]at h2;cases h2;rfl
    subst hkk;refine⟨_,key _ _ _ hlt,?_⟩;rw[ja,←Nat.add_mul];exact R.ptr (off:=0) h1 hH h3
   |sl0 h1 h2=>omega
   |slOld h0 h1 h2=>exact absurd (h2 _ _ hH) (dn _)
  cases h
 |_=>cases h
theorem ade{c:cJ}{σ:aw}(hs:ek M w c σ){x v:ap}{cx ci:Value}(hx:R M w c x cx){n m s:Nat}(hi:∃k,ci=.int k (n:Int)){T e:TypeId}(hT:P.underlying T=some (.array m e))(hk:(P.info? e).map (·.size)=some s)
  (hn:n<m) (h:GM σ (n*s) x=some v):∃cv,(Instr.indexAt T cx ci).run P w=.ok cv w∧R M w c v cv:=by
 obtain⟨ik,rfl⟩:=hi;have key:∀(b o:Nat),(Instr.indexAt T (.pointer (some ⟨b,o,none⟩)) (.int ik n)).run P w=.ok (.pointer (some ⟨b,o+n*s,none⟩)) w:=fun b o=>by
  unfold Instr.indexAt;have h0:(0:Int)≤(n:Int)∧(n:Int)<(m:Int):=⟨by omega,by omega⟩;simp only[asIntOf,Sem.run_bind,Sem.run_pure,Result.andThen_ok,run_underlying hT,Instr.sureAddr,h0,and_self,bU,fj hk];rw[←ja];rfl
 cases x with
 |ptr id ep j o=>
  simp only[GM,Ab]at h;split at h
  ·rename_i hfr;cases h;obtain⟨k,b,h1,h2,h3,rfl⟩:=w8 hs hx hfr;exact⟨_,key _ _,by rw[cA];exact .ptr h1 h2 h3⟩
  cases h
 |cptr b y o=>
  cases h;cases hx with
  |cptr f h1 h2 h3 h4=>exact⟨_,key _ _,by rw[cA];exact .cptr f h1 h2 h3 h4⟩
 |_=>cases h
theorem aci{c:cJ}{x v:ap}{cx:Value}(hx:R M w c x cx)(hxa:Go.AM.isAgg x=true)(hx0:aC x≠0){T:TypeId}{a:Bool}{s off:Nat}(ht:rr P T a s=true)(h:ue a s x off=some v) :
  ∃A cv,cx=.agg A∧(part T A off).run P w=.ok cv w∧R M w c v cv:=by
 obtain⟨cs,rfl⟩:=pk hxa;cases hx with
 |@agg _ _ vs f h1 h2 h3 h4=>
  by_cases h0:cs=[]
  ·subst h0;exact absurd rfl (hx0:aC (.agg [])≠0)
  have hn0:aC (.agg cs)≠0:=by simp[aC,h0]
  obtain⟨hle,hr⟩:=BC (f:=f) (show r5 M w c (.agg cs) f from ⟨fun j hj=>(h2 j hj).2,h4⟩) hn0 h (fun ha=>by subst ha;exact vO ht);have hle':off+s≤cs.length:=hle;refine⟨vs,_,rfl,?_,hr⟩;unfold part;cases a with
  |true=>
   simp only[Sem.run_bind,rm ht,Result.andThen_ok,bU,fj (tT ht),Sem.run_pure];congr 2;apply Array.ext
   ·simp;omega
   intro j hj1 hj2;simp at hj2;have:=(h2 (off+j) (by omega)).1;rw[bW (by rw[h1];omega)]at this;simp;exact dz this
  |false=>
   obtain rfl:=vO ht;simp only[Sem.run_bind,rm ht,Result.andThen_ok,aH,bQ,(h2 off (by omega)).1,Sem.run_pure]
theorem VR{c:cJ}{σ:aw}(hs:ek M w c σ){x:ap}{cx:Value}(hx:R M w c x cx){n:Nat}(h:qN σ x=some n):∃a cap,cx=.slice a n cap∧n≤cap:=by
 cases hx with
 |aa K f h1 h2 h3=>simp only[qN,az]at h;subst h;exact⟨_,_,rfl,h3⟩
 |imm0=>simp only[qN,cK,az]at h;subst h;exact⟨_,_,rfl,cd _⟩
 |lst K f h1 h2 h3=>simp only[qN,az]at h;subst h;exact⟨_,_,rfl,h3⟩
 |lst0=>simp only[qN,cK,az]at h;subst h;exact⟨_,_,rfl,cd _⟩
 |ai=>simp only[qN,az]at h;subst h;exact⟨_,_,rfl,cd _⟩
 |emp _=>simp only[qN,az]at h;subst h;exact⟨_,_,rfl,cd _⟩
 |sl h1 h2 h3 h4=>
  simp only[qN]at h;split at h
  ·cases h;exact⟨_,_,rfl,h4⟩
  cases h
 |sl0=>
  simp only[qN]at h;split at h
  ·cases h;exact⟨_,_,rfl,cd _⟩
  cases h
 |slOld h0 h1 h2=>
  simp only[qN]at h;split at h
  ·rename_i hf;obtain⟨k,es,he,hH⟩:=xz hs hf;exact absurd (h2 _ _ hH) (dn _)
  cases h
 |_=>simp[qN]at h
theorem ajk{c:cJ}{σ:aw}(hs:ek M w c σ){x:ap}{cx:Value}(hx:R M w c x cx){n:Nat}(h:qN σ x=some n){T ty e:TypeId}(hT:P.underlying T=some (.slice e)) :
  (Builtin.len_ #[T] ty #[cx]).run P w=.ok (.int .i64 n) w:=by
 obtain⟨a,cap,rfl,_⟩:=VR hs hx h;simp[Builtin.len_,run_underlying hT,goInt]
theorem W2{c:cJ}{x:ap}{cx:Value}(hx:R M w c x cx){n:Nat}(h:G4 x=some n):∃s t,x=.str s∧cx=.string t∧t.data.toList=s∧t.size=n:=by
 cases hx with
 |@str _ s t ht=>
  simp only[G4,az]at h;subst ht h;exact⟨_,t,rfl,rfl,rfl,by simp⟩
 |_=>simp[G4]at h
theorem aco{c:cJ}{x:ap}{cx:Value}(hx:R M w c x cx){n:Nat}(h:G4 x=some n){T ty:TypeId}(hT:P.underlying T=some .string) :
  (Builtin.len_ #[T] ty #[cx]).run P w=.ok (.int .i64 n) w:=by
 obtain⟨s,t,rfl,rfl,_,hn⟩:=W2 hx h;simp[Builtin.len_,run_underlying hT,goInt,hn]
theorem Hq{k:IntKind}{n y:Nat}{code:BoundsCode}(h:n≤y):(Instr.sliceBound (.int k n) y code).run P w=.ok n w:=by
 rw[run_sliceBound w k n y code (by omega) (by omega)];simp
theorem ud{len cap l h:Nat}{isS:Bool}{lo hi:Option Value}(hlo:(lo=none∧l=0)∨∃k,lo=some (.int k (l:Int)))(hhi:(hi=none∧h=len)∨∃k,hi=some (.int k (h:Int)))(h1:l≤h)(h2:h≤cap) :
  (Instr.sliceBounds isS len cap lo hi none).run P w=.ok (l,h,cap) w:=by
 unfold Instr.sliceBounds;rcases hlo with⟨rfl,rfl⟩|⟨k,rfl⟩<;>rcases hhi with⟨rfl,rfl⟩|⟨k',rfl⟩<;>simp[Hq h1,Hq h2]
theorem X3{c:cJ}{σ:aw}(hs:ek M w c σ){x v:ap}{cx:Value}(hx:R M w c x cx){n l h:Nat}(hn:qN σ x=some n){lo hi:Option Value}(hlo:(lo=none∧l=0)∨∃k,lo=some (.int k (l:Int)))
  (hhi:(hi=none∧h=n)∨∃k,hi=some (.int k (h:Int))) {s:Nat} (hv:aslice σ s x l h=some v) {T e:TypeId} (hT:P.underlying T=some (.slice e)) (hk:(P.info? e).map (·.size)=some s) :
  ∃cv,(Instr.sliceAt T cx lo hi none).run P w=.ok cv w∧R M w c v cv:=by
 obtain⟨a,cap,rfl,hcap⟩:=VR hs hx hn;have hrun:l≤h→h≤n→(Instr.sliceAt T (.slice a n cap) lo hi none).run P w=.ok (.slice (if cap=l then a else a.map (·.add (l*s))) (h-l) (cap-l)) w:=fun h1 h2=>by
  unfold Instr.sliceAt Instr.slice;simp only[Sem.run_bind,run_underlying hT,Result.andThen_ok,ud hlo hhi h1 (aZ h2 hcap),fj hk,Sem.run_pure]
 cases x with
 |aa b xs=>
  simp only[aslice]at hv;split at hv
  ·rename_i hc;obtain⟨c1,c2,c3⟩:=hc;cases hv;simp only[qN,az]at hn;subst hn;refine⟨_,hrun c1 c2,?_⟩;by_cases h0:h=l
   ·subst h0;simp;exact .imm0
   rw[if_neg (by omega)];cases hx with
   |@aa _ _ _ _ a' K f h1 h2 h3 h4 h5 h6 h7=>
    obtain⟨blk,o,sp⟩:=a';simp only at h1 h2 h6;subst h2;have hK:K=s:=by
     have hm:xs[l]'(by omega)∈xs:=aO _;have:=aI.1 c3 _ hm;rw[←h5 _ hm];simpa using this
    subst hK;have hl2:((xs.drop l).take (h-l)).length=h-l:=by simp;omega
    have:=R.aa (M:=M) (w:=w) (c:=c) (b:=b) (xs:=(xs.drop l).take (h-l)) (cap:=cap-l) (a:=⟨blk,o+l*K,none⟩) K (fun i j=>f (l+i) j) h1 rfl (by omega) h4 (fun y hy=>h5 y (dC (cN hy)))
     (fun i j hi hj=>by
      have:=h6 (l+i) j (by omega) hj;rw[show o+l*K+i*K+j=o+(l+i)*K+j by rw[dy];omega];exact this)
     (fun i hi j hj=>by
      have hi':l+i<xs.length:=by omega
      have e:((xs.drop l).take (h-l))[i]=xs[l+i]:=by simp
      have hj':j<(cellsOf xs[l+i]).length:=by rw[←e];exact hj
      have:=h7 (l+i) hi' j hj';simp only[dB,dY];exact this)
    rw[hl2]at this;simpa [ja] using this
   |imm0=>simp at c2;omega
  cases hv
 |lst xs=>
  simp only[aslice]at hv;split at hv
  ·rename_i hc;obtain⟨c1,c2,c3⟩:=hc;cases hv;simp only[qN,az]at hn;subst hn;refine⟨_,hrun c1 c2,?_⟩;by_cases h0:h=l
   ·subst h0;simp;exact .lst0
   rw[if_neg (by omega)];cases hx with
   |@lst _ _ _ a' K f h1 h2 h3 h4 h5 h6 h7=>
    obtain⟨blk,o,sp⟩:=a';simp only at h1 h2 h6;subst h2;have hK:K=s:=by
     have hm:xs[l]'(by omega)∈xs:=aO _;have:=aI.1 c3 _ hm;rw[←h5 _ hm];simpa using this
    subst hK;have hl2:((xs.drop l).take (h-l)).length=h-l:=by simp;omega
    have:=R.lst (M:=M) (w:=w) (c:=c) (xs:=(xs.drop l).take (h-l)) (cap:=cap-l) (a:=⟨blk,o+l*K,none⟩) K (fun i j=>f (l+i) j) h1 rfl (by omega) h4 (fun y hy=>h5 y (dC (cN hy)))
     (fun i j hi hj=>by
      have:=h6 (l+i) j (by omega) hj;rw[show o+l*K+i*K+j=o+(l+i)*K+j by rw[dy];omega];exact this)
     (fun i hi j hj=>by
      have hi':l+i<xs.length:=by omega
      have e:((xs.drop l).take (h-l))[i]=xs[l+i]:=by simp
      have hj':j<(cellsOf xs[l+i]).length:=by rw[←e];exact hj
      have:=h7 (l+i) hi' j hj';simp only[dB,dY];exact this)
    rw[hl2]at this;simpa [ja] using this
   |lst0=>simp at c2;omega
  cases hv
 |ai=>
  simp only[aslice]at hv;split at hv
  ·rename_i hc;obtain⟨rfl,rfl⟩:=hc;cases hv;refine⟨_,hrun (aB _) (cd _),?_⟩;cases hx;simp;exact .ai
  cases hv
 |sl id ep off m=>
  simp only[aslice]at hv;split at hv
  ·rename_i hc;obtain⟨c1,c2,c3⟩:=hc;cases hv;simp only[qN]at hn;split at hn
   ·rename_i hf;obtain⟨k,es,he,hH⟩:=xz hs hf;cases hn;have hsk:k=s:=by simp only[T0,he]at c3;exact dz c3
    subst hsk;refine⟨_,hrun c1 c2,?_⟩;by_cases hcl:cap=l
    ·have h0:h=l:=by omega
     have hlt:id<c.N:=by cases hx<;>assumption
     subst hcl h0;simp;exact .sl0 hlt hH
    rw[if_neg hcl];cases hx with
    |@sl _ _ _ _ _ _ k2 blk h1 h2 h3 h4 h5=>
     have hkk:k2=k:=by rw[hH]at h2;cases h2;rfl
     subst hkk;simp only[cL,ja,←Nat.add_mul];exact .sl h1 hH h3 (by omega) (by rw[show off+l+(cap-l)=off+cap by omega];exact h5)
    |sl0=>omega
    |slOld h0 h1 h2=>exact absurd (h2 _ _ hH) (dn _)
   cases hn
  cases hv
 |_=>simp[aslice]at hv
end Go.AM
namespace Go.AM
variable {M:cO} {w:World} {P:Program}
def lc(M:cO)(w:World)(c:cJ)(env ls:List ap)(rs:Tmp→Option cB)(tmps:Array Value):Prop:=
 ∀t o,rs t=some o→R M w c (o.eval env ls) (tmps.getD t undef)
theorem lc.ext{c c':cJ}{w':World}{rs:Tmp→Option cB}{env ls:List ap}{tmps:Array Value}(h:lc M w c env ls rs tmps)(he:Ext c w c' w'):lc M w' c' env ls rs tmps:=
 fun t o ho=>(h t o ho).ext he
theorem rJ{a:Act}{d t:Tmp}{v:Value}(hd:d<a.tmps.size):(a.put (some d) v).tmps.getD t undef=if t=d then v else a.tmps.getD t undef:=by
 simp only[Act.put,bA,dt];by_cases h:d=t
 ·subst h;simp[hd]
 have:¬t=d:=fun e=>h e.symm;simp[h,this]
def Jy:ap→ap→Bool
 |.int k n,.int k' n'=>k==k'&&n==n'
 |.bool a,.bool b=>a==b
 |.str a,.str b=>a==b
 |.nilp,.nilp=>true
 |.nilf,.nilf=>true
 |.nilm,.nilm=>true
 |_,_=>false
theorem NC{a b:ap}(h:Jy a b=true):a=b:=by
 cases a<;>cases b<;>simp[Jy]at h<;>first|rfl|(subst h;rfl)|(obtain⟨h1,h2⟩:=h;subst h1 h2;rfl)
def Ck:cB→cB→Bool
 |.env i,.env j=>i==j
 |.loc i,.loc j=>i==j
 |.val a,.val b=>Jy a b
 |_,_=>false
theorem tP{a b:cB}(h:Ck a b=true):a=b:=by
 cases a<;>cases b<;>simp[Ck]at h<;>first|rw[h]|rw[NC h]
def GB(a b:ap):Bool:=isAgg a&&isAgg b&&(kP (cellsOf a) (cellsOf b)==some true)
theorem Ce{a b:ap}(h:lE a b=some true):a=b:=by
 cases a<;>cases b<;>simp[lE]at h
 ·obtain⟨rfl,rfl⟩:=h;rfl
 ·subst h;rfl
 subst h;rfl
theorem zj:∀{a b:List ap},kP a b=some true→a=b
 |[],[],_=>rfl
 |[],_::_,h=>by simp[kP]at h
 |_::_,[],h=>by simp[kP]at h
 |a::x,b::y,h=>by
  simp only[kP,aA]at h;obtain⟨t,h1,h2⟩:=h;cases t with
  |true=>rw[Ce h1,zj h2]
  |false=>simp[aK]at h2
theorem MG{a b:ap}(h:GB a b=true):a=b:=by
 simp only[GB,am,aG]at h;obtain⟨⟨h1,h2⟩,h3⟩:=h;obtain⟨x,rfl⟩:=pk h1;obtain⟨y,rfl⟩:=pk h2;have h3':kP x y=some true:=h3;rw[zj h3']
def jv(M:cO)(rs:Tmp→Option cB):Operand→cB→Bool
 |.tmp t,x=>match rs t with
  |some o=>Ck o x
  |none=>false
 |.const v,.val a=>mF M.fm 6 v a
 |.func f,.val (.fn n [] [])=>M.fm n==f
 |.global g,.val (.cptr false a 0)=>match M.glob g with
  |some a'=>GB a' a
  |none=>false
 |_,_=>false
def iR(M:cO)(w:World)(c:cJ):Prop:=(∀g a,M.glob g=some a→R M w c (.cptr false a 0) (.pointer (some ⟨g,0,none⟩)))∧M.tabs w c.sld
theorem iR.ext{c c':cJ}{w':World}(h:iR M w c)(he:Ext c w c' w'):iR M w' c':=⟨fun g a hg=>(h.1 g a hg).ext he,M.tabs_ext _ _ _ _ h.2 he.sld fun b hb=>he.rest b (.inr hb)⟩
theorem Ha{c:cJ}{rs:Tmp→Option cB}{env ls:List ap}{a:Act}(h:lc M w c env ls rs a.tmps)(hg:iR M w c){x:Operand}{x':cB}(hx:jv M rs x x'=true) :
  R M w c (x'.eval env ls) (a.eval x):=by
 unfold jv at hx;split at hx
 ·split at hx
  ·rename_i o ho;have:=tP hx;subst this;exact h _ _ ho
  cases hx
 ·exact qH hx
 ·rename_i f n;have:M.fm n=f:=by simpa using hx
  subst this;exact .fn (fun _=>undef) (fun _=>undef) rfl rfl (by simp) (by simp) (by simp) (by simp)
 ·split at hx
  ·rename_i a' ha;have:=MG hx;subst this;exact hg.1 _ _ ha
  cases hx
 cases hx
structure qk (F:Fence):Prop where
 fn:∀f,F.fn f
 depth:F.depth=none
 alive:F.alive=false
theorem qk.inRound{F:Fence}(h:qk F)(l:Nat):qk (F.inRound l):=⟨h.fn,h.depth,h.alive⟩
theorem nD.wp{F:Fence}{n:Nat}(hF:qk F){c:cJ}{o:Oper}{a:Act}{v:ap}{σ':aw}(h:nD M P c w (execOp a.eval o) v σ')(hd:∀c,o.op≠.defer c){K:Act→World→Prop}{Q:Exit→Act→World→Prop}
  (hK:∀cv w' c',ek M w' c' σ'→gG c w c' w'→R M w' c' v cv→K (a.put o.dst cv) w'):o.wpIn F n P a w K Q:=by
 obtain⟨nx,w',c',cv,h1,h2,h3,h4,h5⟩:=h;refine⟨fun f _=>hF.fn f,?_⟩;rw[Oper.semAt_eq _ _ _ hd,h1];rcases h2 with rfl|⟨rfl,rfl⟩
 ·exact hK cv w' c' h3 h4 h5
 exact hK undef w' c' h3 h4 h5
end Go.AM
namespace Go.AM
variable {M:cO} {w:World} {P:Program}
def aej(M:cO)(n0:Nat)(w:World)(c:cJ)(k:Nat)(xs:List ap)(cv:Value):Prop:=
 k≠0∧(∀x∈xs,aC x=k) ∧
 ((xs=[]∧∃a,cv=.slice a 0 0) ∨
  ∃(b cap:Nat) (cs:Array Value) (T:TypeId) (f:Nat→Nat→Value),cv=.slice (some ⟨b,0,none⟩) xs.length cap∧n0≤b∧w.heap[b]?=some (.cells cs T (0,0))∧¬c.bor b∧(∀id,c.H id≠.dead→c.place id≠some b) ∧
   xs.length≤cap∧cap*k≤cs.size∧(∀i j,i<xs.length→j<k→cs[i*k+j]?=some (f i j)∧(f i j).oneCell'=true) ∧
   ∀i (hi:i<xs.length) j (hj:j<(cellsOf xs[i]).length),R M w (c.still false) (cellsOf xs[i])[j] (f i j))
inductive RF (M:cO) (n0:Nat) (w:World) (c:cJ):ap→Value→Prop
 |r {v cv}:R M w c v cv→RF M n0 w c v cv
 |frs {k xs cv}:aej M n0 w c k xs cv→RF M n0 w c (.frs k xs) cv
 |tup {k xs vs cv} {cvs:Array Value} (f:Nat→Value):aej M n0 w c k xs cv→cvs.size=vs.length+1→cvs[0]?=some cv→(∀i (h:i<vs.length),cvs[i+1]?=some (f i))→(∀i (h:i<vs.length),R M w c vs[i] (f i)) →
   RF M n0 w c (.tup (.frs k xs::vs)) (.tuple cvs)
theorem ek.stillOld{c:cJ}{σ:aw}(hs:ek M w c σ){b:Nat}(hb:b<w.heap.size)(hl:∀id,c.H id≠.dead→c.place id≠some b) :
  ek M w (c.addStill b) σ∧Ext c w (c.addStill b) w:=by
 have hext:Ext c w (c.addStill b) w:=⟨fun _ h=>.inl h,fun _ h=>.inl h,fun _ _=>rfl,aB _,fun _ _=>.inl rfl,fun _ _ _ _=>⟨rfl,rfl,rfl⟩⟩;refine⟨⟨hs.H,hs.N,fun b hb=>hb.imp (hs.sb b) id,fun x hx=>?_,fun id x h1 h2=>?_,hs.inj,fun id o' ho=>(hs.obj id o' ho).ext hext (fun _=>⟨rfl,rfl,rfl⟩) fun _ _ _=>rfl⟩,hext⟩
 ·rcases hx with hx|hx
  ·exact hs.low x hx
  rw[hx];exact hb
 obtain⟨a1,a2⟩:=hs.plow id x h1 h2;exact⟨a1,fun hx=>hx.elim a2 (fun e=>hl id h1 (by rw[←e];exact h2))⟩
theorem gG.stillOld{c c':cJ}{w':World}{b:Nat}(h:gG c w c' w')(hb:w.heap.size≤b)(he:Ext c' w' (c'.addStill b) w'):gG c w (c'.addStill b) w':=
 { Ext.trans h.toExt he with same:=h.same,size:=h.size,frame:=h.frame,liv:=h.liv,old:=fun x hx hlt=>hx.elim (fun hx=>h.old x hx hlt) fun e=>by omega,oldb:=fun x hx hlt=>hx.elim (fun hx=>h.oldb x hx hlt) fun e=>by omega }
theorem ek.adopt{c c0:cJ}{w0:World}{σ:aw}(hs:ek M w c σ)(hst:gG c0 w0 c w){b k:Nat}{xs:List ap}{cs:Array Value}{T:TypeId}{f:Nat→Nat→Value}(hb0:w0.heap.size≤b)(hb:w.heap[b]?=some (.cells cs T (0,0)))(hnb:¬c.bor b)(hl:∀id,c.H id≠.dead→c.place id≠some b)
  (hk:k≠0) (hall:∀x∈xs,aC x=k) (hsz:xs.length*k≤cs.size) (hc:∀i j,i<xs.length→j<k→cs[i*k+j]?=some (f i j)∧(f i j).oneCell'=true)
  (hr:∀i (hi:i<xs.length) j (hj:j<(cellsOf xs[i]).length),R M w c (cellsOf xs[i])[j] (f i j)) :
  ∃c',c'.N=σ.length+1∧c'.H σ.length=.arr k 0∧c'.place σ.length=some b∧c'.room σ.length=cs.size∧ek M w c' (σ++[.arr k 0 xs])∧gG c0 w0 c' w∧Ext c w c' w:=by
 have hbs:b<w.heap.size:=(bd.1 hb).1;have hext:=Ext.grow (w':=w) hs (.arr k 0 xs) (some b) cs.size (c.loops 0) (fun _ _=>rfl);have key:∀i,hd (σ++[.arr k 0 xs]) i≠.dead→i≠c.N→c.H i≠.dead:=fun i hi hne=>by
  have hlt:i<σ.length:=by
   have:=FM hi;rw[hs.N]at hne;simp at this;omega
  rwa [rN hlt,←hs.H]at hi
 refine⟨c.grow (σ++[.arr k 0 xs]) (some b) cs.size (c.loops 0),by simp[cJ.grow],?_,by simp[cJ.grow,hs.N],by simp[cJ.grow,hs.N],?_,?_,hext⟩
 ·show hd (σ++[.arr k 0 xs]) σ.length=_;rw[dV kE]
 ·refine⟨rfl,rfl,hs.sb,hs.low,fun id x h1 h2=>?_,fun i j x hi hj hbi hbj=>?_,fun id o ho=>?_⟩
  ·simp only[cJ.grow]at h1 h2 ⊢;split at h2
   ·cases h2;exact⟨hbs,hnb⟩
   rename_i hne;exact hs.plow id x (key id h1 hne) h2
  ·simp only[cJ.grow]at hi hj hbi hbj;split at hbi
   ·split at hbj
    ·omega
    rename_i h1 h2;cases hbi;exact absurd hbj (hl j (key j hj h2))
   rename_i h1;split at hbj
   ·cases hbj;exact absurd hbi (hl i (key i hi h1))
   rename_i h2;exact hs.inj i j x (key i hi h1) (key j hj h2) hbi hbj
  by_cases hlt:id<σ.length
  ·rw[bu hlt]at ho;have hne:id≠c.N:=by rw[hs.N];omega
   exact (hs.obj id o ho).ext hext (fun _=>by simp[cJ.grow,hne]) fun _ _ _=>rfl
  have:id=σ.length:=by
   have:=(ak.1 ho).1;simp at this;omega
  subst this;rw[kE]at ho;cases ho;refine⟨hk,hall,fun hn=>by simp[cJ.grow,hs.N]at hn,fun x hx=>?_⟩;have hx':x=b:=by simp[cJ.grow,hs.N]at hx;exact hx.symm
  subst hx';exact⟨cs,T,f,hb,hsz,by simp[cJ.grow,hs.N],hc,fun i hi j hj=>(hr i hi j hj).ext hext⟩
 exact { Ext.trans hst.toExt hext with
  same:=hst.same
  size:=hst.size
  frame:=hst.frame
  old:=hst.old
  oldb:=hst.oldb
  liv:=fun id x h1 h2 hx=>by
   simp only[cJ.grow]at h1 h2;split at h2
   ·cases h2;omega
   rename_i hne;exact hst.liv id x (key id h1 hne) h2 hx }
theorem Gz{c0 c:cJ}{w0:World}{σ:aw}(hs:ek M w c σ)(hst:gG c0 w0 c w){v:ap}{cv:Value}(hv:RF M w0.heap.size w c v cv)(hnt:∀vs,v≠.tup vs)(mat:Bool) :
  ∃c',ek M w c' (ti mat v σ).2∧gG c0 w0 c' w∧Ext c w c' w∧R M w c' (ti mat v σ).1 cv:=by
 cases hv with
 |r h=>
  have e:ti mat v σ=(v,σ):=by
   cases h<;>rfl
  rw[e];exact⟨c,hs,hst,.refl c w,h⟩
 |tup f h=>exact absurd rfl (hnt _)
 |@frs k xs _ h=>
  obtain⟨hk,hall,h⟩:=h;cases mat with
  |true=>
   show ∃c',ek M w c' (σ++[.arr k 0 xs])∧gG c0 w0 c' w∧Ext c w c' w∧R M w c' (.sl σ.length 0 0 xs.length) cv;rcases h with⟨rfl,a,rfl⟩|⟨b,cap,cs,T,f,rfl,h1,h2,h3,h4,h5,h6,h7,h8⟩
   ·
    have hext:=Ext.grow (w':=w) hs (.arr k 0 []) none 0 (c.loops 0) (fun _ _=>rfl);refine⟨c.grow (σ++[.arr k 0 []]) none 0 (c.loops 0),?_,?_,hext,?_⟩
    ·refine hs.grow _ _ _ _ (fun _ _=>rfl) (aB _) (fun b hb=>by cases hb) ⟨hk,by simp,fun _=>rfl,fun b hb=>by simp[cJ.grow,hs.N]at hb⟩
    ·exact gG.trans hst (gG.grow hs _ _ _ _ (.refl w) (fun _ _=>rfl) (aB _) (fun b hb=>by cases hb))
    exact .sl0 (by simp[cJ.grow]) (show hd (σ++[.arr k 0 []]) σ.length=_ by rw[dV kE])
   obtain⟨c',a1,a2,a3,a4,a5,a6,a7⟩:=hs.adopt hst h1 h2 h3 h4 hk hall (aZ (bO k h5) h6) h7 (fun i hi j hj=>(h8 i hi j hj).ext (Ext.ofStill hs.sb false));refine⟨c',a5,a6,a7,?_⟩;have:=R.sl (M:=M) (w:=w) (c:=c') (id:=σ.length) (ep:=0) (off:=0) (len:=xs.length) (cap:=cap) (k:=k) (blk:=b) (by omega) a2 a3 h5 (by rw[a4];simpa using h6);simpa using this
  |false=>
   show ∃c',ek M w c' σ∧gG c0 w0 c' w∧Ext c w c' w∧R M w c' (.aa false xs) cv;rcases h with⟨rfl,a,rfl⟩|⟨b,cap,cs,T,f,rfl,h1,h2,h3,h4,h5,h6,h7,h8⟩
   ·exact⟨c,hs,hst,.refl c w,.imm0⟩
   have hbs:b<w.heap.size:=(bd.1 h2).1;obtain⟨a1,a2⟩:=hs.stillOld hbs h4;refine⟨c.addStill b,a1,hst.stillOld h1 a2,a2,?_⟩
   exact R.aa (a:=⟨b,0,none⟩) k f (by simp[cJ.addStill]) rfl h5 hk hall (fun i j hi hj=>by
    have:=h7 i j hi hj;simp only[World.cell?,h2,cu];exact this) (fun i hi j hj=>(h8 i hi j hj).ext (a2.still false))
theorem Zj{c0 c:cJ}{w0:World}{σ:aw}(hs:ek M w c σ)(hst:gG c0 w0 c w){v:ap}{cv:Value}(hv:RF M w0.heap.size w c v cv)(mat:Bool) :
  ∃c',ek M w c' (mater mat (v,σ)).2∧gG c0 w0 c' w∧R M w c' (mater mat (v,σ)).1 cv:=by
 by_cases ht:∃vs,v=.tup vs
 ·obtain⟨vs,rfl⟩:=ht;cases vs with
  |nil=>
   cases hv with
   |r h=>exact⟨c,hs,hst,h⟩
  |cons v0 vs=>
   show ∃c',ek M w c' (ti mat v0 σ).2∧gG c0 w0 c' w∧R M w c' (.tup ((ti mat v0 σ).1::vs)) cv;cases hv with
   |r h=>
    cases h with
    |@tup _ _ cvs f h1 h2 h3=>
     have h0:=h3 0 (by simp);simp only[cC]at h0;have hnt:(∃us,v0=.tup us)∨∀us,v0≠.tup us:=by
      by_cases h:∃us,v0=.tup us
      ·exact .inl h
      exact .inr fun us e=>h ⟨us,e⟩
     rcases hnt with⟨us,rfl⟩|hnt
     ·exact⟨c,hs,hst,.tup f h1 h2 h3⟩
     obtain⟨c',a1,a2,a3,a4⟩:=Gz hs hst (.r h0) hnt mat;refine⟨c',a1,a2,.tup f (by simpa using h1) (fun i hi=>h2 i (by simpa using hi)) (fun i hi=>?_)⟩;cases i with
     |zero=>exact a4
     |succ i=>exact (h3 (i+1) (by simpa using hi)).ext a3
   |@tup k xs _ cv0 cvs f h h1 h2 h3 h4=>
    obtain⟨c',a1,a2,a3,a4⟩:=Gz hs hst (.frs h) (by intro us e;cases e) mat;refine⟨c',a1,a2,.tup (fun i=>if i=0 then cv0 else f (i-1)) (by simpa using h1) (fun i hi=>?_) (fun i hi=>?_)⟩
    ·cases i with
     |zero=>exact h2
     |succ i=>simpa using h3 i (by simpa using hi)
    cases i with
    |zero=>exact a4
    |succ i=>
     have:=(h4 i (by simpa using hi)).ext a3;simpa using this
 obtain⟨c',a1,a2,_,a4⟩:=Gz hs hst hv (fun vs e=>ht ⟨vs,e⟩) mat;have e:mater mat (v,σ)=ti mat v σ:=by
  unfold mater;cases v<;>first|rfl|exact absurd ⟨_,rfl⟩ ht
 rw[e];exact⟨c',a1,a2,a4⟩
def pA(F:Fence)(n:Nat)(P:Program)(f:FuncId)(cargs:Array Value)(w:World)(R:Value→World→Prop):Prop:=
 ((callFunc f cargs).run P w=.ok (.enter f cargs) w∧CallsIn F n P f cargs w fun e w'=>∃cv,e=.returned cv∧R cv w') ∨
 ∃cv w',(callFunc f cargs).run P w=.ok (.value cv) w'∧R cv w'
def jZ(M:cO)(w:World)(c:cJ)(args:List ap)(cargs:Array Value):Prop:=
 cargs.size=args.length∧∀i (h:i<args.length),∃x,cargs[i]?=some x∧R M w c args[i] x
def fX(M:cO)(c:cJ)(w:World)(σ':aw)(v:ap)(cv:Value)(w':World):Prop:=
 ∃c',ek M w' c' σ'∧gG c w c' w'∧RF M w.heap.size w' c' v cv
def jG(M:cO)(P:Program)(C:gl):Prop:=
 ∀f args σ v σ',C f args σ=some (v,σ')→∀(F:Fence) (n:Nat) (w:World) (c:cJ) (cargs:Array Value),qk F→ek M w c σ→iR M w c→jZ M w c args cargs →
  pA F n P (M.fm f) cargs w (fX M c w σ' v)∧((∃a∈args,wC a=false)→∀(cargs':Array Value) (w':World),(callFunc (M.fm f) cargs').run P w'=.ok (.enter (M.fm f) cargs') w')
def ji(M:cO)(P:Program)(C:gl):Prop:=
 ∀site l env args σ v σ',C site (.frs l []::env++args) σ=some (v,σ')→∀(F:Fence) (n:Nat) (w:World) (c:cJ) (cargs:Array Value) (x:Value),qk F→ek M w c σ→iR M w c→jZ M w c args cargs→ph σ l=true →
  R M w c (.yld l site env) x→∃b tmps w1,x=.func (.yield b) #[] #[]∧(Instr.yield b cargs).run P w=.ok (.round b (c.loops l).fn tmps (c.loops l).assign (c.loops l).body) w1 ∧
   RoundIn F n P b (c.loops l).fn tmps (c.loops l).assign (c.loops l).body w1 fun e w'=>∃cv,e=.returned cv∧fX M c w σ' v cv w'
theorem pA.wp{F:Fence}{n:Nat}(hF:qk F){f:FuncId}{cargs:Array Value}{o:Oper}{a:Act}{R':Value→World→Prop}(h:∀n,pA F n P f cargs w R')(he:execOp a.eval o=callFunc f cargs)(hd:∀c,o.op≠.defer c)
  {K:Act→World→Prop} {Q:Exit→Act→World→Prop} (hK:∀cv w',R' cv w'→K (a.put o.dst cv) w'):o.wpIn F n P a w K Q:=by
 refine⟨fun f _=>hF.fn f,?_⟩;rw[Oper.semAt_eq _ _ _ hd,he];rcases h (n-1) with⟨h1,h2⟩|⟨cv,w',h1,h2⟩
 ·rw[h1];refine⟨fun hx=>absurd hx (by rw[hF.depth];simp),h2.mono fun e w' ⟨cv,hcv,hr⟩=>?_⟩;subst hcv;exact hK cv w' hr
 rw[h1];exact hK cv w' h2
theorem fX.mater{c:cJ}{σ':aw}{v:ap}{cv:Value}{w':World}(h:fX M c w σ' v cv w')(mat:Bool) :
  ∃c',ek M w' c' (mater mat (v,σ')).2∧gG c w c' w'∧R M w' c' (mater mat (v,σ')).1 cv:=
 let ⟨_,h1,h2,h3⟩:=h
 Zj h1 h2 h3 mat
theorem VC{c:cJ}{rs:Tmp→Option cB}{env ls:List ap}{a:Act}(h:lc M w c env ls rs a.tmps)(hg:iR M w c):∀{xs:List Operand} {xs':List cB},xs.length=xs'.length→((xs.zip xs').all fun p=>jv M rs p.1 p.2)=true →
  ∀i (h:i<xs'.length),∃x,(xs.map a.eval)[i]?=some x∧R M w c (xs'[i].eval env ls) x
 |[],[],_,_,i,hi=>absurd hi (by simp)
 |[],_::_,hl,_,_,_=>by simp at hl
 |_::_,[],hl,_,_,_=>by simp at hl
 |x::xs,x'::xs',hl,hok,i,hi=>by
  simp only[gu,eU,am]at hok;cases i with
  |zero=>exact⟨_,rfl,Ha h hg hok.1⟩
  |succ i=>simpa using VC h hg (by simpa using hl) hok.2 i (by simpa using hi)
end Go.AM
namespace Go.AM
variable (M:cO) (P:Program) (rs:Tmp→Option cB)
def As(T:TypeId)(k:Nat):Bool:=(P.info? T).map (·.size)==some k&&k != 0
def pt(T:TypeId)(z:ap):Bool:=match (P.info? T).map (·.zero) with
 |some (some v)=>mF M.fm 8 v z
 |_=>false
def pE(T:TypeId)(k:Nat):Bool:=match (P.info? T).map fun i=>(i.zero,i.bytes) with
 |some (some v,b)=>v.cells.size==k&&decide (b≤1024)&&b != 0
 |_=>false
def lM(T:TypeId):Option TypeId:=match P.underlying T with
 |some (.slice e)=>some e
 |_=>none
def UY(T:TypeId):Bool:=match P.underlying T with
 |some (.int _)=>false
 |some _=>true
 |none=>false
def Qs(T:TypeId)(k:IntKind):Bool:=match P.underlying T with
 |some (.int j)=>j==k
 |_=>false
def zc(T:TypeId):Bool:=match P.underlying T with
 |some (.int _)=>true
 |_=>false
def EQ(T:TypeId):Bool:=match P.underlying T with
 |some .string=>true
 |_=>false
def CI:Option Operand→Option cB→Bool
 |none,none=>true
 |some x,some x'=>jv M rs x x'
 |_,_=>false
def vk(xs:List Operand)(xs':List cB):Bool:=xs.length==xs'.length&&(xs.zip xs').all fun p=>jv M rs p.1 p.2
def sT(place:Nat→Option (Nat×Nat)):List (Nat×Operand)→List (Nat×Nat×cB)→Bool
 |[],[]=>true
 |(i,x)::ps,(off,s,x')::qs=>place i==some (off,s)&&jv M rs x x'&&sT place ps qs
 |_,_=>false
def DD(S:TypeId)(i:Nat):Option Field:=match P.underlying S with
 |some (.struct fs)=>fs[i]?
 |_=>none
end Go.AM
namespace Go.AM
variable {M:cO} {w:World} {P:Program}
theorem jD{T:TypeId}{k:Nat}(h:As P T k=true):(P.info? T).map (·.size)=some k∧k≠0:=by
 simpa [As] using h
theorem fL{T e:TypeId}(h:lM P T=some e):P.underlying T=some (.slice e):=by
 unfold lM at h;split at h
 ·cases h;assumption
 cases h
theorem pU{T:TypeId}{z:ap}(h:pt M P T z=true):∃i v,P.info? T=some i∧i.zero=some v∧(∀w,(zeroValue T).run P w=.ok v w)∧mF M.fm 8 v z=true:=by
 unfold pt at h;unfold zeroValue typeInfo;cases hq:P.info? T with
 |none=>simp[hq]at h
 |some i=>
  simp only[hq,cL]at h;cases hz:i.zero with
  |none=>simp[hz]at h
  |some v=>
   rw[hz]at h;exact⟨i,v,rfl,hz,fun w=>by simp[hq,hz],h⟩
theorem pL{T:TypeId}{k:Nat}(h:pE P T k=true):∃i z,P.info? T=some i∧i.zero=some z∧z.cells.size=k∧i.bytes≤1024∧i.bytes≠0∧∀w,(zeroValue T).run P w=.ok z w:=by
 unfold pE at h;cases hq:P.info? T with
 |none=>simp[hq]at h
 |some i=>
  simp only[hq,cL]at h;cases hz:i.zero with
  |none=>simp[hz]at h
  |some v=>
   rw[hz]at h;simp only[am,aG,aR,fV]at h;exact⟨i,v,rfl,hz,h.1.1,h.1.2,h.2,fun w=>by simp[zeroValue,typeInfo,hq,hz]⟩
theorem Gw{c:cJ}{v:ap}{cv:Value}(h:R M w c v cv){k:Nat}(hn:aC v=k)(hk:k≠0):cv.cells.size=k:=by
 obtain⟨_,_,h2,_⟩:=qP h (by omega);omega
theorem I1{c:cJ}{σ:aw}(hs:ek M w c σ){T e:TypeId}{k len:Nat}(hT:P.underlying T=some (.slice e))(hk:(P.info? e).map (·.size)=some k)(hk0:k≠0)(hz:pE P e k=true)(hb:len*k≤2^24)
  {vs:List ap} {cvs:List Value} (hl:vs.length=len) (hlc:cvs.length=len) (hr:∀i (h:i<vs.length) (h':i<cvs.length),R M w c vs[i] cvs[i]) (hn:∀v∈vs,aC v=k) (hlen:len≠0) {parts:Array (Nat×Value)} (hp:parts.toList=(List.range len).zip cvs) :
  nD M P c w (do pure (.value (←Instr.buildSlice T len parts))) (.lst vs) σ:=by
 obtain⟨i,z,z1,z2,z3,_,_,z4⟩:=pL hz;obtain⟨f,f1,f2,f3⟩:=yA (c:=c) hk0 (by omega) hr hn;obtain⟨B,b1,b2,b3⟩:=yl k cvs 0 ((Array.range (len*k)).map (z.cells[· % z.cells.size]!)) (fun v hv=>by
  obtain⟨j,hj,rfl⟩:=bP.1 hv;exact Gw (hr j (by omega) hj) (hn _ (aO _)) hk0) (by simp;rw[hlc];exact aB _)
 rw[hlc,←List.range_eq_range']at b1;obtain⟨h1,h2⟩:=hs.addStill (.cells B e (0,0));have hlk:¬(len*k=0):=fun e=>(kv.1 e).elim hlen hk0;refine⟨.value (.slice (some ⟨w.heap.size,0,none⟩) len len),iw w (.cells B e (0,0)),c.addStill w.heap.size,_,?_,.inl rfl,h1,h2,?_⟩
 ·have hb':¬(16777216<len*k):=by omega
  simp[Instr.buildSlice,run_underlying hT,fj hk,z4,hp,hb',hlk,newRow,b1];rfl
 have:=R.lst (M:=M) (w:=iw w (.cells B e (0,0))) (c:=c.addStill w.heap.size) (xs:=vs) (a:=⟨w.heap.size,0,none⟩) (cap:=len) k f (by simp[cJ.addStill]) rfl (by omega) hk0 hn (fun i j hi hj=>by
  have:=f2 i j hi hj;simp only[World.cell?,nU];have hlt:=oX hi hj;have hb3:=b3 (i*k+j);rw[if_pos (by rw[hlc,cu];rw[hl]at hlt;omega)]at hb3;rw[show 0+i*k+j=i*k+j by omega];refine⟨?_,this.2⟩;rw[show i*k+j-0*k=i*k+j by omega,this.1]at hb3;exact hb3) (fun i hi j hj=>(f3 i hi j hj).ext h2.toExt)
 rw[hl]at this;exact this
theorem OL{c:cJ}{σ:aw}(hs:ek M w c σ){T e:TypeId}{k len:Nat}(hT:P.underlying T=some (.slice e))(hk:(P.info? e).map (·.size)=some k)(hk0:k≠0)(hz:pE P e k=true)(hb:len*k≤2^24)
  {vs:List ap} {cvs:List Value} (hl:vs.length=len) (hlc:cvs.length=len) (hr:∀i (h:i<vs.length) (h':i<cvs.length),R M w c vs[i] cvs[i]) (hn:∀v∈vs,aC v=k) (hlen:len≠0) {parts:Array (Nat×Value)} (hp:parts.toList=(List.range len).zip cvs) :
  nD M P c w (do pure (.value (←Instr.buildSlice T len parts))) (.sl σ.length 0 0 vs.length) (σ++[.arr k 0 vs]):=by
 obtain⟨i,z,z1,z2,z3,_,_,z4⟩:=pL hz;obtain⟨f,f1,f2,f3⟩:=yA (c:=c) hk0 (by omega) hr hn;obtain⟨B,b1,b2,b3⟩:=yl k cvs 0 ((Array.range (len*k)).map (z.cells[· % z.cells.size]!)) (fun v hv=>by
  obtain⟨j,hj,rfl⟩:=bP.1 hv;exact Gw (hr j (by omega) hj) (hn _ (aO _)) hk0) (by simp;rw[hlc];exact aB _)
 rw[hlc,←List.range_eq_range']at b1;have hB:B.size=len*k:=by rw[b2];simp
 have hlk:¬(len*k=0):=fun e=>(kv.1 e).elim hlen hk0
 obtain⟨c',h1,h2,h3,h4,hsim,hstp⟩:=hs.newArr (ep:=0) (T:=e) (es:=vs) (cs:=B) f hk0 hn (by rw[hB,hl];exact aB _)
  (fun i j hi hj=>by
   have:=f2 i j hi hj;have hlt:=oX hi hj;have hb3:=b3 (i*k+j);rw[if_pos (by rw[hlc,cu];rw[hl]at hlt;omega),show i*k+j-0*k=i*k+j by omega,this.1]at hb3;exact⟨hb3,this.2⟩) f3
 refine⟨.value (.slice (some ⟨w.heap.size,0,none⟩) len len),iw w (.cells B e (0,0)),c',_,?_,.inl rfl,hsim,hstp,?_⟩
 ·have hb':¬(16777216<len*k):=by omega
  simp[Instr.buildSlice,run_underlying hT,fj hk,z4,hp,hb',hlk,newRow,b1];rfl
 have:=R.sl (M:=M) (w:=iw w (.cells B e (0,0))) (c:=c') (id:=σ.length) (ep:=0) (off:=0) (len:=len) (cap:=len) (k:=k) (blk:=w.heap.size) (by omega) h2 h3 (aB _) (by rw[h4,hB];simp);rw[hl];simpa using this
theorem DT{c:cJ}{σ:aw}(hs:ek M w c σ){k:Nat}(hk:k≠0)(a:Option Addr) :
  ∃c',ek M w c' (σ++[.arr k 0 []])∧gG c w c' w∧R M w c' (.sl σ.length 0 0 0) (.slice a 0 0):=by
 refine⟨c.grow (σ++[.arr k 0 []]) none 0 (c.loops 0),?_,?_,?_⟩
 ·refine hs.grow _ _ _ _ (fun _ _=>rfl) (aB _) (fun b hb=>by cases hb) ⟨hk,by simp,fun _=>rfl,fun b hb=>by simp[cJ.grow,hs.N]at hb⟩
 ·exact gG.grow hs _ _ _ _ (.refl w) (fun _ _=>rfl) (aB _) (fun b hb=>by cases hb)
 exact .sl0 (by simp[cJ.grow]) (show hd (σ++[.arr k 0 []]) σ.length=_ by rw[dV kE])
theorem acG{c:cJ}{σ:aw}(hs:ek M w c σ){T e:TypeId}{k:Nat}(hT:P.underlying T=some (.slice e))(hk0:k≠0)(hz:pE P e k=true){zero:ap}(hz':pt M P e zero=true)(hn:aC zero=k){m:Nat}(hm:m≤aV)(hk:(P.info? e).map (·.size)=some k){k1 k2:IntKind} :
  nD M P c w (do pure (.value (←Instr.makeSlice T (.int k1 m) (.int k2 m)))) (.sl σ.length 0 0 m) (σ++[.arr k 0 (List.replicate m zero)]):=by
 obtain⟨i,z,z1,z2,z3,zb,_,z4⟩:=pL hz;obtain⟨i',z',y1,y2,y3,y4⟩:=pU hz';rw[z1]at y1;cases y1;rw[z2]at y2;cases y2;have hsz:i.size=k:=by rw[z1]at hk;simpa using hk
 have hR:R M w c zero z:=qH y4;obtain⟨g,hg,hgs,hgc⟩:=qP hR (by omega);have hmost:aV=68719476736:=rfl;have hby:(i.bytes:Int)*(m:Int)≤281474976710656:=by
  have:i.bytes*m≤1024*m:=bO m zb;have:i.bytes*m≤281474976710656:=by omega
  rw[←Int.natCast_mul];exact Int.ofNat_le.2 this
 have hrun:=run_make (P:=P) w T e i z hT z1 z2 k1 k2 m m (by omega) (Int.le_refl _) hby (by omega)
 obtain⟨c',h1,h2,h3,h4,hsim,hstp⟩:=hs.newArr (ep:=0) (T:=e) (es:=List.replicate m zero) (cs:=madeCells z.cells (m*k)) (fun _ j=>g j) hk0 (fun x hx=>by rw[(List.mem_replicate.1 hx).2];exact hn) (by simp[size_madeCells])
  (fun i' j hi hj=>by
   have hi':i' < m:=by simpa using hi
   have hlt:=oX hi' hj;have e1:(i' * k+j)%k=j:=by rw[gm,kp,jx hj]
   have e2:=hgc j (by omega);refine⟨?_,hg.one j (by omega)⟩;have e3:z.cells[j]! = g j:=by rw[getElem!_def,e2]
   simp[madeCells,hlt,z3,e1,e3])
  (fun i' hi j hj=>by
   have e1:(List.replicate m zero)[i']=zero:=iB ..;simp only[e1]at hj ⊢;exact hg.rel j hj)
 refine⟨.value (.slice (some ⟨w.heap.size,0,none⟩) m m),_,c',_,?_,.inl rfl,hsim,hstp,?_⟩
 ·rw[Sem.run_bind,hrun];simp[hsz];rfl
 have:=R.sl (M:=M) (w:=iw w (.cells (madeCells z.cells (m*k)) e (0,0))) (c:=c') (id:=σ.length) (ep:=0) (off:=0) (len:=m) (cap:=m) (k:=k) (blk:=w.heap.size) (by omega) h2 h3 (aB _) (by rw[h4,size_madeCells];simp);simpa using this
theorem Zo{c:cJ}{σ:aw}(hs:ek M w c σ)(T:TypeId):nD M P c w (do pure (.value (←Instr.makeMap T none))) (.mp σ.length) (σ++[.map []]):=by
 have hext:=Ext.grow (w':=iw w (.map #[] 0)) hs (.map []) (some w.heap.size) 0 (c.loops 0) (fun b hb=>fa hb);refine⟨.value (.map (some w.heap.size)),iw w (.map #[] 0),c.grow (σ++[.map []]) (some w.heap.size) 0 (c.loops 0),_,rfl,.inl rfl,?_,?_,?_⟩
 ·refine hs.grow _ _ _ _ (fun b hb=>fa hb) (by rw[eu];omega) (fun b hb=>by cases hb;rw[eu];omega) ?_;exact⟨w.heap.size,0,#[],fun _=>undef,fun _=>undef,by simp[cJ.grow,hs.N],nU,rfl,fun i hi=>absurd hi (by simp),fun i hi=>absurd hi (by simp),fun i hi=>absurd hi (by simp)⟩
 ·exact gG.grow hs _ _ _ _ lW (fun b hb=>fa hb) (by rw[eu];omega) (fun b hb=>by cases hb;exact aB _)
 refine .mp (by simp[cJ.grow]) ?_ (by simp[cJ.grow,hs.N]);show hd (σ++[.map []]) σ.length=_;rw[dV kE]
theorem acg{c:cJ}{σ σ':aw}(hs:ek M w c σ){x v:ap}{cx:Value}(hx:R M w c x cx)(h:OE σ x=some (v,σ')){T:TypeId}(hT:P.underlying T=some .string):nD M P c w (do pure (.value (←Instr.range T cx))) v σ':=by
 unfold OE at h;split at h
 ·rename_i s;cases h;cases hx with|@str _ _ t ht=>
  have hext:=Ext.grow (w':=iw w (.stringIter t 0)) hs (.it s 0) (some w.heap.size) 0 (c.loops 0) (fun b hb=>fa hb);refine⟨.value (.pointer (some ⟨w.heap.size,0,none⟩)),iw w (.stringIter t 0),c.grow (σ++[.it s 0]) (some w.heap.size) 0 (c.loops 0),_,?_,.inl rfl,?_,?_,?_⟩
  ·simp[Instr.range,run_underlying hT,newObj,iw,Sem.run]
  ·refine hs.grow _ _ _ _ (fun b hb=>fa hb) (by rw[eu];omega) (fun b hb=>by cases hb;rw[eu];omega) ?_;exact⟨w.heap.size,t,by simp[cJ.grow,hs.N],ht,nU⟩
  ·exact gG.grow hs _ _ _ _ lW (fun b hb=>fa hb) (by rw[eu];omega) (fun b hb=>by cases hb;exact aB _)
  refine .it (by simp[cJ.grow]) ?_ (by simp[cJ.grow,hs.N]);show hd (σ++[.it s 0]) σ.length=_;rw[dV kE]
 cases h
theorem XU{c:cJ}{σ σ':aw}(hs:ek M w c σ){x v:ap}{cx:Value}(hx:R M w c x cx)(h:vM σ x=some (v,σ')){T:TypeId}:nD M P c w (do pure (.value (←Instr.next cx true T))) v σ':=by
 unfold vM at h;split at h
 ·rename_i id;split at h
  ·rename_i s pos ho;have hH:c.H id=.it:=by rw[hs.H,dV ho]
   have hlive:c.H id≠.dead:=by rw[hH];simp
   obtain⟨b,t,q1,q2,q3⟩:=hs.obj id _ ho;cases hx with
   |itOld a0 a1 a2=>exact absurd a2 hlive
   |it a1 a2 a3=>
    rw[q1]at a3;cases a3;have hsz:t.size=s.length:=by rw[←q2,cw];rfl
    have hts:(⟨s.toArray⟩:ByteArray)=t:=by rw[←q2,Array.toArray_toList]
    split at h
    ·rename_i hlt;cases h;rw[hts];have hset:rF w { w with heap:=w.heap.setIfInBounds b (.stringIter t (pos+(Utf8.decode t pos).2)) } b (.stringIter t (pos+(Utf8.decode t pos).2)):=⟨⟨rfl,rfl,rfl,aB _⟩,rfl⟩;have hbn:=hs.plow id b hlive q1;have hobj:rz M { w with heap:=w.heap.setIfInBounds b (.stringIter t (pos+(Utf8.decode t pos).2)) } c id (.it s (pos+(Utf8.decode t pos).2)):=⟨b,t,q1,q2,by rw[hset.get _ hbn.1,if_pos rfl]⟩;have hlt':=(ak.1 ho).1;obtain⟨hsim,hext⟩:=hs.setObj' ho (by simp) (by rw[dV (cr hlt'),dV ho]) q1 hset hobj;refine .of (c':=c) (w':={ w with heap:=w.heap.setIfInBounds b (.stringIter t (pos+(Utf8.decode t pos).2)) }) (cv:=.tuple #[.bool true,.int .i64 pos,.int .i32 (Utf8.decode t pos).1]) ?_ hsim (gG.setB hs hlive q1 hset hext) ?_
     ·simp[Instr.next,getObj,setObj,Sem.run,q3,hsz,hlt,goInt]
     refine .tup (fun i=>if i=0 then .bool true else if i=1 then .int .i64 pos else .int .i32 (Utf8.decode t pos).1) rfl (fun i hi=>?_) (fun i hi=>?_)
     ·match i,hi with
      |0,_=>rfl
      |1,_=>rfl
      |2,_=>rfl
      |i+3,hi=>exact absurd hi (by simp)
     match i,hi with
     |0,_=>exact .bool
     |1,_=>exact .int
     |2,_=>exact .int
     |i+3,hi=>exact absurd hi (by simp)
    rename_i hlt;cases h;refine .of (c':=c) (w':=w) (cv:=.tuple #[.bool false]) ?_ hs (.refl c w) ?_
    ·simp[Instr.next,getObj,Sem.run,q3,hsz,hlt]
    refine .tup (fun _=>.bool false) rfl (fun i hi=>?_) (fun i hi=>?_)
    ·have:i=0:=by simpa using hi
     subst this;rfl
    have:i=0:=by simpa using hi
    subst this;exact .bool
  cases h
 cases h
theorem aef{c:cJ}{σ σ':aw}(hs:ek M w c σ){x v:ap}{cx:Value}(hx:R M w c x cx)(h:V9 σ x=some (v,σ')){T kt et:TypeId}(hT:P.underlying T=some (.map kt et)):nD M P c w (do pure (.value (←Instr.range T cx))) v σ':=by
 unfold V9 at h;split at h
 ·rename_i es;cases h;cases hx with|@imap _ _ _ r clock en f g h1 h2 h3 h4 h5 h6=>
  have h1':c.sld r:=h1;refine⟨.value (.pointer (some ⟨w.heap.size,0,none⟩)),iw w (.mapIter (some r) clock #[] clock),c.grow (σ++[.mit es none es.length]) (some w.heap.size) 0 (c.loops 0),_,?_,.inl rfl,?_,?_,?_⟩
  ·simp[Instr.range,run_underlying hT,getObj,newObj,iw,Sem.run,h2]
  ·refine hs.grow _ _ _ _ (fun b hb=>fa hb) (by rw[eu];omega) (fun b hb=>by cases hb;rw[eu];omega) ?_;have hlt:r<w.heap.size:=hs.low _ (hs.sb _ h1');have he:Ext (c.still false) w ((c.grow (σ++[.mit es none es.length]) (some w.heap.size) 0 (c.loops 0)).still false) (iw w (.mapIter (some r) clock #[] clock)):=
    (Ext.grow (w':=iw w (.mapIter (some r) clock #[] clock)) hs (.mit es none es.length) (some w.heap.size) 0 (c.loops 0) (fun b hb=>fa hb)).still false
   refine⟨w.heap.size,r,clock,clock,#[],en,f,g,by simp[cJ.grow,hs.N],nU,h1',by rw[fa hlt];exact h2,h3,h4,fun i hi=>(h5 i hi).ext he,fun i hi=>(h6 i hi).ext he,aZ (List.length_filter_le ..) (by simp[h3]),fun _=>rfl,fun e h=>by cases h⟩
  ·exact gG.grow hs _ _ _ _ lW (fun b hb=>fa hb) (by rw[eu];omega) (fun b hb=>by cases hb;exact aB _)
  refine .it (by simp[cJ.grow]) ?_ (by simp[cJ.grow,hs.N]);show hd (σ++[.mit es none es.length]) σ.length=_;rw[dV kE]
 cases h
theorem Zd{c:cJ}{σ:aw}(hs:ek M w c σ){x v:ap}{cx:Value}(hx:R M w c x cx)(h:Nd σ x=some v):∃cv,(Instr.entry cx).run P w=.ok cv w∧R M w c v cv:=by
 unfold Nd at h;split at h
 ·rename_i id;split at h
  ·rename_i es e k ho;cases h;have hH:c.H id=.it:=by rw[hs.H,dV ho]
   obtain⟨b,r,last,cl,seen,en,f,g,q1,q2,q3,q4,q5,q6,q7,q8,q9,q10,q11⟩:=hs.obj id _ ho;obtain⟨rfl,st,q,l2,l3,l4,l5⟩:=q11 e rfl;cases hx with
   |itOld a0 a1 a2=>rw[hH]at a2;cases a2
   |it a1 a2 a3=>
    rw[q1]at a3;cases a3;refine⟨.tuple #[q.key,q.val],?_,?_⟩
    ·simp[Instr.entry,getObj,Sem.run,q2,q4,l2,l3]
    refine .tup (fun i=>if i=0 then q.key else q.val) rfl (fun i hi=>?_) (fun i hi=>?_)
    ·match i,hi with
     |0,_=>rfl
     |1,_=>rfl
     |i+2,hi=>exact absurd hi (by simp)
    match i,hi with
    |0,_=>exact l4.ext (Ext.ofStill hs.sb false)
    |1,_=>exact l5.ext (Ext.ofStill hs.sb false)
    |i+2,hi=>exact absurd hi (by simp)
  cases h
 cases h
def iU(M:cO)(w:World)(c:cJ)(es:List (ap×ap))(en:List MapEntry):Prop:=
 en.length=es.length∧∀i (h:i<es.length),∃e,en[i]?=some e∧kg (es[i]).1=true∧R M w c (es[i]).1 e.key∧R M w c (es[i]).2 e.val
theorem iU.tail{c:cJ}{x:ap×ap}{es:List (ap×ap)}{e:MapEntry}{en:List MapEntry}(h:iU M w c (x::es) (e::en)):iU M w c es en:=
 ⟨by simpa using h.1,fun i hi=>by have:=h.2 (i+1) (by simpa using hi);simpa only [er,ea] using this⟩
theorem iU.head{c:cJ}{x:ap×ap}{es:List (ap×ap)}{e:MapEntry}{en:List MapEntry}(h:iU M w c (x::es) (e::en)):kg x.1=true∧R M w c x.1 e.key∧R M w c x.2 e.val:=by
 obtain⟨e',h1,h2,h3,h4⟩:=h.2 0 (by simp);simp at h1;subst h1;exact⟨h2,h3,h4⟩
theorem C8{c:cJ}{a b:ap}{ca cb:Value}(ha:R M w c a ca)(hb:R M w c b cb){t:Bool}(h:EX a b=some t){d:TypeDesc}(hd:∃q,d=.int q):Instr.sameNow d cb ca=some t∧(t=true→a=b):=by
 obtain⟨q,rfl⟩:=hd;unfold EX at h;split at h
 ·split at h
  ·rename_i hk;subst hk;cases h;cases ha;cases hb;simp only[Instr.sameNow,bU,az];exact⟨by rw[cS,aG,aG,eq_comm],fun e=>by rw[aG]at e;rw[e]⟩
  cases h
 cases h
theorem Lp{c:cJ}{k:ap}{ck:Value}(hk:R M w c k ck){d:TypeDesc}(hd:∃q,d=.int q):∀{es:List (ap×ap)} {en:List MapEntry} (n:Nat) {r:Option ap},iU M w c es en→lookup k es=some r →
  (r=none∧Instr.findNow d ck en n=some none)∨∃v i cv,r=some v∧Instr.findNow d ck en n=some (some (i,cv))∧R M w c v cv
 |[],[],n,r,_,h=>by simp only[lookup,az]at h;exact .inl ⟨h.symm,rfl⟩
 |[],_::_,_,_,h,_=>by simp[iU]at h
 |_::_,[],_,_,h,_=>by simp[iU]at h
 |x::es,e::en,n,r,he,h=>by
  obtain⟨_,h2,h3⟩:=he.head;simp only[lookup]at h;split at h
  ·rename_i hq;obtain⟨a1,_⟩:=C8 h2 hk hq hd;cases h;exact .inr ⟨_,n,_,rfl,by simp[Instr.findNow,a1],h3⟩
  ·rename_i hq;obtain⟨a1,_⟩:=C8 h2 hk hq hd;rcases Lp hk hd (n+1) he.tail h with⟨b1,b2⟩|⟨v,i,cv,b1,b2,b3⟩
   ·exact .inl ⟨b1,by simp[Instr.findNow,a1,b2]⟩
   exact .inr ⟨v,i,cv,b1,by simp[Instr.findNow,a1,b2],b3⟩
  cases h
theorem Kt{c:cJ}{k:ap}{ck:Value}(hk:R M w c k ck)(h:tF k=true):∃q n,k=.int q n∧ck=.int q n:=by
 cases k<;>simp[tF]at h;cases hk;exact⟨_,_,rfl,rfl⟩
theorem Tr{k:ap}(h:tF k=true):kg k=true:=by
 cases k<;>first|rfl|(simp[tF]at h)
theorem oc{kt:TypeId}{q:IntKind}(hd:P.underlying kt=some (.int q))(e:Bool)(n:Nat)(v:Value):(Instr.checkKey e (n+1) kt v).run P w=.ok () w:=by
 unfold Instr.checkKey;simp only[Sem.run_bind,run_underlying hd,Result.andThen_ok];cases v<;>rfl
theorem jg{kt:TypeId}{d:TypeDesc}{k:Value}{l:List MapEntry}{a:Option (Nat×Value)}(hd:P.underlying kt=some d)(h:Instr.findNow d k l 0=some a):(Instr.findKey kt k l).run P w=.ok a w:=by
 simp[Instr.findKey,run_underlying hd,h]
theorem R1{c:cJ}{σ:aw}(hs:ek M w c σ){m:ap}{cm:Value}(hm:R M w c m cm){es:List (ap×ap)}(h:wj σ m=some es) :
  (cm=.map none∧es=[])∨∃r en cl,cm=.map (some r)∧w.heap[r]?=some (.map en cl)∧iU M w c es en.toList:=by
 unfold wj at h;split at h
 ·rename_i b es';cases h;cases hm with
  |@imap _ _ _ r clock en f g h1 h2 h3 h4 h5 h6=>
   refine .inr ⟨r,en,clock,rfl,h2,by simpa using h3,fun i hi=>?_⟩;obtain⟨e,e1,e2,e3,e4⟩:=h4 i hi;refine⟨e,by simpa using e1,e4.1,?_,?_⟩
   ·rw[e2];exact (h5 i hi).ext (Ext.ofStill hs.sb b)
   rw[e3];exact (h6 i hi).ext (Ext.ofStill hs.sb b)
 ·cases h;cases hm;exact .inl ⟨rfl,rfl⟩
 ·rename_i id;unfold gj at h;split at h
  ·rename_i es' ho;cases h;obtain⟨b,cl,en,f,g,q1,q2,q3,q4,q5,q6⟩:=hs.obj id _ ho;have hH:c.H id=.map:=by rw[hs.H,dV ho]
   cases hm with
   |@mp _ _ blk h1 h2 h3=>
    rw[q1]at h3;cases h3;refine .inr ⟨b,en,cl,rfl,q2,by simpa using q3,fun i hi=>?_⟩;obtain⟨e,e1,e2,e3,e4⟩:=q4 i hi;exact⟨e,by simpa using e1,e4.1,e2▸q5 i hi,e3▸q6 i hi⟩
   |mpOld h0 h1 h2=>rw[hH]at h2;cases h2
  cases h
 cases h
theorem lG{r:Nat}{es:Array MapEntry}{clock:Nat}(hb:w.heap[r]?=some (.map es clock)):(getObj r).run P w=.ok (.map es clock) w:=by
 simp[getObj,Sem.run,hb]
theorem uK{r:Nat}{es:Array MapEntry}{clock:Nat}(o:Go.Obj)(hb:w.heap[r]?=some (.map es clock)):(setObj r o).run P w=.ok () { w with heap:=w.heap.setIfInBounds r o }:=by
 simp[setObj,Sem.run,hb]
theorem adW{c:cJ}{σ:aw}(hs:ek M w c σ){m k:ap}{cm ck:Value}(hm:R M w c m cm)(hk:R M w c k ck)(hkk:tF k=true){es:List (ap×ap)}(h:wj σ m=some es){r:Option ap}(hl:lookup k es=some r)
  {T kt et:TypeId} {q:IntKind} (hT:P.underlying T=some (.map kt et)) (hkt:P.underlying kt=some (.int q)) {zero:ap} (hz:pt M P et zero=true) (ok:Bool) :
  ∃cv,(Instr.lookup T cm ck ok).run P w=.ok cv w∧R M w c (if ok then .tup [r.getD zero,.bool r.isSome] else r.getD zero) cv:=by
 obtain⟨i,z,_,_,z3,z4⟩:=pU hz;have hzR:R M w c zero z:=qH z4;have fin:∀(x:ap) (cx:Value) (t:Bool),R M w c x cx→R M w c (if ok then .tup [x,.bool t] else x) (if ok then .tuple #[cx,.bool t] else cx):=fun x cx t hx=>by
  cases ok with
  |false=>exact hx
  |true=>
   refine .tup (fun i=>if i=0 then cx else .bool t) rfl (fun i hi=>?_) (fun i hi=>?_)
   ·simp at hi;have:i=0∨i=1:=by omega
    rcases this with rfl|rfl<;>rfl
   simp at hi;have:i=0∨i=1:=by omega
   rcases this with rfl|rfl
   ·exact hx
   exact .bool
 rcases R1 hs hm h with⟨rfl,rfl⟩|⟨b,en,cl,rfl,hb,he⟩
 ·simp only[lookup,az]at hl;subst hl;refine⟨_,?_,fin zero z false hzR⟩;simp[Instr.lookup,run_underlying hT,oc hkt,Instr.findKey,run_underlying hkt,Instr.findNow,z3]
 rcases Lp hk ⟨q,rfl⟩ 0 he hl with⟨rfl,h2⟩|⟨v,i,cv,rfl,h2,h3⟩
 ·refine⟨_,?_,fin zero z false hzR⟩;simp[Instr.lookup,run_underlying hT,lG hb,oc hkt,jg hkt h2,z3]
 refine⟨_,?_,fin v cv true h3⟩;simp[Instr.lookup,run_underlying hT,lG hb,oc hkt,jg hkt h2]
theorem F6{c:cJ}{k v:ap}{ck cv:Value}(hk:R M w c k ck)(hv:R M w c v cv)(hkk:tF k=true){d:TypeDesc}(hd:∃q,d=.int q)(clock:Nat):∀{es:List (ap×ap)} {en:List MapEntry} (n:Nat) {es':List (ap×ap)},iU M w c es en→mput k v es=some es' →
  (Instr.findNow d ck en n=some none∧iU M w c es' (en++[{ key:=ck,val:=cv,born:=clock }])) ∨
  ∃i e cv0,Instr.findNow d ck en n=some (some (n+i,cv0))∧en[i]?=some e∧e.key=ck∧iU M w c es' (en.set i { e with key:=ck,val:=cv })
 |[],[],n,_,_,h=>by
  simp only[mput,az]at h;subst h;refine .inl ⟨rfl,rfl,fun i hi=>?_⟩;have:i=0:=by simp at hi;exact hi
  subst this;exact⟨_,rfl,Tr hkk,hk,hv⟩
 |[],_::_,_,_,h,_=>by simp[iU]at h
 |_::_,[],_,_,h,_=>by simp[iU]at h
 |x::es,e::en,n,es',he,h=>by
  obtain⟨h1,h2,h3⟩:=he.head;simp only[mput]at h;split at h
  ·rename_i hq;obtain⟨a1,a2⟩:=C8 h2 hk hq hd;cases h;have hx:=a2 rfl;obtain⟨q,m,rfl,rfl⟩:=Kt hk hkk;obtain⟨q',m',e1,e2⟩:=Kt h2 (hx▸hkk);rw[hx]at e1;cases e1;refine .inr ⟨0,e,e.val,by simp[Instr.findNow,a1],rfl,e2,by simpa using he.1,fun i hi=>?_⟩;cases i with
   |zero=>exact⟨_,rfl,h1,by rw[hx];exact hk,hv⟩
   |succ i=>
    have:=he.2 (i+1) (by simpa using hi);simpa only [kX,er,ea] using this
  ·rename_i hq;obtain⟨a1,_⟩:=C8 h2 hk hq hd;simp only[aK]at h;obtain⟨es1,hes,rfl⟩:=h
   have cons:∀{en'},iU M w c es1 en'→iU M w c (x::es1) (e::en'):=fun {en'} hh=>⟨by simpa using hh.1,fun i hi=>by
    cases i with
    |zero=>exact⟨_,rfl,h1,h2,h3⟩
    |succ i=>
     have:=hh.2 i (by simpa using hi);simpa only [er,ea] using this⟩
   rcases F6 hk hv hkk hd clock (n+1) he.tail hes with⟨b1,b2⟩|⟨i,e',cv0,b1,b2,b3,b4⟩
   ·exact .inl ⟨by simp[Instr.findNow,a1,b1],cons b2⟩
   exact .inr ⟨i+1,e',cv0,by simp[Instr.findNow,a1,b1];omega,by simpa using b2,b3,by simpa using cons b4⟩
  cases h
theorem TV{c:cJ}{σ σ':aw}(hs:ek M w c σ){m k v:ap}{cm ck cv:Value}(hm:R M w c m cm)(hk:R M w c k ck)(hv:R M w c v cv)(h:Ln σ k v m=some σ')
  {T kt et:TypeId} {q:IntKind} (hT:P.underlying T=some (.map kt et)) (hkt:P.underlying kt=some (.int q)) :
  ∃w',(Instr.mapUpdate T cm ck cv).run P w=.ok () w'∧ek M w' c σ'∧gG c w c w':=by
 unfold Ln at h;split at h
 ·rename_i id;simp only[aA]at h;obtain⟨es,h1,h2⟩:=h;split at h2
  ·rename_i hkk;simp only[aK]at h2;obtain⟨es',h3,rfl⟩:=h2;unfold gj at h1;split at h1
   ·rename_i es0 ho;cases h1;obtain⟨b,cl,en,f,g,q1,q2,q3,q4,q5,q6⟩:=hs.obj id _ ho;have hH:c.H id=.map:=by rw[hs.H,dV ho]
    have he:iU M w c es en.toList:=⟨by simpa using q3,fun i hi=>by
     obtain⟨e,e1,e2,e3,e4⟩:=q4 i hi;exact⟨e,by simpa using e1,e4.1,e2▸q5 i hi,e3▸q6 i hi⟩⟩
    have hB:∀e∈en.toList,e.born<cl:=fun e he=>by
     obtain⟨i,hi,rfl⟩:=bP.1 he;obtain⟨e',e1,_,_,_,e5⟩:=q4 i (by simpa [q3] using hi);rw[bW (by simpa using hi)]at e1;cases e1;simpa using e5
    have hcm:cm=.map (some b):=by
     cases hm with
     |mp a1 a2 a3=>rw[q1]at a3;cases a3;rfl
     |mpOld a0 a1 a2=>rw[hH]at a2;cases a2
    subst hcm;have hlt:=(ak.1 ho).1;have fin:∀(en':Array MapEntry) (cl':Nat),iU M w c es' en'.toList→(∀e∈en'.toList,e.born<cl')→(Instr.mapUpdate T (.map (some b)) ck cv).run P w=.ok () { w with heap:=w.heap.setIfInBounds b (.map en' cl') } →
      ∃w',(Instr.mapUpdate T (.map (some b)) ck cv).run P w=.ok () w'∧ek M w' c (σ.set id (.map es'))∧gG c w c w':=fun en' cl' he' hb' hrun=>by
     have hset:rF w { w with heap:=w.heap.setIfInBounds b (.map en' cl') } b (.map en' cl'):=⟨⟨rfl,rfl,rfl,aB _⟩,rfl⟩;have hlive:c.H id≠.dead:=by rw[hH];simp
     have hbn:=hs.plow id b hlive q1;have hext:Ext c w c { w with heap:=w.heap.setIfInBounds b (.map en' cl') }:=⟨fun _ h=>h,fun _ h=>h,fun y hy=>by rw[hset.get _ hbn.1,if_neg (fun e=>by subst e;exact hbn.2 (hy.elim (fun h=>h) (hs.sb _)))],aB _,fun _ _=>.inl rfl,fun _ _ _ _=>⟨rfl,rfl,rfl⟩⟩;have hobj:rz M { w with heap:=w.heap.setIfInBounds b (.map en' cl') } c id (.map es'):=by
      refine⟨b,cl',en',fun i=>((en'[i]?).map (·.key)).getD undef,fun i=>((en'[i]?).map (·.val)).getD undef,q1,by rw[hset.get _ hbn.1,if_pos rfl],by simpa using he'.1,fun i hi=>?_,fun i hi=>?_,fun i hi=>?_⟩
      ·obtain⟨e,e1,e2,e3,e4⟩:=he'.2 i hi;have e1':en'[i]?=some e:=by simpa using e1
       exact⟨e,e1',by dsimp only;rw[e1'];rfl,by dsimp only;rw[e1'];rfl,e2,hb' e (aD (by simpa using e1'))⟩
      ·obtain⟨e,e1,e2,e3,e4⟩:=he'.2 i hi;have e1':en'[i]?=some e:=by simpa using e1
       dsimp only;rw[e1'];exact e3.ext hext
      obtain⟨e,e1,e2,e3,e4⟩:=he'.2 i hi;have e1':en'[i]?=some e:=by simpa using e1
      dsimp only;rw[e1'];exact e4.ext hext
     obtain⟨hsim,_⟩:=hs.setObj' ho (by simp) (by rw[dV (cr hlt),dV ho]) q1 hset hobj;exact⟨_,hrun,hsim,gG.setB hs hlive q1 hset hext⟩
    rcases F6 hk hv hkk ⟨q,rfl⟩ cl 0 he h3 with⟨b1,b2⟩|⟨i,e,cv0,b1,b2,b3,b4⟩
    ·refine fin (en.push { key:=ck,val:=cv,born:=cl }) (cl+1) (by simpa using b2) (fun e he=>by
      simp only[Array.toList_push,cq,cg]at he;rcases he with he|rfl
      ·exact lJ (hB e he)
      exact mx _) ?_
     simp[Instr.mapUpdate,run_underlying hT,lG q2,oc hkt,jg hkt b1,uK _ q2]
    obtain⟨q',n,rfl,rfl⟩:=Kt hk hkk;rw[cu]at b1;have b2':en[i]?=some e:=by simpa using b2
    have hi:i<en.size:=(bd.1 b2').1;have hei:en[i]=e:=(bd.1 b2').2;have hmod:(en.modify i fun e=>{ e with key:=.int q' n,val:=cv }).toList=en.toList.set i { e with key:=.int q' n,val:=cv }:=by
     apply fp;intro j;simp only[eB,fH,dc];by_cases hij:i=j
     ·subst hij;simp[hi,hei]
     simp[hij]
    refine fin (en.modify i fun e=>{ e with key:=.int q' n,val:=cv }) cl ?_ (fun x hx=>by
     rw[hmod]at hx;rcases ev hx with hx|rfl
     ·exact hB x hx
     exact hB e (aD b2)) ?_
    ·rw[hmod];exact b4
    have hkeep:(Instr.keyThatStays (.int q' n) (.int q' n)).run P w=.ok (.int q' n) w:=by simp[Instr.keyThatStays,Instr.sameBits]
    simp[Instr.mapUpdate,run_underlying hT,lG q2,oc hkt,jg hkt b1,b2',b3,hkeep,uK _ q2]
   cases h1
  cases h2
 cases h
end Go.AM
namespace Go.AM
variable {M:cO} {w:World} {P:Program}
def pv(P:Program)(T:TypeId)(k:Nat):Bool:=rr P T false 1&&(match P.underlying T with
 |some (.int _)=>k==0
 |some .bool=>k==1
 |some .string=>k==2
 |_=>false)
theorem pl{T:TypeId}(h:rr P T false 1=true){cs:Array Value}{off:Nat}{x:Value}(hx:cs[off]?=some x):(part T cs off).run P w=.ok x w:=by
 unfold part;simp[rm h,hx]
theorem HV{s t:ByteArray}:(s==t)=(s.data.toList==t.data.toList):=by
 rw[beq_toListBytes];exact Lw
theorem Ga{c:cJ}{a b:ap}{ca cb:Value}(ha:R M w c a ca)(hb:R M w c b cb){t:Bool}(h:lE a b=some t){T:TypeId}{k:Nat}(hk:tm a=k)(hs:pv P T k=true)(d:Nat) :
  (Op.equalIn (d+1) T ca cb).run P w=.ok t w:=by
 unfold pv at hs;simp only[am]at hs;obtain⟨_,hs⟩:=hs;unfold lE at h;split at h
 ·split at h
  ·rename_i hkk;subst hkk;cases h;cases ha;cases hb;simp only[tm]at hk;subst hk;split at hs
   ·rename_i j hj;exact run_equalIn_int w d T _ _ _ _ hj
   ·cases hs
   ·cases hs
   cases hs
  cases h
 ·cases h;cases ha;cases hb;simp only[tm]at hk;subst hk;split at hs
  ·cases hs
  ·rename_i hj;exact run_equalIn_bool w d T _ _ hj
  ·cases hs
  cases hs
 ·cases h;cases ha with|str h1=>cases hb with|str h2=>
  simp only[tm]at hk;subst hk;split at hs
  ·cases hs
  ·cases hs
  ·rename_i hj;rw[run_equalIn_string w d T _ _ hj,Lw,h1,h2]
  cases hs
 cases h
def fu(M:cO)(w:World)(c:cJ)(i:Nat)(x:List ap)(xs:Array Value):Prop:=∀j (h:j<x.length),∃v,xs[i+j]?=some v∧R M w c x[j] v
theorem fu.tail{c:cJ}{i:Nat}{a:ap}{x:List ap}{xs:Array Value}(h:fu M w c i (a::x) xs):fu M w c (i+1) x xs:=fun j hj=>by
 obtain⟨v,h1,h2⟩:=h (j+1) (by simpa using hj);exact⟨v,by rw[←h1];congr 1;omega,h2⟩
theorem fu.head{c:cJ}{i:Nat}{a:ap}{x:List ap}{xs:Array Value}(h:fu M w c i (a::x) xs):∃v,xs[i]?=some v∧R M w c a v:=h 0 (by simp)
def lK(P:Program):Nat→List Field→List Nat→Bool
 |_,[],[]=>true
 | i,f::fs,k::ks=>f.name != "_" && f.offset == i&&pv P f.type k&&lK P (i+1) fs ks
 |_,_,_=>false
theorem yN{c:cJ}(d:Nat){xs ys:Array Value}:∀(ks:List Nat) (fs:List Field) (i:Nat) (x y:List ap) (t:Bool),lK P i fs ks=true→fu M w c i x xs→fu M w c i y ys→d7 ks x y=some t →
  (Op.eqFields (d+1) xs ys fs).run P w=.ok t w
 |[],[],i,x,y,t,_,_,_,h=>by simp only[d7,az]at h;subst h;rfl
 |[],_::_,_,_,_,_,h,_,_,_=>by simp[lK]at h
 |_::_,[],_,_,_,_,h,_,_,_=>by simp[lK]at h
 |k::ks,f::fs,i,[],y,t,_,_,_,h=>by simp[d7]at h
 |k::ks,f::fs,i,_::_,[],t,_,_,_,h=>by simp[d7]at h
 |k::ks,f::fs,i,a::x,b::y,t,hf,hx,hy,h=>by
  simp only[lK,am,fV,aG]at hf;obtain⟨⟨⟨f1,f2⟩,f3⟩,f4⟩:=hf;have hty:rr P f.type false 1=true:=by unfold pv at f3;simp only[am]at f3;exact f3.1
  simp only[d7]at h;split at h
  ·rename_i hk;simp only[aA]at h;obtain⟨t1,h1,h2⟩:=h;obtain⟨v1,p1,r1⟩:=hx.head;obtain⟨v2,p2,r2⟩:=hy.head;have hc:=Ga (P:=P) r1 r2 h1 hk f3 d;subst f2;simp only[Op.eqFields,ne_eq,f1,iP,bU,Sem.run_bind,pl hty p1,pl hty p2,Result.andThen_ok,hc,Sem.run_ite];cases t1 with
   |true=>
    simp only[bU]at h2;simpa using yN d ks fs _ x y t f4 hx.tail hy.tail h2
   |false=>
    simp at h2;subst h2;simp
  cases h
theorem T3{T:TypeId}{m:Nat}(h:rr P T true m=true)(cs:Array Value)(off:Nat):(part T cs off).run P w=.ok (.agg (cs.extract off (off+m))) w:=by
 unfold part;simp only[Sem.run_bind,rm h,Result.andThen_ok,bU,fj (tT h),Sem.run_pure]
def TG(P:Program)(i:Nat)(f:Field)(ks:List Nat):Bool:=f.name != "_" && f.offset == i&&rr P f.type true ks.length&&!P.stoodInHeld f.type&&(match P.underlying f.type with
 |some (.struct gs)=>lK P 0 gs.toList ks
 |_=>false)
def ri(P:Program):Nat→List Field→List Nat→Bool
 |_,[],[]=>true
 | i,f::fs,k::ks=>(f.name != "_" && f.offset == i&&pv P f.type k&&ri P (i+1) fs ks) || (fs.isEmpty&&TG P i f (k::ks))
 |_,_,_=>false
theorem fu.extract{c:cJ}{i m:Nat}{x:List ap}{xs:Array Value}(h:fu M w c i x xs)(hm:x.length≤m):fu M w c 0 x (xs.extract i (i+m)):=fun j hj=>by
 obtain⟨v,h1,h2⟩:=h j hj;refine⟨v,?_,h2⟩;rw[mg];have:=(bd.1 h1).1;rw[if_pos (by omega),cu];exact h1
theorem Az:∀{ks:List Nat} {x y:List ap},d7 ks (x.take ks.length) (y.take ks.length)=d7 ks x y
 |[],_,_=>by simp[d7]
 |k::ks,[],y=>by simp[d7]
 |k::ks,a::x,[]=>by simp[d7]
 |k::ks,a::x,b::y=>by simp[d7,Az]
theorem fu.take{c:cJ}{i:Nat}{x:List ap}{xs:Array Value}(h:fu M w c i x xs)(m:Nat):fu M w c i (x.take m) xs:=fun j hj=>by
 have hj':j<x.length:=by simp at hj;omega
 obtain⟨v,h1,h2⟩:=h j hj';exact⟨v,h1,by simpa using h2⟩
theorem Cp{c:cJ}(d:Nat){xs ys:Array Value}:∀(ks:List Nat) (fs:List Field) (i:Nat) (x y:List ap) (t:Bool),ri P i fs ks=true→fu M w c i x xs→fu M w c i y ys→d7 ks x y=some t →
  (Op.eqFields (d+2) xs ys fs).run P w=.ok t w
 |[],[],i,x,y,t,_,_,_,h=>by simp only[d7,az]at h;subst h;rfl
 |[],_::_,_,_,_,_,h,_,_,_=>by simp[ri]at h
 |_::_,[],_,_,_,_,h,_,_,_=>by simp[ri]at h
 |k::ks,f::fs,i,[],y,t,_,_,_,h=>by simp[d7]at h
 |k::ks,f::fs,i,_::_,[],t,_,_,_,h=>by simp[d7]at h
 |k::ks,f::fs,i,a::x,b::y,t,hf,hx,hy,h=>by
  simp only[ri,dI]at hf;rcases hf with hf|hf
  ·simp only[am,fV,aG]at hf;obtain⟨⟨⟨f1,f2⟩,f3⟩,f4⟩:=hf;have hty:rr P f.type false 1=true:=by unfold pv at f3;simp only[am]at f3;exact f3.1
   simp only[d7]at h;split at h
   ·rename_i hk;simp only[aA]at h;obtain⟨t1,h1,h2⟩:=h;obtain⟨v1,p1,r1⟩:=hx.head;obtain⟨v2,p2,r2⟩:=hy.head;have hc:=Ga (P:=P) r1 r2 h1 hk f3 (d+1);subst f2;simp only[Op.eqFields,ne_eq,f1,iP,bU,Sem.run_bind,pl hty p1,pl hty p2,Result.andThen_ok,hc,Sem.run_ite];cases t1 with
    |true=>
     simp only[bU]at h2;simpa using Cp d ks fs _ x y t f4 hx.tail hy.tail h2
    |false=>
     simp at h2;subst h2;simp
   cases h
  simp only[TG,am,fV,aG,List.isEmpty_iff]at hf;obtain⟨rfl,⟨⟨⟨f1,f2⟩,f3⟩,f4⟩,f5⟩:=hf;split at f5
  ·rename_i gs hgs;have hst:P.stoodInHeld f.type=false:=by simpa using f4
   have hff:P.fieldsOf f.type=gs:=by unfold Program.fieldsOf;rw[hgs]
   have hsub:∀A B:Array Value,(Op.equalIn (d+2) f.type (.agg A) (.agg B)).run P w=(Op.eqFields (d+1) A B gs.toList).run P w:=fun A B=>by
    rw[run_equalIn_struct w (d+1) f.type A B (by rw[hff];exact hgs) hst,hff]
   rw[←Az]at h;have key:=yN d (k::ks) gs.toList 0 _ _ t f5 ((hx.take (k::ks).length).extract (m:=(k::ks).length) (by rw[cz];omega)) ((hy.take (k::ks).length).extract (m:=(k::ks).length) (by rw[cz];omega)) h;subst f2;simp only[Op.eqFields,ne_eq,f1,iP,bU,Sem.run_bind,T3 f3,Result.andThen_ok,hsub,key,Sem.run_ite];cases t<;>simp
  cases f5
theorem Hs{c:cJ}(d:Nat){xs ys:Array Value}{e:TypeId}{k:Nat}(hs:pv P e k=true):∀(n i:Nat) (x y:List ap) (t:Bool),fu M w c i x xs→fu M w c i y ys→d7 (List.replicate n k) x y=some t →
  (Op.eqItems (d+1) e 1 xs ys (List.range' i n)).run P w=.ok t w
 |0,i,x,y,t,_,_,h=>by simp only[List.replicate_zero,d7,az]at h;subst h;rfl
 |n+1,i,[],y,t,_,_,h=>by simp[gV,d7]at h
 |n+1,i,_::_,[],t,_,_,h=>by simp[gV,d7]at h
 |n+1,i,a::x,b::y,t,hx,hy,h=>by
  have hty:rr P e false 1=true:=by unfold pv at hs;simp only[am]at hs;exact hs.1
  simp only[gV,d7]at h;split at h
  ·rename_i hk;simp only[aA]at h;obtain⟨t1,h1,h2⟩:=h;obtain⟨v1,p1,r1⟩:=hx.head;obtain⟨v2,p2,r2⟩:=hy.head;have hc:=Ga (P:=P) r1 r2 h1 hk hs d;simp only[mq,Op.eqItems,im,Sem.run_bind,pl hty p1,pl hty p2,Result.andThen_ok,hc,Sem.run_ite];cases t1 with
   |true=>
    simp only[bU]at h2;simpa using Hs d hs n (i+1) x y t hx.tail hy.tail h2
   |false=>
    simp at h2;subst h2;simp
  cases h
def Vv(P:Program)(T:TypeId)(ks:List Nat):Bool:=!P.eqGuardType P.depth T&&(match P.underlying T with
 |some (.struct fs)=>!P.stoodInHeld T&&ri P 0 fs.toList ks
 |some (.array n e)=>(match ks with
  |k::_=>pv P e k&&ks==List.replicate n k
  |[]=>false)
 |_=>false)
theorem lB.from{c:cJ}{cs:List ap}{A:Array Value}(h:lB M w c cs A):fu M w c 0 cs A:=fun j hj=>by
 obtain⟨v,h1,_,h3⟩:=h.2 j hj;exact⟨v,by rw[cu];exact h1,h3⟩
theorem Za{c:cJ}{a b:List ap}{xs ys:Array Value}(hxs:lB M w c a xs)(hys:lB M w c b ys){ks:List Nat}{t:Bool}(h1:d7 ks a b=some t){T:TypeId}(hT:Vv P T ks=true) :
  (Op.equalIn 10000 T (.agg xs) (.agg ys)).run P w=.ok t w:=by
 unfold Vv at hT;simp only[am]at hT;obtain⟨_,hT⟩:=hT;split at hT
 ·rename_i fs hfs;simp only[am]at hT;have hst:P.stoodInHeld T=false:=by simpa using hT.1
  have hff:P.fieldsOf T=fs:=by unfold Program.fieldsOf;rw[hfs]
  rw[run_equalIn_struct w 9999 T xs ys (by rw[hff];exact hfs) hst,hff];exact Cp 9997 ks fs.toList 0 a b t hT.2 hxs.from hys.from h1
 ·rename_i n e hne;split at hT
  ·rename_i k ks';simp only[am,aG]at hT;obtain⟨hT1,hT2⟩:=hT;have hty:rr P e false 1=true:=by unfold pv at hT1;simp only[am]at hT1;exact hT1.1
   have hsz:=tT hty;cases hi:P.info? e with
   |none=>rw[hi]at hsz;cases hsz
   |some i=>
    rw[hi]at hsz;have hc1:P.cellsOf e=1:=by unfold Program.cellsOf;rw[hi];simpa using hsz
    rw[run_equalIn_array w 9999 xs ys hne hi,hc1,nu];rw[hT2]at h1;exact Hs 9998 hT1 n 0 a b t hxs.from hys.from h1
  cases hT
 cases hT
theorem aeQ{c:cJ}{x y v:ap}{cx cy:Value}(hx:R M w c x cx)(hy:R M w c y cy){n:Bool}{ks:List Nat}(h:eqa n ks x y=some v){T:TypeId}(hT:Vv P T ks=true){op:BinOp}(hop:op=if n then .neq else .eql)(ox oy:Operand) :
  ∃cv,(do eqGuard op T ox oy cx cy;binOp op T cx cy:Sem Value).run P w=.ok cv w∧R M w c v cv:=by
 unfold eqa at h;split at h
 ·rename_i a b;simp only[aK]at h;obtain⟨t,h1,rfl⟩:=h;have hT0:=hT;unfold Vv at hT;simp only[am]at hT;obtain⟨hg,hT⟩:=hT;have hg':P.eqGuardType P.depth T=false:=by simpa using hg
  cases hx with|@agg _ _ xs f1 a1 a2 a3 a4=>cases hy with|@agg _ _ ys g1 b1 b2 b3 b4=>
  have hxs:lB M w c a xs:=R.rcells (.agg f1 a1 a2 a3 a4);have hys:lB M w c b ys:=R.rcells (.agg g1 b1 b2 b3 b4);have key:(Op.equalIn 10000 T (.agg xs) (.agg ys)).run P w=.ok t w:=Za hxs hys h1 hT0;refine⟨.bool (if n then !t else t),?_,.bool⟩;subst hop;cases n
  ·simp only[aH,bQ,Sem.run_bind,run_eqGuard_agg w .eql T ox oy xs ys hg',Result.andThen_ok,run_eql_struct,key]
  simp only[bU,Sem.run_bind,run_eqGuard_agg w .neq T ox oy xs ys hg',Result.andThen_ok,run_neq_struct,key]
 cases h
theorem aiV{c:cJ}{x y v:ap}{cx cy:Value}(hx:R M w c x cx)(hy:R M w c y cy){n:Bool}(h:eqb n x y=some v){T:TypeId}(hT:P.underlying T=some .bool){op:BinOp}(hop:op=if n then .neq else .eql)(ox oy:Operand) :
  ∃cv,(do eqGuard op T ox oy cx cy;binOp op T cx cy:Sem Value).run P w=.ok cv w∧R M w c v cv:=by
 unfold eqb at h;split at h
 ·cases h;cases hx;cases hy;rename_i a b;refine⟨.bool (if n then !(a==b) else (a==b)),?_,.bool⟩;have key:(Op.equal T (.bool a) (.bool b)).run P w=.ok (a==b) w:=run_equalIn_bool w 9999 T a b hT;subst hop;cases n
  ·simp only[aH,bQ,Sem.run_bind,sP .eql T ox oy (.inr (.inr ⟨a,rfl⟩)),Result.andThen_ok];simp[binOp,key]
  simp only[bU,Sem.run_bind,sP .neq T ox oy (.inr (.inr ⟨a,rfl⟩)),Result.andThen_ok];simp[binOp,key]
 cases h
theorem adz{c:cJ}{σ:aw}(hs:ek M w c σ){x v:ap}{cx:Value}(hx:R M w c x cx){n:Bool}(h:sj n σ x=some v){T e:TypeId}(hT:P.underlying T=some (.slice e)){op:BinOp}(hop:op=if n then .neq else .eql)(ox oy:Operand) :
  ∃cv,(do eqGuard op T ox oy cx (.slice none 0 0);binOp op T cx (.slice none 0 0):Sem Value).run P w=.ok cv w∧R M w c v cv:=by
 have key:∃a l k,cx=.slice a l k∧v=neg n a.isNone:=by
  unfold sj at h;split at h
  ·cases h;cases hx with|emp h=>exact⟨_,_,_,rfl,by rw[h]⟩
  ·cases h
  split at h
  ·rename_i hne _ y ys hrd;cases h;cases hx<;>first|(simp[rd]at hrd;done)|skip
   case str=>exact absurd rfl (hne _)
   case aa=>exact⟨_,_,_,rfl,rfl⟩
   case lst=>exact⟨_,_,_,rfl,rfl⟩
   case sl=>exact⟨_,_,_,rfl,rfl⟩
   case sl0 h1 h2=>
    simp only[rd]at hrd;unfold sliceAt at hrd;split at hrd
    ·split at hrd
     ·simp at hrd
     cases hrd
    cases hrd
   case slOld=>
    rename_i h2 _ _ _ _;simp only[rd]at hrd;unfold sliceAt at hrd;split at hrd
    ·rename_i k e es ho;split at hrd
     ·rename_i hc;have:=h2 k e (by rw[hs.H,dV ho]);omega
     cases hrd
    cases hrd
  cases h
 obtain⟨a,l,k,rfl,rfl⟩:=key;have hq:(Op.equal T (.slice a l k) (.slice none 0 0)).run P w=.ok a.isNone w:=by
  unfold Op.equal Op.maxDepth;unfold Op.equalIn;simp only[Sem.run_bind,run_underlying hT,Result.andThen_ok];cases a<;>rfl
 have hg:(eqGuard op T ox oy (.slice a l k) (.slice none 0 0)).run P w=.ok () w:=by
  unfold eqGuard;subst hop;cases n<;>simp
 refine⟨.bool (if n then !a.isNone else a.isNone),?_,.bool⟩;simp only[Sem.run_bind,hg,Result.andThen_ok];subst hop;cases n
 ·simp[binOp,hq]
 simp[binOp,hq]
theorem VZ{c:cJ}{x v:ap}{cx:Value}(hx:R M w c x cx){n:Bool}(h:isnil n x=some v){T:TypeId}{p q r}(hT:P.underlying T=some (.func p q r))(hx0:x=.nilf∨∃f a b,x=.fn f a b){op:BinOp}(hop:op=if n then .neq else .eql)(ox oy:Operand) :
  ∃cv,(do eqGuard op T ox oy cx .nilFunc;binOp op T cx .nilFunc:Sem Value).run P w=.ok cv w∧R M w c v cv:=by
 have key:∃t,v=neg n t∧(Op.equal T cx .nilFunc).run P w=.ok t w∧(eqGuard op T ox oy cx .nilFunc).run P w=.ok () w:=by
  rcases hx0 with rfl|⟨f,a,b,rfl⟩
  ·cases hx;simp only[isnil,HT,cL,az]at h;refine⟨true,h.symm,?_,?_⟩
   ·unfold Op.equal Op.maxDepth Op.equalIn;simp only[Sem.run_bind,run_underlying hT,Result.andThen_ok];rfl
   unfold eqGuard;subst hop;cases n<;>simp
  cases hx;simp only[isnil,HT,cL,az]at h;refine⟨false,h.symm,?_,?_⟩
  ·unfold Op.equal Op.maxDepth Op.equalIn;simp only[Sem.run_bind,run_underlying hT,Result.andThen_ok];rfl
  unfold eqGuard;subst hop;cases n<;>simp
 obtain⟨t,rfl,hq,hg⟩:=key;refine⟨.bool (if n then !t else t),?_,.bool⟩;simp only[Sem.run_bind,hg,Result.andThen_ok];subst hop;cases n
 ·simp[binOp,hq]
 simp[binOp,hq]
theorem WU{c:cJ}{x v:ap}{cx:Value}(hx:R M w c x cx){n:Bool}(h:isnil n x=some v){T e:TypeId}(hT:P.underlying T=some (.pointer e))(hx0:x=.nilp∨∃b y o,x=.cptr b y o){op:BinOp}(hop:op=if n then .neq else .eql)(ox oy:Operand) :
  ∃cv,(do eqGuard op T ox oy cx (.pointer none);binOp op T cx (.pointer none):Sem Value).run P w=.ok cv w∧R M w c v cv:=by
 have key:∃t a,cx=.pointer a∧v=neg n t∧t=a.isNone:=by
  rcases hx0 with rfl|⟨b,y,o,rfl⟩
  ·cases hx;simp only[isnil,HT,cL,az]at h;exact⟨true,none,rfl,h.symm,rfl⟩
  cases hx;simp only[isnil,HT,cL,az]at h;exact⟨false,some _,rfl,h.symm,rfl⟩
 obtain⟨t,a,rfl,rfl,rfl⟩:=key;have hq:(Op.equal T (.pointer a) (.pointer none)).run P w=.ok a.isNone w:=by
  unfold Op.equal Op.maxDepth Op.equalIn;simp only[Sem.run_bind,run_underlying hT,Result.andThen_ok];cases a<;>rfl
 have hg:(eqGuard op T ox oy (.pointer a) (.pointer none)).run P w=.ok () w:=by
  unfold eqGuard;subst hop;cases n<;>simp
 refine⟨.bool (if n then !a.isNone else a.isNone),?_,.bool⟩;simp only[Sem.run_bind,hg,Result.andThen_ok];subst hop;cases n
 ·simp[binOp,hq]
 simp[binOp,hq]
end Go.AM
