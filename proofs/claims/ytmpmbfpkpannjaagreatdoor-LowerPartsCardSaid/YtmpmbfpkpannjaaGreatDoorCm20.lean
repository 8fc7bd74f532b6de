/- Part of the proof. -/
import Derived.Test.YtmpmbfpkpannjaaGreatDoorCm19
set_option linter.unusedVariables false
set_option linter.unusedSimpArgs false
set_option linter.unusedSectionVars false
namespace Go.AM
open P
set_option maxHeartbeats 64000000
set_option maxRecDepth 40000
attribute [local simp] aG bj
theorem ue{r:fY}{a:Int}{b:List (List UInt8)}(h:uY r a b=true):∃t l,r.toks=t::l:=by
 unfold uY at h;cases hr:r.toks with
 |nil=>rw[hr]at h;cases h
 |cons t l=>exact⟨t,l,rfl⟩
def aek(r:fY)(kind:Int)(s:List UInt8):fY:=if uY r kind [s] then r.nx else r
theorem O3{σ:aw}{id:Nat}{r:fY}(h:At σ id r)(a:Int)(s:List UInt8):cD code I.qfv [aI id 0 0 0,ap a,aO s] σ=some (aC (uY r a [s]),σ.set id (gz (aek r a s))):=by
 have b:=JG r a s;have f:=h.same;have d:=h.get;rw[cZ ant rfl];unfold aek;cases hb:uY r a [s] with
 |false=>
  rw[hb]at b;simp[asV,XJ,d,eF,b,fB,f]
 |true=>
  rw[hb]at b;obtain⟨t,l,g⟩:=ue hb;have e:=wq h t l g;have c:t.a=rv t.k t.at' t.t t.n:=rfl;rw[c]at e;simp[asV,XJ,d,eF,b,e,fB]
def acf:vq:=⟨0,0,[],0,by simp⟩
def UE(r:fY)(b:Bool):vq:=if b then r.toks.headD acf else acf
def KD(r:fY)(b:Bool):fY:=if b then r.nx else nL r 190 (gU r)
theorem PF{σ:aw}{id:Nat}{r:fY}(h:At σ id r)(a:Int)(u e:aq)(b:Bool)(s:∀σ,fz true false 0 σ 20 u=e)
  (n:bB I.qfd [.cptr true r.v 0,ap a,e]=some (aC b)) (w:b=true→∃t l,r.toks=t::l) :
  cD code I.qfh [aI id 0 0 0,ap a,u] σ=some ((UE r b).a,σ.set id (gz (KD r b))):=by
 have m:At (σ++[aB 4 0 [rv 0 0 [] 0]]) id r:=h.app _ (fun τ b _=>by simp[bA,cq,dF]);have c:=MZ h;have d:=s9 h;rw[cZ akT rfl];unfold UE KD;cases b with
 |false=>
  have x:=tC r;have p:=oM m 190 (gU r);have f:=fun o t v=>dM h (nL r 190 (gU r)) o t v;rw[d]at p;have j:acf.a=rv 0 0 [] 0:=rfl;simp only[bq,cH,j];simp[atj,XG,c,eF,s,n,x,p,f,cq,dF]
 |true=>
  obtain⟨t,l,q⟩:=w rfl;have g:=wq m t l q;have f:=fun o t v=>dM h r.nx o t v;rw[d]at g;have k:(r.toks.headD acf).a=rv t.k t.at' t.t t.n:=by rw[q];rfl
  have i:t.a=rv t.k t.at' t.t t.n:=rfl;rw[i]at g;simp only[cw,k];simp[atj,XG,c,eF,s,n,g,f,cq,dF]
theorem V5{σ:aw}{id:Nat}{r:fY}(h:At σ id r)(a:Int):cD code I.qfh [aI id 0 0 0,ap a,.ai] σ=some ((UE r (uY r a [])).a,σ.set id (gz (KD r (uY r a [])))):=
 PF h a .ai (.aa false []) _ (fun σ=>by simp) (PK r a) ue
theorem Qs{σ:aw}{id:Nat}{r:fY}(h:At σ id r)(a:Int)(s:List UInt8):cD code I.qfh [aI id 0 0 0,ap a,.lst [aO s]] σ=some ((UE r (uY r a [s])).a,σ.set id (gz (KD r (uY r a [s])))):=
 PF h a _ (.aa true [aO s]) _ (fun σ=>by simp) (JG r a s) ue
structure eO where
 tag:Int
 l:Int
 r:Int
 v:wC
 table:List UInt8
 name:List UInt8
 h:v.s.length≤8000
abbrev RH(tag l r:Int)(v:wC)(table name:List UInt8):aq:=aH [ap tag,ap l,ap r,ap v.k,ap v.n,.int .u64 v.u,aO v.s,aO table,aO name]
def eO.a(n:eO):aq:=RH n.tag n.l n.r n.v n.table n.name
instance:Nc eO.a 9 true:=⟨fun _=>rfl,fun _=>rfl⟩
instance:Fx eO.a:=⟨fun fl top base σ m x=>by simp[eO.a]⟩
abbrev gN(ns:List eO):aq:=.aa false (ns.map eO.a)
theorem QW(c l r:Int)(v:wC)(a b:List UInt8)(d:v.s.length≤8000):bB I.qeu [RH c l r v a b]=some (gN [⟨c,-1,-1,v,a,b,d⟩]):=by
 rw[aR anz rfl];simp[atz,aeR,eO.a]
theorem wl(k n:Int)(s:List UInt8)(a:s.length≤8000):bB I.qey [ap k,ap n,aO s]=some (gN [⟨1,-1,-1,⟨k,n,0,s⟩,[],[],a⟩]):=by
 rw[aR aoC rfl];have h:=QW 1 0 0 ⟨k,n,0,s⟩ [] [] a;simp only[RH]at h;simp[au5,ahh,h]
def VS(by':Int)(n:eO):eO:=⟨n.tag,if 0≤n.l then IntKind.i64.wrap (n.l+by') else n.l,if 0≤n.r then IntKind.i64.wrap (n.r+by') else n.r,n.v,n.table,n.name,n.h⟩
def vZ:wC:=⟨0,0,0,[]⟩
abbrev NN(tag l r:Int):Obj:=aB 9 0 [RH tag l r vZ [] []]
abbrev J7(tag:Int)(bp:Bool)(ps:aq)(np i:Nat)(p:List eO)(by':Nat)(k m:Nat)(c1 c2:aq):List aq:=
 [ap tag,ps,.ai,aI 0 0 0 0,.sl 1 m 0 m,ap i,gN p,ap by',am,ps,ap np,ap i,c1,gN p,ap p.length,ap k,c2,am,am,am]
theorem abK(d:Int)(e:aq)(o i:Nat)(p:List eO)(c:Nat)(l r:Int)(x:∀base σ m,fz false true base σ (m+3) e=e)(a:List eO)(F:a.length+p.length≤8000) :
  bT code 2 [8,16,17,18] B7 ⟨J7 d false e o i p c 0 a.length (aC true) am,[NN d l r,aB 9 a.length (a.map eO.a)]⟩ =
   some (.ext 2,⟨J7 d false e o i p c p.length (a.length+p.length) (aC true) (aC false),[NN d l r,aB 9 (a.length+p.length) ((a++p.map (VS c)).map eO.a)]⟩):=by
 have D:p.length≤bD:=by unfold bD;omega
 have key:=cY (base:=2) (clr:=[8,16,17,18]) (b:=B7)
  (fun k=>⟨J7 d false e o i p c k (a.length+k) (aC true) am,[NN d l r,aB 9 (a.length+k) ((a++(p.take k).map (VS c)).map eO.a)]⟩) p.length
  (.ext 2,⟨J7 d false e o i p c p.length (a.length+p.length) (aC true) (aC false),[NN d l r,aB 9 (a.length+p.length) ((a++p.map (VS c)).map eO.a)]⟩)
  (fun k s=>by
   have A:p[k]?=some p[k]:=au s;have q:∀h:k<p.length,p[k]'h=p[k]'s:=fun _=>rfl;have t:(k:Int)<(p.length:Int):=by omega
   have E:=cU s D
   have z:a++(p.take (k+1)).map (VS c)=(a++(p.take k).map (VS c))++[VS c p[k]]:=by
    rw[eW,A,Option.toList_some,dg,dy];rfl
   have j:(a++(p.take k).map (VS c)).length=a.length+k:=by simp;omega
   rw[z];generalize a++(p.take k).map (VS c)=f at *;generalize p[k]=n at *;have u:a.length+k+1≤bD:=by unfold bD;omega
   have y:List.take (a.length+k) (f.map eO.a)=f.map eO.a:=ay (by simp[j]);have w:n.a=RH n.tag n.l n.r n.v n.table n.name:=rfl;have v:(VS c n).a=RH n.tag (if 0≤n.l then IntKind.i64.wrap (n.l+c) else n.l) (if 0≤n.r then IntKind.i64.wrap (n.r+c) else n.r) n.v n.table n.name:=rfl;rw[dg,aV,bm,v];have g:a.length+(k+1)=a.length+k+1:=by omega
   rw[g];simp only[J7];by_cases B:0≤n.l<;>by_cases C:0≤n.r <;>
    simp[B7,t,A,q,w,B,C,append,u,y,j,E,bN,bA,cq,dF,x])
  (by
   rw[dw];simp[B7])
 simpa using key
theorem Oy:vZ.s.length≤8000:=by decide
abbrev KY(tag:Int)(ps:aq)(np i m:Nat)(c:aq):List aq:=
 [ap tag,ps,.ai,aI 0 0 0 0,.sl 1 m 0 m,am,am,am,am,ps,ap np,ap i,c,am,am,am,am,am,am,am]
noncomputable abbrev goJ(tag:Int)(ps:aq)(np i:Nat)(out:List eO)(l r:Int):Option (Ex×St):=
 bT code 2 [5,6,7,8,12,13,14,15,16,17,18,19] B5 ⟨KY tag ps np i out.length am,[NN tag l r,aB 9 out.length (out.map eO.a)]⟩
theorem Es(d:Int)(e:Bool)(xs:List (List eO))(i:Nat)(p:List eO)(hi:xs[i]?=some p)(y:xs.length≤2)(a:List eO)(v:a.length+p.length≤8000)(l r:Int) :
  goJ d (.aa e (xs.map gN)) xs.length i a l r=goJ d (.aa e (xs.map gN)) xs.length (i+1) (a++p.map (VS a.length)) (if i=0 then ((a.length+p.length:Nat):Int)-1 else l) (if i=0 then r else ((a.length+p.length:Nat):Int)-1):=by
 have j:=(ak.1 hi).1;have n:∀base σ m,fz false true base σ (m+3) (.aa e (xs.map gN))=.aa e (xs.map gN):=fun base σ m=>by simp
 have c:=abK d (.aa e (xs.map gN)) xs.length i p a.length l r n a v;have g:(i:Int)<(xs.length:Int):=by omega
 have f:∀h:i<xs.length,xs[i]'h=p:=fun _=>(ak.1 hi).2;have w:IntKind.i64.wrap ((i:Int)+1)=(i:Int)+1:=pT (by omega) (by omega);have q:IntKind.i64.wrap (((a.length:Int)+(p.length:Int))-1)=((a.length:Int)+(p.length:Int))-1:=pT (by omega) (by omega);have b:(a++p.map (VS a.length)).length=a.length+p.length:=by simp
 have u:((a.length+p.length:Nat):Int)=(a.length:Int)+(p.length:Int):=by omega
 unfold goJ;rw[aZ,b,u];generalize a++p.map (VS a.length)=s at *;generalize a.map eO.a=z at *;simp only[J7,aY]at c;by_cases o:i=0
 ·subst o;have t:((0:Nat):Int)=0:=rfl;simp only[t]at *;have x:IntKind.i64.wrap 1=1:=rfl;simp only[NN,RH]at c ⊢;simp[x,B5,KY,j,hi,g,f,c,q,b,cO]
 have k:¬(i:Int)=0:=by omega
 simp[B5,KY,j,hi,g,f,c,w,q,o,k,b,cO]
theorem aef(b:Int)(d:aq)(c:Nat)(a:List eO)(l r:Int) :
  goJ b d c c a l r=some (.ext 0,⟨KY b d c c a.length (aC false),[NN b l r,aB 9 a.length (a.map eO.a)]⟩):=by
 unfold goJ;rw[aZ];simp[B5,KY]
theorem Uq(c:Int)(f:Bool)(xs:List (List eO))(b:List eO)(q:b.length≤8000)(l r:Int)
  (h:goJ c (.aa f (xs.map gN)) xs.length 0 [] (-1) (-1)=goJ c (.aa f (xs.map gN)) xs.length xs.length b l r) :
  bB I.qet [ap c,.aa f (xs.map gN)]=some (gN (b++[⟨c,l,r,vZ,[],[],Oy⟩])):=by
 rw[aef]at h;rw[aR amo rfl];have k:List.take b.length (b.map eO.a)=b.map eO.a:=ay (by simp);have o:b.length+1≤bD:=by unfold bD;omega
 have p:(eO.a ⟨c,l,r,vZ,[],[],Oy⟩)=aH [ap c,ap l,ap r,ap 0,ap 0,.int .u64 0,aO [],aO [],aO []]:=rfl;have n:(b++([⟨c,l,r,vZ,[],[],Oy⟩]:List eO)).map eO.a=b.map eO.a++[aH [ap c,ap l,ap r,ap 0,ap 0,.int .u64 0,aO [],aO [],aO []]]:=by rw[dg];rfl
 have d:∀a∈(b++([⟨c,l,r,vZ,[],[],Oy⟩]:List eO)).map eO.a,∀σ,fz false false 0 σ 19 a=a:=by
  intro a g;obtain⟨y,_,rfl⟩:=bM.1 g;exact fun σ=>Fx.fx false false 0 σ 16 y
 rw[n]at d;unfold gN at *;rw[n];simp only[goJ,KY,NN,RH,vZ,bm,bE,aY]at h;have i:∀σ,(b.map eO.a).map (fz false false 0 σ 19)=b.map eO.a:=fun σ=>by
  rw[bU];exact aU fun y _=>Fx.fx false false 0 σ 16 y
 have e:(b.map eO.a).length=b.length:=by simp
 have j:(xs.map (fun m=>aq.aa false (m.map eO.a))).length=xs.length:=by simp
 generalize b.map eO.a=s at *;generalize xs.map (fun m=>aq.aa false (m.map eO.a))=t at *;simp[aur,ae5,j,e,h,append,k,o,i];rw[ay (by simp[e]),if_pos];intro a g;rw[d a g]
theorem zt(a:Int)(c:Bool)(p:List eO)(d:p.length≤4000):∃b:List eO,bB I.qet [ap a,.aa c [gN p]]=some (gN b)∧b.length=p.length+1:=by
 have h:=Es a c [p] 0 p rfl (by simp) [] (by simp;omega) (-1) (-1);exact⟨_,Uq a c [p] _ (by simp;omega) _ _ h,by simp⟩
theorem aag(a:Int)(c:Bool)(p q:List eO)(e:p.length≤4000)(f:q.length≤4000):∃b:List eO,bB I.qet [ap a,.aa c [gN p,gN q]]=some (gN b)∧b.length=p.length+q.length+1:=by
 have h:=Es a c [p,q] 0 p rfl (by simp) [] (by simp;omega) (-1) (-1);have d:=Es a c [p,q] 1 q rfl (by simp) ([]++p.map (VS 0)) (by simp;omega) (((0+p.length:Nat):Int)-1) (-1);exact⟨_,Uq a c [p,q] _ (by simp;omega) _ _ (h.trans d),by simp;omega⟩
def jo(l:List (List UInt8×Int)):List (aq×aq):=l.map fun p=>(aO p.1,ap p.2)
theorem D4(t:List UInt8):∀l:List (List UInt8×Int),dz [] (aO t) (jo l)=some none∨∃n,dz [] (aO t) (jo l)=some (some (ap n)):=by
 intro l;induction l with
 |nil=>exact .inl rfl
 |cons p l c=>
  have a:jo (p::l)=(aO p.1,ap p.2)::jo l:=rfl;rw[a];have b:o5 [] (aO t) (aO p.1)=some (t==p.1):=rfl;unfold dz;simp only[b];cases ht:(t==p.1) with
  |true=>exact .inr ⟨p.2,rfl⟩
  |false=>exact c
theorem Mo(l:List (List UInt8×Int))(b:Nat)(τ:aw):bA b τ (.map (jo l))=.map (jo l):=by
 have:(jo l).map (fun e=>(e.1,cq b τ e.2))=jo l:=by
  unfold jo;rw[bU];exact aU fun y _=>by simp[cq,dF]
 simp only[bA,this]
def Le(r' r:fY):Prop:=r'.toks.length≤r.toks.length
theorem Le.rfl'(r:fY):Le r r:=aF _
theorem Le.trans{a b c:fY}(h:Le a b)(d:Le b c):Le a c:=bH h d
theorem LP{r:fY}{t:vq}{l:List vq}(h:r.toks=t::l):r.nx.toks.length+1=r.toks.length:=by simp[fY.nx,h]
def jk(f N:Nat):Prop:=∀σ id r,At σ id r→r.toks.length≤N→r.toks.length≤600 →
 ∃ns r',cD code f [aI id 0 0 0] σ=some (gN ns,σ.set id (gz r'))∧Le r' r∧ns.length+2*r'.toks.length≤2*r.toks.length+1
abbrev afe(id id2:Nat)(kind:Int)(f:Nat)(ns:List eO):List aq:=[aI id 0 0 0,ap kind,.mp id2,.fn f [aI id 0 0 0] [],am,gN ns,am,am,am,am]
theorem QZ(f N:Nat)(K:jk f N)(a:Int)(id h:Nat)(z:h≠id)(H:List (List UInt8×Int))(L:Nat):∀m σ r (d:List eO),σ.length=L→At σ id r→σ[h]?=some (.map (jo H))→r.toks.length≤m→m≤N→r.toks.length≤600→d.length+2*r.toks.length≤1300 →
  ∃e o q,bT code L [4,6,7,8,9] zM ⟨afe id h a f d,σ⟩=some (.ret,⟨q,σ.set id (gz o)⟩)∧q[4]?=some (gN e)∧Le o r∧e.length+2*o.toks.length≤d.length+2*r.toks.length:=by
 intro m;induction m with
 |zero=>
  intro σ r d w b p Q _ _ _;have I:r.toks=[]:=db.1 (by omega);have c:=PK r a;have g:=b.get;have i:uY r a []=false:=by unfold uY;rw[I]
  rw[i]at c;refine⟨d,r,_,by rw[aZ,b.same];simp[zM,g,eF,c];rfl,rfl,Le.rfl' r,aF _⟩
 |succ m S=>
  intro σ r d w b p Q W V X;have c:=PK r a;have g:=b.get;cases i:uY r a [] with
  |false=>
   rw[i]at c;refine⟨d,r,_,by rw[aZ,b.same];simp[zM,g,eF,c];rfl,rfl,Le.rfl' r,aF _⟩
  |true=>
   rw[i]at c;obtain⟨t,l,B⟩:=ue i;have j:=wq b t l B;have F:=LP B;have R:r.v=aH [.aa false (t.a::l.map vq.a),ap r.en,ap r.at',ap r.er]:=by rw[fY.v_is,B];rfl
   have k:t.a=rv t.k t.at' t.t t.n:=rfl;rw[k]at j;simp only[gz]at g;rw[R,k]at g c;rcases D4 t.t H with x|⟨n,x⟩
   ·refine⟨d,r,_,by rw[aZ,b.same];simp[zM,c,g,p,x];rfl,rfl,Le.rfl' r,aF _⟩
   have u:=b.set r.nx;obtain⟨C,s,G,y,O⟩:=K _ id r.nx u (by omega) (by omega);rw[ez]at G;obtain⟨D,M,P⟩:=aag n true d C (by omega) (by omega);have v:=b.set s;unfold Le at y;obtain⟨e,o,q,E,J,T,U⟩:=S (σ.set id (gz s)) s D (by simpa using w) v (by rw[aD (Ne.symm z)];exact p) (by omega) (by omega) (by omega) (by omega);rw[ez]at E;refine⟨e,o,q,?_,J,by unfold Le at *;omega,by omega⟩;rw[←E,aZ];have A:=fun env=>cO (base:=L) (clr:=[4,6,7,8,9]) (env:=env) (σ:=σ.set id (gz s)) (by simpa using w);simp[zM,c,g,p,x,j,G,M,A]
theorem Qp(f N:Nat)(m:jk f N)(b:Int){σ:aw}{id:Nat}{r:fY}(l:At σ id r)(a:Nat)(c:a≠id)(o:List (List UInt8×Int))(t:σ[a]?=some (.map (jo o)))(w:r.toks.length≤N)(s:r.toks.length≤600) :
  ∃n d,cD code I.qfb [aI id 0 0 0,ap b,.mp a,.fn f [aI id 0 0 0] []] σ=some (gN n,σ.set id (gz d))∧Le d r∧n.length+2*d.toks.length≤2*r.toks.length+1:=by
 obtain⟨k,e,v,i,u⟩:=m σ id r l w s;have h:=l.set e;unfold Le at i;obtain⟨j,d,q,g,p,x,y⟩:=QZ f N m b id a c o σ.length e.toks.length (σ.set id (gz e)) e k (by simp) h (by rw[aD (Ne.symm c)];exact t) (aF _) (by omega) (by omega) (by omega);rw[ez]at g;refine⟨j,d,?_,by unfold Le at *;omega,by omega⟩;rw[cZ an7 rfl];simp only[afe]at g;simp[aui,aga,v,g,p,fB]
theorem CD(f N:Nat)(m:jk f N)(a:Int)(e:List (List UInt8×Int)){σ:aw}{id:Nat}{r:fY}(i:At σ id r)(o:r.toks.length≤N)(l:r.toks.length≤600) :
  ∃d c,cD code I.qfb [aI id 0 0 0,ap a,.mp σ.length,.fn f [aI id 0 0 0] []] (σ++[.map (jo e)])=some (gN d,σ.set id (gz c)++[.map (jo e)])∧Le c r∧d.length+2*c.toks.length≤2*r.toks.length+1:=by
 have g:At (σ++[.map (jo e)]) id r:=i.app _ (fun τ b _=>by simp[Mo]);have n:=i.lt;obtain⟨d,c,h,j,k⟩:=Qp f N m a g σ.length (by omega) e (by simp) o l;rw[cG _ _ n]at h;exact⟨d,c,h,j,k⟩
theorem aon(N:Nat)(f:jk I.qez N):jk I.qfm N:=by
 intro σ id r a i e;obtain⟨j,b,h,c,d⟩:=CD I.qez N f 1 [([79,82],23)] a i e;refine⟨j,b,?_,c,d⟩;rw[cZ anI rfl];have g:=fun o t v=>dM a b o t v;simp only[jo,aV,bm]at h;simp[auv,afi,h,g,cq,dF]
theorem ahZ(N:Nat)(f:jk I.qfk N):jk I.qez N:=by
 intro σ id r a i e;obtain⟨j,b,h,c,d⟩:=CD I.qfk N f 1 [([65,78,68],22)] a i e;refine⟨j,b,?_,c,d⟩;rw[cZ akq rfl];have g:=fun o t v=>dM a b o t v;simp only[jo,aV,bm]at h;simp[atx,ag3,h,g,cq,dF]
theorem ajv(N:Nat)(f:jk I.qfp N):jk I.qfu N:=by
 intro σ id r a i e;obtain⟨j,b,h,c,d⟩:=CD I.qfp N f 5 [([43],12),([45],13)] a i e;refine⟨j,b,?_,c,d⟩;rw[cZ ala rfl];have g:=fun o t v=>dM a b o t v;simp only[jo,aV,bm]at h;simp[atC,ahm,h,g,cq,dF]
theorem PZ(N:Nat)(f:jk I.qfs N):jk I.qfp N:=by
 intro σ id r a i e;obtain⟨j,b,h,c,d⟩:=CD I.qfs N f 5 [([42],14),([47],15)] a i e;refine⟨j,b,?_,c,d⟩;rw[cZ akL rfl];have g:=fun o t v=>dM a b o t v;simp only[jo,aV,bm]at h;simp[auD,afq,h,g,cq,dF]
theorem CP{σ:aw}{id:Nat}{r:fY}(h:At σ id r)(a:Int)(s:List UInt8)(b:uY r a [s]=false):cD code I.qfv [aI id 0 0 0,ap a,aO s] σ=some (aC false,σ):=by
 have:=O3 h a s;unfold aek at this;rw[b]at this;simp only[bq,cH]at this;rw[h.same]at this;exact this
theorem Cy{σ:aw}{id:Nat}{r:fY}(h:At σ id r)(a:Int)(s:List UInt8)(b:uY r a [s]=true):cD code I.qfv [aI id 0 0 0,ap a,aO s] σ=some (aC true,σ.set id (gz r.nx)):=by
 have:=O3 h a s;unfold aek at this;rw[b]at this;exact this
theorem CC{r:fY}{a:Int}{c:List (List UInt8)}(h:uY r a c=true):r.nx.toks.length+1=r.toks.length:=by
 obtain⟨t,l,b⟩:=ue h;exact LP b
theorem vf(r:fY)(e a:Int):Le (nL r e a) r:=by
 unfold nL Le;split<;>simp
theorem Ie(r:fY):Le r.nx r:=by unfold Le fY.nx;simp
theorem Ue(r:fY)(b:Bool):Le (KD r b) r:=by
 unfold KD;split
 ·exact Ie r
 exact vf r _ _
theorem jy{σ:aw}{id:Nat}{r:fY}(h:At σ id r)(a:Int)(s:List UInt8):∃b c,cD code I.qfv [aI id 0 0 0,ap a,aO s] σ=some (aC b,σ.set id (gz c))∧(b=true→c.toks.length+1=r.toks.length)∧(b=false→c=r):=by
 cases hb:uY r a [s] with
 |true=>exact⟨true,r.nx,Cy h a s hb,fun _=>CC hb,fun e=>by cases e⟩
 |false=>exact⟨false,r,by rw[h.same];exact CP h a s hb,fun e=>(by cases e),fun _=>rfl⟩
theorem DP{σ:aw}{id:Nat}{r:fY}(h:At σ id r)(a:Int):∃(t:vq) (b:fY),cD code I.qfh [aI id 0 0 0,ap a,.ai] σ=some (rv t.k t.at' t.t t.n,σ.set id (gz b))∧Le b r:=
 ⟨_,_,V5 h a,Ue r _⟩
theorem oK{σ:aw}{id:Nat}{r:fY}(h:At σ id r)(a:Int)(s:List UInt8):∃(t:vq) (b:fY),cD code I.qfh [aI id 0 0 0,ap a,.lst [aO s]] σ=some (rv t.k t.at' t.t t.n,σ.set id (gz b))∧Le b r:=
 ⟨_,_,Qs h a s,Ue r _⟩
structure uV where
 table:List UInt8
 name:List UInt8
def uV.a(n:uV):aq:=aH [aO n.table,aO n.name]
instance:Nc uV.a 2 true:=⟨fun _=>rfl,fun _=>rfl⟩
instance:Fx uV.a:=⟨fun fl top base σ m x=>by simp[uV.a]⟩
theorem KV{σ:aw}{id:Nat}{r:fY}(a:At σ id r):∃(n:uV) (w:fY),cD code I.qfi [aI id 0 0 0] σ=some (aH [aO n.table,aO n.name],σ.set id (gz w))∧Le w r:=by
 have l:=a.lt;have q:∀X Y,(σ++X).set id Y=σ.set id Y++X:=fun X Y=>by rw[cG _ _ l]
 have h:At (σ++[aB 2 0 [aH [aO [],aO []]]]) id r:=a.app _ (fun τ b _=>by simp[bA,cq,dF]);obtain⟨e,d,f,y⟩:=DP h 2;rw[q]at f;have i:At (σ.set id (gz d)++[aB 2 0 [aH [aO [],aO []]],aB 2 0 [aH [aO [],aO e.t]]]) id d:=(a.set d).app _ (fun τ b _=>by simp[bA,cq,dF]);obtain⟨b,c,g,u,z⟩:=jy i 5 [46];have m:id<(σ.set id (gz d)).length:=by simpa using l
 rw[cG _ _ m,ez]at g;cases b with
 |false=>
  obtain rfl:=z rfl;refine⟨⟨[],e.t⟩,c,?_,y⟩;rw[cZ ahb rfl];have k:=fun o t v=>dM a c o t v;simp[atf,X9,f,g,k,cq,dF]
 |true=>
  have j:At (σ.set id (gz c)++[aB 2 0 [aH [aO [],aO []]],aB 2 0 [aH [aO [],aO e.t]]]) id c:=(a.set c).app _ (fun τ b _=>by simp[bA,cq,dF]);obtain⟨A,x,s,B⟩:=DP j 2;have p:id<(σ.set id (gz c)).length:=by simpa using l
  rw[cG _ _ p,ez]at s;have u:=u rfl;refine⟨⟨e.t,A.t⟩,x,?_,by unfold Le at *;omega⟩;rw[cZ ahb rfl];have k:=fun o t v=>dM a x o t v;simp[atf,X9,f,g,s,k,cq,dF]
theorem aee(N:Nat)(o:∀M,M<N→jk I.qfs M)(n:jk I.qfo N):jk I.qfs N:=by
 intro σ id r a s m;obtain⟨b,c,d,l,t⟩:=jy a 5 [45];have f:=a.set c;cases b with
 |false=>
  obtain rfl:=t rfl;rw[a.same]at d;obtain⟨g,j,h,e,k⟩:=n σ id c a s m;refine⟨g,j,?_,e,k⟩;rw[cZ afm rfl];simp[ata,Xc,d,h,fB]
 |true=>
  have l:=l rfl;obtain⟨g,j,h,e,k⟩:=o c.toks.length (by omega) _ id c f (aF _) (by omega);rw[ez]at h;unfold Le at e;obtain⟨i,p,q⟩:=zt 4 true g (by omega);refine⟨i,j,?_,by unfold Le;omega,by omega⟩;rw[cZ afm rfl];simp[ata,Xc,d,h,p,fB]
theorem ajk(N:Nat)(o:∀M,M<N→jk I.qfk M)(n:jk I.qfw N):jk I.qfk N:=by
 intro σ id r a s m;obtain⟨b,c,d,l,t⟩:=jy a 1 [78,79,84];have f:=a.set c;cases b with
 |false=>
  obtain rfl:=t rfl;rw[a.same]at d;obtain⟨g,j,h,e,k⟩:=n σ id c a s m;refine⟨g,j,?_,e,k⟩;rw[cZ afW rfl];simp[asY,YD,d,h,fB]
 |true=>
  have l:=l rfl;obtain⟨g,j,h,e,k⟩:=o c.toks.length (by omega) _ id c f (aF _) (by omega);rw[ez]at h;unfold Le at e;obtain⟨i,p,q⟩:=zt 5 true g (by omega);refine⟨i,j,?_,by unfold Le;omega,by omega⟩;rw[cZ afW rfl];simp[asY,YD,d,h,p,fB]
def jP:List (List UInt8×Int):=[([67,79,85,78,84],8),([83,85,77],9),([77,73,78],10),([77,65,88],11)]
theorem VU(M:Nat)(O:jk I.qfm M){σ:aw}{id:Nat}{r:fY}(q:At σ id r)(a:List UInt8)(T:r.toks.length≤M)(S:r.toks.length≤600) :
  ∃e g,cD code I.qfa [aI id 0 0 0,aO a] σ=some (gN e,σ.set id (gz g))∧Le g r∧e.length+2*g.toks.length≤2*r.toks.length+2:=by
 have C:∀τ b,σ.length+1≤b→[Obj.map (jo jP)].map (bA b τ)=[Obj.map (jo jP)]:=fun τ b _=>by simp[Mo]
 have G:At (σ++[.map (jo jP)]) id r:=q.app _ C;obtain⟨V,K,x,U⟩:=oK G 5 [40];rw[s9 q]at x;have l:∀g,At (σ.set id (gz g)++[.map (jo jP)]) id g:=fun g=>(q.set g).app _ (by simpa using C);have A:=fun g o t v=>dM q g o t v;unfold Le at *;have w:∀u:fY,u.toks.length≤K.toks.length→∃(e:List eO) (j:fY) (p:vq) (i:fY) (E:List eO) (n:Int) (c:List eO),cD code I.qfm [aI id 0 0 0] (σ.set id (gz u)++[.map (jo jP)])=some (gN E,σ.set id (gz i)++[.map (jo jP)]) ∧
   cD code I.qfh [aI id 0 0 0,ap 5,.lst [aO [41]]] (σ.set id (gz i)++[.map (jo jP)])=some (rv p.k p.at' p.t p.n,σ.set id (gz j)++[.map (jo jP)]) ∧
   (dz [] (aO a) (jo jP)).map (·.getD (ap 0))=some (ap n)∧bB I.qet [ap n,.aa true [gN E]]=some (gN c)∧j.toks.length≤r.toks.length∧c.length+2*j.toks.length≤2*r.toks.length+2:=by
  intro u P;obtain⟨e,i,d,z,F⟩:=O _ id u (l u) (by omega) (by omega);rw[set_set q]at d;obtain⟨p,j,k,R⟩:=oK (l i) 5 [41];rw[set_set q]at k;unfold Le at z R;rcases D4 a jP with f|⟨n,f⟩
  ·obtain⟨c,y,J⟩:=zt 0 true e (by omega);exact⟨e,j,p,i,e,0,c,d,k,by rw[f];rfl,y,by omega,by omega⟩
  obtain⟨c,y,J⟩:=zt n true e (by omega);exact⟨e,j,p,i,e,n,c,d,k,by rw[f];rfl,y,by omega,by omega⟩
 have s:∀{n:Int},(dz [] (aO a) (jo jP)).map (·.getD (ap 0))=some (ap n)→∃o:Option aq,dz [] (aO a) [(aO [67,79,85,78,84],ap 8),(aO [83,85,77],ap 9),(aO [77,73,78],ap 10),(aO [77,65,88],ap 11)]=some o∧o.getD (ap 0)=ap n:=by
  intro n h;cases hl:dz [] (aO a) (jo jP) with
  |none=>rw[hl]at h;cases h
  |some o=>rw[hl]at h;exact⟨o,hl,dW h⟩
 by_cases L:a=[67,79,85,78,84]
 ·have m:(a==[67,79,85,78,84])=true:=by simpa using L
  obtain⟨b,u,B,N,Q⟩:=jy (l K) 5 [42];rw[set_set q]at B;cases b with
  |true=>
   have N:=N rfl;obtain⟨W,i,d,z⟩:=oK (l u) 5 [41];rw[set_set q]at d;unfold Le at z;have D:=QW 3 0 0 vZ [] [] Oy;simp only[RH,vZ]at D;refine⟨[⟨3,-1,-1,⟨0,0,0,[]⟩,[],[],by decide⟩],i,?_,by omega,by simp;omega⟩;rw[cZ YG rfl];simp only[jo,jP,aV,bm]at x B d A;simp[asp,Tf,x,B,d,m,D,A,cq,dF,eT]
  |false=>
   obtain rfl:=Q rfl;obtain⟨_,j,p,i,e,n,c,d,k,f,y,z,F⟩:=w u (aF _);obtain⟨o,f,H⟩:=s f;refine⟨c,j,?_,z,F⟩;rw[cZ YG rfl];simp only[jo,jP,aV,bm]at x B d k A;simp[-dz,asp,Tf,x,B,d,k,m,f,H,y,A,cq,dF,eT]
 have m:(a==[67,79,85,78,84])=false:=by simpa using L
 obtain⟨_,j,p,i,e,n,c,d,k,f,y,z,F⟩:=w K (aF _);obtain⟨o,f,H⟩:=s f;refine⟨c,j,?_,z,F⟩;rw[cZ YG rfl];simp only[jo,jP,aV,bm]at x d k A;simp[-dz,asp,Tf,x,d,k,m,f,H,y,A,cq,dF,eT]
theorem vx{σ:aw}{id:Nat}{r:fY}(c:At σ id r){a:Int}{e:List (List UInt8)}(d:uY r a e=true):∃t:vq,cD code I.qfj [aI id 0 0 0] σ=some (rv t.k t.at' t.t t.n,σ.set id (gz r.nx))∧r.nx.toks.length+1=r.toks.length:=by
 obtain⟨t,l,b⟩:=ue d;exact⟨t,wq c t l b,LP b⟩
def Xm:List (List UInt8):=[[67,79,85,78,84],[83,85,77],[77,73,78],[77,65,88]]
theorem QU(N:Nat)(w:∀M,M<N→jk I.qfm M):jk I.qfo N:=by
 intro σ id r b J H;have e:=b.get;have c:=PK r 3;have d:=PK r 4;have k:bB I.qfd [.cptr true r.v 0,ap 1,.aa true [aO [67,79,85,78,84],aO [83,85,77],aO [77,73,78],aO [77,65,88]]]=some (aC (uY r 1 Xm)):=adw true r 1 Xm (by decide);rw[cZ anE rfl];cases b3:uY r 3 [] with
 |true=>
  rw[b3]at c;obtain⟨t,g,i⟩:=vx b b3;have a:=wl 2 (IntKind.i64.wrap t.n) [] (by decide);refine⟨[⟨1,-1,-1,⟨2,IntKind.i64.wrap t.n,0,[]⟩,[],[],by simp⟩],r.nx,?_,Ie r,by simp;omega⟩;simp[arL,Dh,e,eF,c,g,a,fB]
 |false=>
 rw[b3]at c;cases b4:uY r 4 [] with
 |true=>
  rw[b4]at d;obtain⟨t,g,i⟩:=vx b b4;have a:=wl 3 0 t.t t.h;refine⟨[⟨1,-1,-1,⟨3,0,0,t.t⟩,[],[],t.h⟩],r.nx,?_,Ie r,by simp;omega⟩;simp[arL,Dh,e,eF,c,d,g,a,fB]
 |false=>
 rw[b4]at d;cases b5:uY r 1 [[84,82,85,69]] with
 |true=>
  have h:=Cy b 1 _ b5;have i:=CC b5;have a:=wl 1 1 [] (by decide);refine⟨[⟨1,-1,-1,⟨1,1,0,[]⟩,[],[],by simp⟩],r.nx,?_,Ie r,by simp;omega⟩;simp[arL,Dh,e,eF,c,d,h,a,fB]
 |false=>
 have l:=CP b 1 _ b5;cases b6:uY r 1 [[70,65,76,83,69]] with
 |true=>
  have h:=Cy b 1 _ b6;have i:=CC b6;have a:=wl 1 0 [] (by decide);refine⟨[⟨1,-1,-1,⟨1,0,0,[]⟩,[],[],by simp⟩],r.nx,?_,Ie r,by simp;omega⟩;simp[arL,Dh,e,eF,c,d,l,h,a,fB]
 |false=>
 have p:=CP b 1 _ b6;cases b7:uY r 1 [[78,85,76,76]] with
 |true=>
  have h:=Cy b 1 _ b7;have i:=CC b7;have a:=wl 0 0 [] (by decide);refine⟨[⟨1,-1,-1,⟨0,0,0,[]⟩,[],[],by simp⟩],r.nx,?_,Ie r,by simp;omega⟩;simp[arL,Dh,e,eF,c,d,l,p,h,a,fB]
 |false=>
 have u:=CP b 1 _ b7;cases b8:uY r 1 Xm with
 |true=>
  rw[b8]at k;obtain⟨t,g,i⟩:=vx b b8;obtain⟨s,m,x,j,A⟩:=VU r.nx.toks.length (w _ (by omega)) (b.set r.nx) t.t (aF _) (by omega);rw[ez]at x;refine⟨s,m,?_,j.trans (Ie r),by omega⟩;simp[arL,Dh,e,eF,c,d,l,p,u,k,g,x,fB]
 |false=>
 rw[b8]at k;cases b9:uY r 5 [[40]] with
 |true=>
  have h:=Cy b 5 _ b9;have i:=CC b9;obtain⟨s,D,z,j,A⟩:=w r.nx.toks.length (by omega) _ id r.nx (b.set r.nx) (aF _) (by omega);rw[ez]at z;obtain⟨K,E,y,G⟩:=oK (b.set D) 5 [41];rw[ez]at y;unfold Le at *;refine⟨s,E,?_,by omega,by omega⟩;simp[arL,Dh,e,eF,c,d,l,p,u,k,h,z,y,fB]
 |false=>
 have F:=CP b 5 _ b9;obtain⟨n,m,g,j⟩:=KV b;have f:=QW 2 0 0 vZ n.table n.name Oy;simp only[RH,vZ]at f;have B:=fun o t v=>dM b m o t v;refine⟨[⟨2,-1,-1,vZ,n.table,n.name,Oy⟩],m,?_,j,by unfold Le at j;simp;omega⟩;have C:(gN [⟨2,-1,-1,⟨0,0,0,[]⟩,n.table,n.name,by simp⟩])=.aa false [aH [ap 2,ap (-1),ap (-1),ap 0,ap 0,.int .u64 0,aO [],aO n.table,aO n.name]]:=rfl;have q:(gN [⟨2,-1,-1,vZ,n.table,n.name,Oy⟩])=.aa false [aH [ap 2,ap (-1),ap (-1),ap 0,ap 0,.int .u64 0,aO [],aO n.table,aO n.name]]:=rfl;rw[C]at f;rw[q];simp[arL,Dh,e,eF,c,d,l,p,u,k,F,g,f,B,cq,dF]
def PD:List (List UInt8×Int):=[([61],16),([60,62],17),([60],18),([60,61],19),([62],20),([62,61],21)]
abbrev U5:Obj:=.map [(aO [61],ap 16),(aO [60,62],ap 17),(aO [60],ap 18),(aO [60,61],ap 19),(aO [62],ap 20),(aO [62,61],ap 21)]
theorem XR:Obj.map (jo PD)=U5:=rfl
theorem aea(N:Nat)(O:jk I.qfu N):jk I.qfw N:=by
 intro σ id r g V S;obtain⟨e,d,p,B,R⟩:=O σ id r g V S;have C:∀τ b,σ.length+1≤b→[U5].map (bA b τ)=[U5]:=fun τ b _=>by rw[←XR];simp[Mo]
 have c:∀x,At (σ.set id (gz x)++[U5]) id x:=fun x=>(g.set x).app _ (by simpa using C);have u:=fun x o t v=>dM g x o t v;have a:=oH g (gz d);have j:=PK d 5;rw[cZ akh rfl];cases b5:uY d 5 [] with
 |false=>
  rw[b5]at j;unfold Le at B;obtain⟨b,m,f,w,G⟩:=jy (c d) 1 [73,83];rw[set_set g]at f;cases b with
  |false=>
   obtain rfl:=G rfl;refine⟨e,m,?_,B,R⟩;simp[-dz,arM,Fa,p,a,eF,j,f,u,cq,dF]
  |true=>
   have w:=w rfl;obtain⟨y,z,q,H,J⟩:=jy (c m) 1 [78,79,84];rw[set_set g]at q
   have Y:z.toks.length≤m.toks.length:=by cases y with
    |true=>have:=H rfl;omega
    |false=>rw[J rfl];exact aF _
   obtain⟨Z,A,s,K⟩:=oK (c z) 1 [78,85,76,76];rw[set_set g]at s;unfold Le at K;obtain⟨h,j6,k6⟩:=zt 6 true e (by omega);obtain⟨i,j7,W⟩:=zt 7 true e (by omega);cases y with
   |false=>
    refine⟨h,A,?_,by unfold Le;omega,by omega⟩;simp[-dz,arM,Fa,p,a,eF,j,f,q,s,j6,u,cq,dF]
   |true=>
    refine⟨i,A,?_,by unfold Le;omega,by omega⟩;simp[-dz,arM,Fa,p,a,eF,j,f,q,s,j7,u,cq,dF]
 |true=>
  rw[b5]at j;obtain⟨t,l,E⟩:=ue b5;have P:=LP E;have Q:d.v=aH [.aa false (rv t.k t.at' t.t t.n::l.map vq.a),ap d.en,ap d.at',ap d.er]:=by rw[fY.v_is,E];rfl
  simp only[gz]at a;have a:∀X,(σ.set id (aB 4 0 [d.v])++X)[id]?=some (aB 4 0 [aH [.aa false (rv t.k t.at' t.t t.n::l.map vq.a),ap d.en,ap d.at',ap d.er]]):=fun X=>by rw[a,Q]
  rw[Q]at j;have D:=wq (c d) t l E;rw[set_set g]at D;have F:t.a=rv t.k t.at' t.t t.n:=rfl;rw[F]at D;unfold Le at B;rcases D4 t.t PD with k|⟨n,k⟩
  ·have k:dz [] (aO t.t) [(aO [61],ap 16),(aO [60,62],ap 17),(aO [60],ap 18),(aO [60,61],ap 19),(aO [62],ap 20),(aO [62,61],ap 21)]=some none:=k;obtain⟨b,m,f,w,G⟩:=jy (c d) 1 [73,83];rw[set_set g]at f;cases b with
   |false=>
    obtain rfl:=G rfl;refine⟨e,m,?_,B,R⟩;simp[-dz,arM,Fa,p,a,j,k,f,u,cq,dF]
   |true=>
    have w:=w rfl;obtain⟨y,z,q,H,J⟩:=jy (c m) 1 [78,79,84];rw[set_set g]at q
    have Y:z.toks.length≤m.toks.length:=by cases y with
     |true=>have:=H rfl;omega
     |false=>rw[J rfl];exact aF _
    obtain⟨Z,A,s,K⟩:=oK (c z) 1 [78,85,76,76];rw[set_set g]at s;unfold Le at K;obtain⟨h,j6,k6⟩:=zt 6 true e (by omega);obtain⟨i,j7,W⟩:=zt 7 true e (by omega);cases y with
    |false=>
     refine⟨h,A,?_,by unfold Le;omega,by omega⟩;simp[-dz,arM,Fa,p,a,j,k,f,q,s,j6,u,cq,dF]
    |true=>
     refine⟨i,A,?_,by unfold Le;omega,by omega⟩;simp[-dz,arM,Fa,p,a,j,k,f,q,s,j7,u,cq,dF]
  have k:dz [] (aO t.t) [(aO [61],ap 16),(aO [60,62],ap 17),(aO [60],ap 18),(aO [60,61],ap 19),(aO [62],ap 20),(aO [62,61],ap 21)]=some (some (ap n)):=k;obtain⟨L,m,f,w,n2⟩:=O _ id d.nx (c d.nx) (by omega) (by omega);rw[set_set g]at f;unfold Le at w;obtain⟨M,T,U⟩:=aag n true e L (by omega) (by omega);refine⟨M,m,?_,by unfold Le;omega,by omega⟩;simp[-dz,arM,Fa,p,a,j,k,D,f,T,u,cq,dF]
theorem air:∀N,jk I.qfm N∧jk I.qfk N∧jk I.qfs N:=by
 intro N;induction N using Nat.strongRecOn with
 |ind N b=>
  have e:=QU N fun M a=>(b M a).1;have d:=aee N (fun M a=>(b M a).2.2) e;have f:=aea N (ajv N (PZ N d));have c:=ajk N (fun M a=>(b M a).2.1) f;exact⟨aon N (ahZ N c),c,d⟩
theorem apU{σ:aw}{id:Nat}{r:fY}(d:At σ id r)(c:r.toks.length≤600):∃b a,cD code I.qfm [aI id 0 0 0] σ=some (gN b,σ.set id (gz a))∧Le a r∧b.length+2*a.toks.length≤2*r.toks.length+1:=
 (air r.toks.length).1 σ id r d (aF _) c
def aiu(n:Int):wC:=⟨2,n,0,[]⟩
@[simp] theorem adk(k n u:Int)(s:List UInt8):bB I.qhm [aH [ap k,ap n,.int .u64 u,aO s]]=some (aC (xt ⟨k,n,u,s⟩)):=Ip ⟨k,n,u,s⟩
def iD(t:Int):Int:=if t<1∨23<t then -1 else if t≤3 then 0 else if t≤11 then 1 else 2
theorem Ca(t:Int):bB I.qh [ap t]=some (ap (iD t)):=by
 rw[aR apS rfl];unfold iD;by_cases a:t<1<;>by_cases b:23<t<;>by_cases c:t≤3<;>by_cases d:t≤11<;>simp[arE,aog,a,b,c,d]
theorem Wr(s:List UInt8)(n:s.length≤bD):∃t,bB I.qm [aO s]=some (aC t):=by
 rw[aR ap7 rfl];have key:∀m k,k+m=s.length→(∃q,bT code 0 [1,2,5,6] vP ⟨[aO s,am,am,ap s.length,ap k,am,am],[]⟩=some (.ret,q)∧q.env[1]?=some (aC false)) ∨
   bT code 0 [1,2,5,6] vP ⟨[aO s,am,am,ap s.length,ap k,am,am],[]⟩=some (.ext 0,⟨[aO s,am,am,ap s.length,ap s.length,aC false,am],[]⟩):=by
  intro m;induction m with
  |zero=>
   intro k j;obtain rfl:k=s.length:=by omega
   rw[aZ];exact .inr (by simp[vP])
  |succ m o=>
   intro k j;have d:k<s.length:=by omega
   have a:(k:Int)<(s.length:Int):=by omega
   have g:s[k]?=some s[k]:=au d;have b:∀h:k<s.length,s[k]'h=s[k]'d:=fun _=>rfl;have w:=cU d n;have hi:=o (k+1) (by omega);rw[aZ];generalize s[k]=c at *;by_cases f:(c.toNat:Int)<32
   ·exact .inl ⟨_,by simp[vP,a,g,b,f];rfl,rfl⟩
   by_cases i:(126:Int)<(c.toNat:Int)
   ·exact .inl ⟨_,by simp[vP,a,g,b,f,i];rfl,rfl⟩
   have e:dh 0 [1,2,5,6] vP (run code vP ⟨[aO s,am,am,ap s.length,ap k,am,am],[]⟩)=bT code 0 [1,2,5,6] vP ⟨[aO s,am,am,ap s.length,ap (k+1:Nat),am,am],[]⟩:=by
    simp[vP,a,g,b,f,i,w,cO]
   rw[e];exact hi
 rcases key s.length 0 (by omega) with⟨q,h,l⟩|h
 ·simp only[aY]at h;exact⟨false,by simp[asW,aix,h,l]⟩
 simp only[aY]at h;exact⟨true,by simp[asW,aix,h]⟩
theorem UU(s:List UInt8):bB I.qf [aO s]=some (aC (s==[] ||iy s)):=by
 rw[aR anq rfl];have h:=nZ s;cases hs:(s==[])<;>cases hn:iy s<;>rw[hn]at h<;>simp[arx,acU,eT,hs,h]
theorem apt(a b c d e c':Int)(s s':List UInt8):∃t,eqa true [0,0,0,2] (aH [ap a,ap b,.int .u64 c,aO s]) (aH [ap d,ap e,.int .u64 c',aO s'])=some (aC t):=by
 unfold eqa;by_cases f:a=d<;>by_cases g:b=e<;>by_cases h:c=c'<;>by_cases i:s=s'<;>simp[eR,sR,lR,f,g,h,i,neg,fa]
theorem abV(n:eO):∃t,bB I.qd [n.a]=some (aC t):=by
 rw[aR apx rfl];obtain⟨x,h⟩:=apt n.v.k n.v.n n.v.u 0 0 0 n.v.s [];obtain⟨w,o⟩:=Wr n.v.s (by have:=n.h;unfold bD;omega);have m:=adk n.v.k n.v.n n.v.u n.v.s;have hi:=nZ n.name;have l:=UU n.table;have e:bB I.qch [aO []]=some (aC false):=nZ [];have f:bB I.qf [aO []]=some (aC true):=UU [];have g:n.a=RH n.tag n.l n.r n.v n.table n.name:=rfl;rw[g];generalize (n.table==[] ||iy n.table)=r at *;generalize iy n.name=p at *;generalize xt ⟨n.v.k,n.v.n,n.v.u,n.v.s⟩=q at *;have b:(¬n.table=[]∧n.table.isEmpty=false)∨(n.table=[]∧n.table.isEmpty=true):=by cases n.table<;>simp
 have a:(¬n.name=[]∧n.name.isEmpty=false)∨(n.name=[]∧n.name.isEmpty=true):=by cases n.name<;>simp
 by_cases i:n.tag=1
 ·have c:(n.tag==1)=true:=by simpa using i
  rcases b with b|b<;>rcases a with a|a<;>cases q<;>by_cases k:0≤n.v.n <;>
   simp[ary,aes,eT,b,a,-eqa,h,c,m,k,o]
 have c:(n.tag==1)=false:=by simpa using i
 by_cases j:n.tag=2
 ·have d:(n.tag==2)=true:=by simpa using j
  rcases b with b|b<;>rcases a with a|a<;>cases x<;>cases p <;>
   simp[ary,aes,eT,b,a,-eqa,h,c,d,hi,l,e,f]
 have d:(n.tag==2)=false:=by simpa using j
 rcases b with b|b<;>rcases a with a|a <;>
  simp[ary,aes,eT,b,a,-eqa,h,c,d]
def El(i:Nat)(n:eO):Prop:=(iD n.tag=0∧n.l=-1∧n.r=-1)∨(iD n.tag=1∧(∃p:Nat,n.l=p∧p<i)∧n.r=-1)∨(iD n.tag=2∧(∃p:Nat,n.l=p∧p<i)∧∃p:Nat,n.r=p∧p<i)
def wK(p:Nat×Nat):aq:=aH [ap p.1,ap p.2]
instance:Nc wK 2 true:=⟨fun _=>rfl,fun _=>rfl⟩
instance:Fx wK:=⟨fun fl top base σ m x=>by simp[wK]⟩
abbrev vd:List Nat:=[2,3,6,7,8,9,10,11,12,16,17,18,19,20,21,22]
abbrev ru(b:Bool)(ns:List eO)(k:Nat)(c:aq)(all:List (Nat×Nat))(opn:List Nat):St:=
 ⟨[aH [.aa b (ns.map eO.a)],aI 0 0 0 0,am,am,.sl 1 k 0 all.length,.sl 2 k 0 opn.length,am,am,am,am,am,am,am,.aa b (ns.map eO.a),ap ns.length,ap k,c,am,am,am,am,am,am],
  [aB 1 0 [aH [.aa b (ns.map eO.a)]],aB 2 k (all.map wK),aB 1 k (dS opn)]⟩
def We(r:Option (Ex×St)):Prop:=∃s,r=some (.ret,s)∧s.env[2]?=some .ai∧s.env[3]?=some (aC false)
theorem adG{b:Bool}{g:List eO}{k:Nat}{n:eO}(f:g[k]?=some n)(all:List (Nat×Nat))(e:List Nat)(c:Bool)(o:bB I.qd [n.a]=some (aC c))
  (h:iD n.tag<0∨(e.length:Int)<iD n.tag∨c=false):We (dh 3 vd fW (run code fW (ru b g k am all e))):=by
 have p:=(ak.1 f).1;have d:∀h:k<g.length,g[k]'h=n:=fun _=>(ak.1 f).2;have j:(k:Int)<(g.length:Int):=by omega
 have m:=Ca n.tag;have a:n.a=RH n.tag n.l n.r n.v n.table n.name:=rfl;rw[a]at o;by_cases i:iD n.tag<0
 ·exact⟨_,by simp[fW,j,f,d,a,m,i];rfl,rfl,rfl⟩
 by_cases l:(e.length:Int)<iD n.tag
 ·exact⟨_,by simp[fW,j,f,d,a,m,i,l];rfl,rfl,rfl⟩
 obtain rfl:c=false:=h.elim (fun h=>absurd h i) fun h=>h.elim (fun h=>absurd h l) id;exact⟨_,by simp[fW,j,f,d,a,m,i,l,o];rfl,rfl,rfl⟩
theorem AB(l:List Nat)(base:Nat)(σ:aw):(dS l).map (cq base σ)=dS l:=by
 unfold dS;rw[bU];exact aU fun y _=>by simp[cq,dF]
theorem Dp(l:List Nat)(base:Nat)(σ:aw):(∀a,a∈dS l→aM (fz false true base σ 20 a)=aM a)↔True:=by
 simp only[iff_true];exact DC l false true base σ 19
theorem apw{b:Bool}{d:List eO}(G:d.length≤8000){k:Nat}{n:eO}(l:d[k]?=some n)(all:List (Nat×Nat))(a:List Nat)(i:all.length=k)(F:a.length≤k)(m:bB I.qd [n.a]=some (aC true))(D:iD n.tag=0) :
  (¬(n.l=-1∧n.r=-1)∧We (dh 3 vd fW (run code fW (ru b d k am all a)))) ∨
  ((n.l=-1∧n.r=-1)∧dh 3 vd fW (run code fW (ru b d k am all a))=bT code 3 vd fW (ru b d (k+1) am (all++[(k,1)]) (a++[k]))):=by
 have o:=(ak.1 l).1;have e:∀h:k<d.length,d[k]'h=n:=fun _=>(ak.1 l).2;have s:(k:Int)<(d.length:Int):=by omega
 have q:=Ca n.tag;rw[D]at q;have c:n.a=RH n.tag n.l n.r n.v n.table n.name:=rfl;rw[c]at m;have f:¬((a.length:Int)<0):=by omega
 have g:IntKind.i64.wrap (a.length:Int)=a.length:=by rw[pT (by omega) (by omega)]
 by_cases p:n.l=-1
 ·have j:(n.l != -1)=false:=by simpa using p
  by_cases r:n.r=-1
  ·refine .inr ⟨⟨p,r⟩,?_⟩;have z:(n.r != -1)=false:=by simpa using r
   have u:k+1≤bD:=by unfold bD;omega
   have x:a.length+1≤bD:=by unfold bD;omega
   have A:List.take k (all.map wK)=all.map wK:=ay (by simp[i]);have B:List.take a.length (dS a)=dS a:=ay (by simp);have E:wK (k,1)=aH [ap k,ap 1]:=rfl;have C:=cU o (by unfold bD;omega:d.length≤bD);have t:(all++[(k,1)]).length=k+1:=by simp[i]
   have w:(all++[(k,1)]).map wK=all.map wK++[aH [ap k,ap 1]]:=by rw[dg];rfl
   simp only[ru,t,w,i];simp[fW,s,o,l,e,c,q,f,m,g,j,z,aZ 6,HW,append,i,A,u,B,x,C,eo,bN,bA,AB,Dp,cq,dF]
  refine .inl ⟨fun h=>r h.2,?_⟩;have y:(n.r != -1)=true:=by simpa using r
  exact⟨_,by simp[fW,s,o,l,e,c,q,f,m,g,j,y,i];rfl,rfl,rfl⟩
 refine .inl ⟨fun h=>p h.1,?_⟩;have v:(n.l != -1)=true:=by simpa using p
 exact⟨_,by simp[fW,s,o,l,e,c,q,f,m,g,v,i];rfl,rfl,rfl⟩
theorem MM{all:List (Nat×Nat)}{p:Nat}(h:p<all.length):(all.map wK)[p]?=some (aH [ap (all[p].1:Int),ap (all[p].2:Int)]):=by simp[h,wK]
theorem apB{b:Bool}{a:List eO}(hn:a.length≤8000){k:Nat}{n:eO}(s:a[k]?=some n)(all:List (Nat×Nat))(o:List Nat)(p:Nat)(e:all.length=k)(L:(o++[p]).length≤k)(N:p<k)(hd:all[p]?.map (·.2)=some 0∨∀x∈all,x.2≤k+1)(t:bB I.qd [n.a]=some (aC true))(X:iD n.tag=1) :
  (¬(n.l=p∧n.r=-1)∧We (dh 3 vd fW (run code fW (ru b a k am all (o++[p]))))) ∨
  ((n.l=p∧n.r=-1)∧∃x:Nat×Nat,x.2≤k+2∧dh 3 vd fW (run code fW (ru b a k am all (o++[p])))=bT code 3 vd fW (ru b a (k+1) am (all++[x]) (o++[k]))):=by
 have u:=(ak.1 s).1;have f:∀h:k<a.length,a[k]'h=n:=fun _=>(ak.1 s).2;have B:(k:Int)<(a.length:Int):=by omega
 have z:=Ca n.tag;rw[X]at z;have c:n.a=RH n.tag n.l n.r n.v n.table n.name:=rfl;rw[c]at t;simp at L;have g:¬((o.length:Int)+1<1):=by omega
 have j:IntKind.i64.wrap ((o.length:Int)+1-1)=o.length:=by rw[pT (by omega) (by omega)];omega
 have i:IntKind.i64.wrap (o.length:Int)=o.length:=by rw[pT (by omega) (by omega)]
 have U:(dS o++[aq.int .i64 (p:Int)])[o.length]?=some (ap (p:Int)):=by rw[bC (by simp)];simp
 have V:List.drop o.length (dS o++[aq.int .i64 (p:Int)])=[ap (p:Int)]:=List.drop_left' (by simp);have d:p<all.length:=by omega
 have F:=MM d;have Y:all[p].2≤k+1:=by
  rcases hd with h|h
  ·rw[au d]at h;simp at h;omega
  exact h _ (aJ d)
 generalize D:all[p]=x at *;have m:∀h:p<all.length,all[p]'h=x:=fun _=>D;have E:wK x=aH [ap x.1,ap x.2]:=rfl;have T:IntKind.i64.wrap ((x.2:Int)+1)=((x.2+1:Nat):Int):=by rw[pT (by omega) (by omega)];omega
 by_cases w:n.l=p
 ·have q:(n.l != (p:Int))=false:=by simpa using w
  by_cases A:n.r=-1
  ·have P:(n.r != -1)=false:=by simpa using A
   refine .inr ⟨⟨w,A⟩,?_⟩;have H:k+1≤bD:=by unfold bD;omega
   have M:o.length+1≤bD:=by unfold bD;omega
   have Q:List.take k (all.map wK)=all.map wK:=ay (by simp[e]);have R:List.take o.length (dS o++[aq.int .i64 (p:Int)])=dS o:=fZ (by simp);have S:=cU u (by unfold bD;omega:a.length≤bD);have C:∀x,(all++[x]).length=k+1:=fun x=>by simp[e]
   have K:∀x:Nat×Nat,(all++[x]).map wK=all.map wK++[aH [ap x.1,ap x.2]]:=fun x=>by rw[dg];rfl
   have l:dS (o++[p])=dS o++[aq.int .i64 (p:Int)]:=by simp[eo]
   have G:∀y:Nat×Nat,ru b a (k+1) am (all++[y]) (o++[k])=⟨[aH [.aa b (a.map eO.a)],aI 0 0 0 0,am,am,.sl 1 (k+1) 0 (k+1),.sl 2 (k+1) 0 (o.length+1),am,am,am,am,am,am,am,.aa b (a.map eO.a),ap a.length,ap ((k:Int)+1),am,am,am,am,am,am,am],
     [aB 1 0 [aH [.aa b (a.map eO.a)]],aB 2 (k+1) (all.map wK++[aH [ap y.1,ap y.2]]),aB 1 (k+1) (dS o++[ap k])]⟩:=fun y=>by simp[C,K,eo,e]
   have Z:IntKind.i64.wrap 1=1:=rfl;refine⟨(if x.1<k then x.1 else k,x.2+1),by dsimp;omega,?_⟩;rw[G];simp only[ru,e,l];have r:∀v:Nat,(if (1:Int)<(v:Int)+1 then (v:Int)+1 else 1)=(v:Int)+1:=fun v=>by split<;>omega
   by_cases W:x.1<k<;>simp[fW,B,u,s,f,c,z,g,t,j,i,q,P,aZ 6,HW,append,e,Q,H,R,M,S,T,U,V,N,d,F,m,E,W,r,Z,eo,bN,bA,AB,Dp,cq,dF]
  refine .inl ⟨fun h=>A h.2,?_⟩;have O:(n.r != -1)=true:=by simpa using A
  have l:dS (o++[p])=dS o++[aq.int .i64 (p:Int)]:=by simp[eo]
  simp only[ru,l];exact⟨_,by simp[fW,B,u,s,f,c,z,g,t,j,i,q,O,e,U,V];rfl,rfl,rfl⟩
 refine .inl ⟨fun h=>w h.1,?_⟩;have J:(n.l != (p:Int))=true:=by simpa using w
 have l:dS (o++[p])=dS o++[aq.int .i64 (p:Int)]:=by simp[eo]
 simp only[ru,l];exact⟨_,by simp[fW,B,u,s,f,c,z,g,t,j,i,J,e,U,V];rfl,rfl,rfl⟩
theorem apf{b:Bool}{c:List eO}(hn:c.length≤8000){k:Nat}{n:eO}(w:c[k]?=some n)(all:List (Nat×Nat))(o:List Nat)(p q:Nat)(m:all.length=k)(an:(o++[p,q]).length≤k)(J:p<k)(K:q<k)(hd:∀x∈all,x.2≤k+1)(D:bB I.qd [n.a]=some (aC true))(h0:iD n.tag=2) :
  (¬(n.l=p∧n.r=q)∧We (dh 3 vd fW (run code fW (ru b c k am all (o++[p,q]))))) ∨
  ((n.l=p∧n.r=q)∧∃x:Nat×Nat,x.2≤k+2∧dh 3 vd fW (run code fW (ru b c k am all (o++[p,q])))=bT code 3 vd fW (ru b c (k+1) am (all++[x]) (o++[k]))):=by
 have E:=(ak.1 w).1;have e:∀h:k<c.length,c[k]'h=n:=fun _=>(ak.1 w).2;have S:(k:Int)<(c.length:Int):=by omega
 have H:=Ca n.tag;rw[h0]at H;have d:n.a=RH n.tag n.l n.r n.v n.table n.name:=rfl;rw[d]at D;simp at an;have f:¬((o.length:Int)+2<2):=by omega
 have a:¬((o.length:Int)+1+1<2):=by omega
 have l:IntKind.i64.wrap ((o.length:Int)+2-2)=o.length:=by rw[pT (by omega) (by omega)];omega
 have j:IntKind.i64.wrap (o.length:Int)=o.length:=by rw[pT (by omega) (by omega)]
 have hN:dS (o++[p,q])=dS o++([ap (p:Int),ap (q:Int)]:List aq):=by simp[eo]
 have W:(dS o++([ap (p:Int),ap (q:Int)]:List aq))[o.length]?=some (ap (p:Int)):=by rw[bC (by simp)];simp
 have X:(dS o++([ap (p:Int),ap (q:Int)]:List aq))[o.length+1]?=some (ap (q:Int)):=by rw[bC (by simp)];simp
 have Y:List.drop o.length (dS o++([ap (p:Int),ap (q:Int)]:List aq))=[ap (p:Int),ap (q:Int)]:=List.drop_left' (by simp);have g:p<all.length:=by omega
 have i:q<all.length:=by omega
 have B:=MM g;have C:=MM i;have ar:all[p].2≤k+1:=hd _ (aJ g);have av:all[q].2≤k+1:=hd _ (aJ i);generalize ae:all[p]=x at *;generalize af:all[q]=y at *;have r:∀h:p<all.length,all[p]'h=x:=fun _=>ae;have s:∀h:q<all.length,all[q]'h=y:=fun _=>af;have z:wK x=aH [ap x.1,ap x.2]:=rfl;have A:wK y=aH [ap y.1,ap y.2]:=rfl;have P:IntKind.i64.wrap ((x.2:Int)+1)=((x.2+1:Nat):Int):=by rw[pT (by omega) (by omega)];omega
 have Q:IntKind.i64.wrap ((y.2:Int)+1)=((y.2+1:Nat):Int):=by rw[pT (by omega) (by omega)];omega
 by_cases U:n.l=p
 ·have u:(n.l != (p:Int))=false:=by simpa using U
  by_cases V:n.r=q
  ·have L:(n.r != (q:Int))=false:=by simpa using V
   refine .inr ⟨⟨U,V⟩,?_⟩;have F:k+1≤bD:=by unfold bD;omega
   have G:o.length+1≤bD:=by unfold bD;omega
   have M:List.take k (all.map wK)=all.map wK:=ay (by simp[m]);have N:List.take o.length (dS o++([ap (p:Int),ap (q:Int)]:List aq))=dS o:=fZ (by simp);have O:=cU E (by unfold bD;omega:c.length≤bD);have ad:∀x,(all++[x]).length=k+1:=fun x=>by simp[m]
   have al:∀x:Nat×Nat,(all++[x]).map wK=all.map wK++[aH [ap x.1,ap x.2]]:=fun x=>by rw[dg];rfl
   have ag:∀y:Nat×Nat,ru b c (k+1) am (all++[y]) (o++[k])=⟨[aH [.aa b (c.map eO.a)],aI 0 0 0 0,am,am,.sl 1 (k+1) 0 (k+1),.sl 2 (k+1) 0 (o.length+1),am,am,am,am,am,am,am,.aa b (c.map eO.a),ap c.length,ap ((k:Int)+1),am,am,am,am,am,am,am],
     [aB 1 0 [aH [.aa b (c.map eO.a)]],aB 2 (k+1) (all.map wK++[aH [ap y.1,ap y.2]]),aB 1 (k+1) (dS o++[ap k])]⟩:=fun y=>by simp[ad,al,eo,m]
   have ww:IntKind.i64.wrap 1=1:=rfl;have R:IntKind.i64.wrap 2=2:=rfl;have t:∀v:Nat,(if (1:Int)<(v:Int)+1 then (v:Int)+1 else 1)=(v:Int)+1:=fun v=>by split<;>omega
   by_cases Z:x.1<k
   all_goals by_cases T:y.1<(if x.1<k then x.1 else k)
   all_goals by_cases c3:x.2<y.2
   all_goals refine⟨(if y.1<(if x.1<k then x.1 else k) then y.1 else (if x.1<k then x.1 else k),if x.2<y.2 then y.2+1 else x.2+1),by dsimp;split<;>omega,?_⟩
   all_goals rw[ag]
   all_goals simp only[ru,m,hN]
   all_goals simp[Z]at T
   all_goals first
    |(have ab:=Nat.not_lt.2 T;simp[fW,S,E,w,e,d,H,f,a,D,l,j,u,L,aZ 6,HW,append,m,M,F,N,G,O,P,Q,W,X,Y,J,K,g,i,B,C,r,s,z,A,Z,T,ab,c3,t,ww,R,eo,bN,bA,AB,Dp,cq,dF])
    |simp[fW,S,E,w,e,d,H,f,a,D,l,j,u,L,aZ 6,HW,append,m,M,F,N,G,O,P,Q,W,X,Y,J,K,g,i,B,C,r,s,z,A,Z,T,c3,t,ww,R,eo,bN,bA,AB,Dp,cq,dF]
  refine .inl ⟨fun h=>V h.2,?_⟩;have ao:(n.r != (q:Int))=true:=by simpa using V
  simp only[ru,hN];exact⟨_,by simp[fW,S,E,w,e,d,H,f,a,D,l,j,u,ao,m,W,X,Y];rfl,rfl,rfl⟩
 refine .inl ⟨fun h=>U h.1,?_⟩;have ah:(n.l != (p:Int))=true:=by simpa using U
 simp only[ru,hN];exact⟨_,by simp[fW,S,E,w,e,d,H,f,a,D,l,j,ah,m,W,X,Y];rfl,rfl,rfl⟩
theorem Bc{l:List Nat}(h:1≤l.length):∃o p,l=o++[p]:=
 ⟨l.dropLast,l.getLast (by intro e;subst e;simp at h),(dQ _).symm⟩
theorem QP{l:List Nat}(h:2≤l.length):∃o p q,l=o++[p,q]:=by
 obtain⟨o',q,rfl⟩:=Bc (show 1≤l.length by omega);obtain⟨o,p,rfl⟩:=Bc (show 1≤o'.length by simp at h;omega);exact⟨o,p,q,by simp⟩
theorem adZ(b:Bool)(f:List eO)(G:f.length≤8000):∀m k (all:List (Nat×Nat)) (a:List Nat),k+m=f.length→all.length=k→(∀p∈a,p<k)→a.length≤k→(∀x∈all,x.2≤k+1) →
  We (bT code 3 vd fW (ru b f k am all a))∨∃d e,bT code 3 vd fW (ru b f k am all a)=some (.ext 0,ru b f f.length (aC false) d e)∧d.length=f.length∧e.length≤f.length∧(∀i n,k≤i→f[i]?=some n→El i n):=by
 intro m;induction m with
 |zero=>
  intro k all a N z u g hd;obtain rfl:k=f.length:=by omega
  refine .inr ⟨all,a,?_,z,g,fun i n hi h=>by have:=(ak.1 h).1;omega⟩;rw[aZ];simp[fW]
 |succ m O=>
  intro k all a N z u g hd;have I:k<f.length:=by omega
  have r:f[k]?=some f[k]:=au I;generalize f[k]=n at r;obtain⟨c,C⟩:=abV n;rw[aZ];by_cases M:iD n.tag<0∨(a.length:Int)<iD n.tag∨c=false
  ·exact .inl (adG r all a c C M)
  have E:c=true:=by cases c<;>simp_all
  subst E;have J:0≤iD n.tag:=by omega
  have Q:iD n.tag≤a.length:=by omega
  have K:iD n.tag=0∨iD n.tag=1∨iD n.tag=2:=by
   unfold iD at J ⊢
   repeat' split
   all_goals first|omega|simp_all
  have next:∀(x:Nat×Nat) (o:List Nat),x.2≤k+2→(∀p∈o,p<k)→o.length≤k→El k n →
    We (bT code 3 vd fW (ru b f (k+1) am (all++[x]) (o++[k])))∨∃d e,bT code 3 vd fW (ru b f (k+1) am (all++[x]) (o++[k]))=some (.ext 0,ru b f f.length (aC false) d e)∧d.length=f.length∧e.length≤f.length∧(∀i n,k≤i→f[i]?=some n→El i n):=by
   intro x o D u g L
   rcases O (k+1) (all++[x]) (o++[k]) (by omega) (by simp[z]) (fun p A=>by
    rcases ba.1 A with A|A
    ·have:=u p A;omega
    ·simp at A;omega) (by simp;omega) (fun y r=>by
    rcases ba.1 r with r|r
    ·have:=hd y r;omega
    rw[aP.1 r];omega) with h|⟨d,e,h,e1,e2,e3⟩
   ·exact .inl h
   refine .inr ⟨d,e,h,e1,e2,fun i P hi w=>?_⟩;by_cases F:i=k
   ·subst F;rw[r]at w;cases w;exact L
   exact e3 i P (by omega) w
  rcases K with v|v|v
  ·rcases apw (b:=b) G r all a z g C v with⟨_,h⟩|⟨j,h⟩
   ·exact .inl h
   rw[h];exact next (k,1) a (by simp) u g (.inl ⟨v,j⟩)
  ·obtain⟨o,p,rfl⟩:=Bc (l:=a) (by omega);have t:=u p (by simp);have s:o.length≤k:=by simp at g;omega
   rcases apB (b:=b) G r all o p z g t (.inr hd) C v with⟨_,h⟩|⟨j,x,D,h⟩
   ·exact .inl h
   rw[h];exact next x o D (fun q H=>u q (by simp[H])) s (.inr (.inl ⟨v,⟨p,j.1,t⟩,j.2⟩))
  obtain⟨o,p,q,rfl⟩:=QP (l:=a) (by omega);have t:=u p (by simp);have B:=u q (by simp);have s:o.length≤k:=by simp at g;omega
  rcases apf (b:=b) G r all o p q z g t B hd C v with⟨_,h⟩|⟨j,x,D,h⟩
  ·exact .inl h
  rw[h];exact next x o D (fun q H=>u q (by simp[H])) s (.inr (.inr ⟨v,⟨p,j.1,t⟩,⟨q,j.2,B⟩⟩))
structure mu (ns:List eO):Prop where
 pos:0<ns.length
 le:ns.length≤300
 node:∀i n,ns[i]?=some n→El i n
theorem S9(b:Bool)(c:List eO)(D:c.length≤8000):∃(R:aq) (t:Bool),bB I.qe [aH [.aa b (c.map eO.a)]]=some (fb [R,aC t])∧(t=true→mu c):=by
 rw[aR ap1 rfl];rcases adZ b c D c.length 0 [] [] (by omega) rfl (by simp) (by simp) (by simp) with⟨s,h,z,A⟩|⟨all,k,h,l,G,v⟩
 ·simp[ru]at h;exact⟨.aa false [],false,by simp[arB,ZK,h,z,A],fun e=>by cases e⟩
 simp[ru]at h;by_cases o:k.length=1
 ·have E:((k.length:Int)==1)=true:=by rw[o];rfl
  have w:0<c.length:=by omega
  have B:((all.length:Nat):Int)=(c.length:Int):=by omega
  by_cases C:c.length≤300
  ·have g:((c.length:Int)≤300):=by omega
   have F:IntKind.i64.wrap ((c.length:Int)-1)=((c.length-1:Nat):Int):=by rw[pT (by omega) (by omega)];omega
   have j:c.length-1<all.length:=by omega
   have u:c.length-1<c.length:=by omega
   have q:=MM j;have m:∀h:c.length-1<all.length,all[c.length-1]'h=all[c.length-1]'j:=fun _=>rfl;generalize all[c.length-1]=x at *;have p:wK x=aH [ap x.1,ap x.2]:=rfl;refine⟨.aa false (all.map wK),decide ((x.2:Int)≤20),?_,fun _=>⟨w,C,fun i n h=>v i n (cI _) h⟩⟩;have f:List.take c.length (all.map wK)=all.map wK:=ay (by simp[l]);have d:∀σ,(all.map wK).map (fz false false 0 σ 19)=all.map wK:=fun σ=>by
    rw[bU];exact aU fun y _=>Fx.fx false false 0 σ 16 y
   simp[arB,ZK,h,o,g,l,F,j,u,q,m,p,f,d];intro a x y _ h;subst h;exact congrArg aM (Fx.fx false false 0 _ 15 (x,y))
  have g:¬((c.length:Int)≤300):=by omega
  refine⟨.aa false (all.map wK),false,?_,fun e=>by cases e⟩;have f:List.take c.length (all.map wK)=all.map wK:=ay (by simp[l]);have d:∀σ,(all.map wK).map (fz false false 0 σ 19)=all.map wK:=fun σ=>by
   rw[bU];exact aU fun y _=>Fx.fx false false 0 σ 16 y
  simp[arB,ZK,h,o,g,l,f,d];intro a x y _ h;subst h;exact congrArg aM (Fx.fx false false 0 _ 15 (x,y))
 refine⟨.aa false (all.map wK),false,?_,fun e=>by cases e⟩;have f:List.take c.length (all.map wK)=all.map wK:=ay (by simp[l]);have d:∀σ,(all.map wK).map (fz false false 0 σ 19)=all.map wK:=fun σ=>by
  rw[bU];exact aU fun y _=>Fx.fx false false 0 σ 16 y
 have r:((k.length:Int)==1)=false:=by simp;omega
 simp[arB,ZK,h,o,r,l,f,d];intro a x y _ h;subst h;exact congrArg aM (Fx.fx false false 0 _ 15 (x,y))
theorem XF(b:Bool)(a:List eO)(f:a.length≤8000):∃e:Int,bB I.qb [aH [.aa b (a.map eO.a)]]=some (ap e)∧(e=0→mu a):=by
 rw[aR aqd rfl];obtain⟨R,t,h,g⟩:=S9 true a f;obtain⟨j,i,d,c⟩:=S9 false a f;cases b with
 |true=>cases t with
  |true=>exact⟨0,by simp[arC,abl,h],fun _=>g rfl⟩
  |false=>exact⟨180,by simp[arC,abl,h],fun e=>by cases e⟩
 |false=>cases i with
  |true=>exact⟨0,by simp[arC,abl,d],fun _=>c rfl⟩
  |false=>exact⟨180,by simp[arC,abl,d],fun e=>by cases e⟩
abbrev jm(x:List EN):aq:=aH [.aa false (x.map EN.a)]
def Rn(by':Int)(n:EN):EN:=⟨n.tag,if 0≤n.l then IntKind.i64.wrap (n.l+by') else n.l,if 0≤n.r then IntKind.i64.wrap (n.r+by') else n.r,n.col,n.v⟩
theorem am3(a:Int)(n:EN):(Rn a n).a=aH [ap n.tag,ap (if 0≤n.l then IntKind.i64.wrap (n.l+a) else n.l),ap (if 0≤n.r then IntKind.i64.wrap (n.r+a) else n.r),ap n.col,ap n.v.k,ap n.v.n,.int .u64 n.v.u,aO n.v.s]:=rfl
abbrev ai0(root:EN)(out:List EN)(l r:Int)(x:List EN):aw:=[aB 8 0 [root.a],aB 1 0 [aH [.ai]],aB 8 out.length (out.map EN.a),aB 2 0 [aH [ap l,ap r]],aB 1 0 [jm x]]
theorem Wa(root:EN)(a:List EN)(l r:Int)(x:List EN)(w:a.length+x.length≤8000) :
  cD code I.qca [.sl 2 a.length 0 a.length,jm x] (ai0 root a l r x)=some (.sl 2 (a.length+x.length) 0 (a.length+x.length),ai0 root (a++x.map (Rn a.length)) l r x++[aB 1 0 [jm x]]):=by
 have u:x.length≤bD:=by unfold bD;omega
 have key:=cY (base:=6) (clr:=[5,9,10,11]) (b:=F4)
  (fun k=>⟨[.sl 2 (a.length+k) 0 (a.length+k),jm x,aI 5 0 0 0,.ai,ap a.length,am,.aa false (x.map EN.a),ap x.length,ap k,am,am,am],[aB 8 0 [root.a],aB 1 0 [aH [.ai]],aB 8 (a.length+k) ((a++(x.take k).map (Rn a.length)).map EN.a),aB 2 0 [aH [ap l,ap r]],aB 1 0 [jm x],aB 1 0 [jm x]]⟩) x.length
  (.ext 0,⟨[.sl 2 (a.length+x.length) 0 (a.length+x.length),jm x,aI 5 0 0 0,.ai,ap a.length,am,.aa false (x.map EN.a),ap x.length,ap x.length,aC false,am,am],[aB 8 0 [root.a],aB 1 0 [aH [.ai]],aB 8 (a.length+x.length) ((a++x.map (Rn a.length)).map EN.a),aB 2 0 [aH [ap l,ap r]],aB 1 0 [jm x],aB 1 0 [jm x]]⟩)
  (fun k g=>by
   have q:x[k]?=some x[k]:=au g;have f:∀h:k<x.length,x[k]'h=x[k]'g:=fun _=>rfl;have i:(k:Int)<(x.length:Int):=by omega
   have v:=cU g u;have p:a++(x.take (k+1)).map (Rn a.length)=(a++(x.take k).map (Rn a.length))++[Rn a.length x[k]]:=by
    rw[eW,q,Option.toList_some,dg,dy];rfl
   have e:(a++(x.take k).map (Rn a.length)).length=a.length+k:=by simp;omega
   rw[p];generalize a++(x.take k).map (Rn a.length)=c at *;generalize x[k]=n at *;have j:a.length+k+1≤bD:=by unfold bD;omega
   have o:List.take (a.length+k) (c.map EN.a)=c.map EN.a:=ay (by simp[e]);have m:n.a=aH [ap n.tag,ap n.l,ap n.r,ap n.col,ap n.v.k,ap n.v.n,.int .u64 n.v.u,aO n.v.s]:=rfl;rw[dg,aV,bm,am3];have d:a.length+(k+1)=a.length+k+1:=by omega
   rw[d];by_cases s:0≤n.l<;>by_cases t:0≤n.r <;>
    simp[F4,i,q,f,m,s,t,append,j,o,e,v,bN,bA,cq,dF])
  (by
   rw[dw];simp[F4])
 rw[cz an3 rfl];simp at key;simp[atL,afZ,key]
abbrev PH(ps:aq)(np i m:Nat)(c:aq)(root:EN):List aq:=[root.a,ps,aI 0 0 0 0,aI 1 0 0 0,.sl 2 m 0 m,aI 3 0 0 0,am,am,ps,ap np,ap i,c]
abbrev adh(root:EN)(out:List EN)(l r:Int):aw:=[aB 8 0 [root.a],aB 1 0 [aH [.ai]],aB 8 out.length (out.map EN.a),aB 2 0 [aH [ap l,ap r]]]
noncomputable abbrev goE(root:EN)(ps:aq)(np i:Nat)(out:List EN)(l r:Int):Option (Ex×St):=
 bT code 4 [6,7,11] Dd ⟨PH ps np i out.length am root,adh root out l r⟩
theorem zz(root:EN)(o:Bool)(xs:List (List EN))(i:Nat)(p:List EN)(hi:xs[i]?=some p)(z:xs.length≤2)(a:List EN)(x:a.length+p.length≤8000)(l r:Int) :
  goE root (.aa o (xs.map jm)) xs.length i a l r=goE root (.aa o (xs.map jm)) xs.length (i+1) (a++p.map (Rn a.length)) (if i=0 then ((a.length+p.length:Nat):Int)-1 else l) (if i=0 then r else ((a.length+p.length:Nat):Int)-1):=by
 have f:=(ak.1 hi).1;have d:=Wa root a l r p x;have w:(i:Int)<(xs.length:Int):=by omega
 have e:∀h:i<xs.length,xs[i]'h=p:=fun _=>(ak.1 hi).2;have A:IntKind.i64.wrap ((i:Int)+1)=(i:Int)+1:=pT (by omega) (by omega);have q:IntKind.i64.wrap (((a.length:Int)+(p.length:Int))-1)=((a.length:Int)+(p.length:Int))-1:=pT (by omega) (by omega);have b:(a++p.map (Rn a.length)).length=a.length+p.length:=by simp
 have s:((a.length+p.length:Nat):Int)=(a.length:Int)+(p.length:Int):=by omega
 have y:∀base σ m,(List.map (fz false true base σ (m+3)) ((a++p.map (Rn a.length)).map EN.a))=(a++p.map (Rn a.length)).map EN.a:=fun base σ m=>aeb _ false true base σ (m+1);unfold goE;rw[aZ,b,s];simp only[ai0,b]at d;generalize a++p.map (Rn a.length)=c at *;simp only[adh,b];have g:∀base σ,List.map (cq base σ∘EN.a) c=List.map EN.a c:=fun base σ=>by
  have:=y base σ 17;rw[bU]at this;exact this
 by_cases t:i=0
 ·subst t;have n:IntKind.i64.wrap 1=1:=rfl;have j:(0:Int)<(xs.length:Int):=by omega
  simp[n,Dd,PH,f,hi,j,e,d,q,b,g,bN,bA,cq,dF]
 have u:¬(i:Int)=0:=by omega
 have v:i=1:=by omega
 subst v;have k:(1:Int)<(xs.length:Int):=by omega
 have n:IntKind.i64.wrap 2=2:=rfl;simp[n,Dd,PH,f,hi,k,e,d,q,b,g,bN,bA,cq,dF]
theorem ahR(k n u:Int)(s:List UInt8):okV ⟨k,n,u,s⟩=if k=0 then (decide (n=0)&&decide (u=0)&&decide (s=[])) else if k=1 then (decide (u=0)&&decide (s=[])&&(decide (n=0) ||decide (n=1)))
  else if k=2 then (decide (u=0)&&decide (s=[])) else if k=3 then (decide (n=0)&&decide (u=0)&&decide (s.length≤40)) else (decide (k=4)&&decide (s=[])):=by
 rw[eL];simp only[okV,Ic,aX];by_cases c:k=0
 ·subst c;simp[and_assoc]
 by_cases d:k=1
 ·subst d;by_cases a:n=0
  ·simp[a]
  by_cases b:n=1
  ·simp[b]
  simp[a,b]
 by_cases e:k=2
 ·subst e;simp
 by_cases f:k=3
 ·subst f;by_cases a:s.length≤40<;>simp[a]
 by_cases g:k=4
 ·subst g;simp
 simp[c,d,e,f,g]
def ku(e:List EN):Nat→Nat
 |0=>0
 |m+1=>
  match e[m]? with
  |none=>0
  |some n=>
   if dv n.tag<0∨iv n=false then 0
   else if dv n.tag=0 then (if n.l=-1∧n.r=-1 then 1 else 0)
   else if ku e m=0 then 0
   else if dv n.tag=1 then (if n.l=(m:Int)-1∧n.r=-1 then ku e m+1 else 0)
   else if ku e (m-ku e m)=0∨n.r≠(m:Int)-1∨n.l≠(m:Int)-1-ku e m then 0
   else ku e (m-ku e m)+ku e m+1
termination_by m=>m
decreasing_by all_goals omega
end Go.AM
namespace Go.AM
open P
set_option maxHeartbeats 64000000
set_option maxRecDepth 40000
def SS(e:List EN):Nat→List Nat→Prop
 |k,[]=>k=0
 |k,p::r=>k=p+1∧0<ku e k∧SS e (k-ku e k) r
theorem Wv{e:List EN}{m:Nat}{n:EN}(a:e[m]?=some n):ku e (m+1) =
   if dv n.tag<0∨iv n=false then 0
   else if dv n.tag=0 then (if n.l=-1∧n.r=-1 then 1 else 0)
   else if ku e m=0 then 0
   else if dv n.tag=1 then (if n.l=(m:Int)-1∧n.r=-1 then ku e m+1 else 0)
   else if ku e (m-ku e m)=0∨n.r≠(m:Int)-1∨n.l≠(m:Int)-1-ku e m then 0
   else ku e (m-ku e m)+ku e m+1:=by
 rw[ku,a]
theorem VW{e:List EN}{k:Nat}{n:EN}(x:e[k]?=some n){a o v o':List Nat}(m:SS e k o.reverse)(c:sW k n a o=some (v,o')):SS e (k+1) o'.reverse∧v.length=a.length+1:=by
 have d:=Wv x;unfold sW at c;split at c
 ·cases c
 rename_i u;have i:¬(dv n.tag<0∨iv n=false):=fun h=>u (h.elim .inl fun h=>.inr (.inr h));have f:dv n.tag≤o.length:=by
  have:¬((o.length:Int)<dv n.tag):=fun h=>u (.inr (.inl h));omega
 have z:=wD n.tag;rw[if_neg i]at d;have y:0≤dv n.tag:=by
  have:¬(dv n.tag<0):=fun h=>i (.inl h);omega
 clear u i;rcases (by omega:dv n.tag=0∨dv n.tag=1∨dv n.tag=2) with l|l|l
 ·rw[l]at c d;simp only[Int.toNat_zero,FX,oZ]at c;split at c
  ·rename_i g;cases c;rw[if_pos rfl,if_pos g]at d;refine⟨?_,by simp⟩;rw[gS];refine⟨rfl,by rw[d];decide,?_⟩;rw[d];simpa using m
  cases c
 ·rw[l]at c d f;obtain⟨b,p,rfl⟩:∃b p,o=b++[p]:=by
   rcases kZ o with h|⟨b,p,h⟩
   ·subst h;simp at f
   exact⟨b,p,by simpa using h⟩
  have r:(b++[p]).drop ((b++[p]).length-(1:Int).toNat)=[p]:=by
   have:(b++[p]).length-(1:Int).toNat=b.length:=by simp
   rw[this,p6]
  rw[r]at c;simp only at c;rw[gS]at m;obtain⟨B,C,w⟩:=m;split at c
  ·rename_i g;cases c;have j:ku e k≠0:=by omega
   rw[if_neg (by decide),if_neg j,if_pos rfl,if_pos ⟨by omega,g.2⟩]at d;refine⟨?_,by simp⟩;have s:(b++[p]).take ((b++[p]).length-1)=b:=by
    have:(b++[p]).length-1=b.length:=by simp
    rw[this,List.take_left]
   rw[s,gS];refine⟨rfl,by rw[d];omega,?_⟩;rw[d,show k+1-(ku e k+1)=k-ku e k by omega];exact w
  cases c
 rw[l]at c d f;obtain⟨b,p,q,rfl⟩:∃b p q,o=b++[p,q]:=by
  rcases kZ o with h|⟨A,q,h⟩
  ·subst h;simp at f
  rcases kZ A with t|⟨b,p,t⟩
  ·subst t h;simp at f
  exact⟨b,p,q,by rw[h,t];simp⟩
 have r:(b++[p,q]).drop ((b++[p,q]).length-(2:Int).toNat)=[p,q]:=by
  have:(b++[p,q]).length-(2:Int).toNat=b.length:=by simp
  rw[this,p6]
 rw[r]at c;simp only at c;rw[gS]at m;obtain⟨B,C,w,E,D⟩:=m;split at c
 ·rename_i g;cases c;have j:ku e k≠0:=by omega
  rw[if_neg (by decide),if_neg j,if_neg (by decide),if_neg (by
   rintro (h|h|h)
   ·omega
   ·exact h (by omega)
   exact h (by omega))]at d
  refine⟨?_,by simp⟩;have s:(b++[p,q]).take ((b++[p,q]).length-2)=b:=by
   have:(b++[p,q]).length-2=b.length:=by simp
   rw[this,List.take_left]
  rw[s,gS];refine⟨rfl,by rw[d];omega,?_⟩;rw[d,show k+1-(ku e (k-ku e k)+ku e k+1)=k-ku e k-ku e (k-ku e k) by omega];exact D
 cases c
theorem PB(e:List EN):∀k,k≤e.length→∀a o,iw (e.take k) 0 [] []=some (a,o)→SS e k o.reverse∧a.length=k:=by
 intro k;induction k with
 |zero=>
  intro _ a o h;simp[iw]at h;obtain⟨rfl,rfl⟩:=h;exact⟨rfl,rfl⟩
 |succ k f=>
  intro i a o h;have b:k<e.length:=by omega
  rw[dr b,tK]at h;cases hf:iw (e.take k) 0 [] [] with
  |none=>rw[hf]at h;cases h
  |some q=>
   obtain⟨c,g⟩:=q;rw[hf]at h;simp only[cF,cE,de]at h;rw[eK (by omega)]at h;obtain⟨d,j⟩:=f (by omega) c g hf;obtain⟨j1,j2⟩:=VW (au b) d h;exact⟨j1,by omega⟩
end Go.AM
namespace Go.AM
open P
set_option maxHeartbeats 64000000
set_option maxRecDepth 40000
attribute [local simp] aG bj
theorem zG(root:EN)(c:Bool)(xs:List (List EN))(b:List EN)(l r:Int)(o:b.length≤8000)
  (h:goE root (.aa c (xs.map jm)) xs.length 0 [] (-1) (-1)=goE root (.aa c (xs.map jm)) xs.length xs.length b l r) :
  bB I.qbz [root.a,.aa c (xs.map jm)]=some (jm (b++[⟨root.tag,l,r,root.col,root.v⟩])):=by
 have k:goE root (.aa c (xs.map jm)) xs.length xs.length b l r=some (.ext 0,⟨(PH (.aa c (xs.map jm)) xs.length xs.length b.length am root).set 11 (aC false),adh root b l r⟩):=by
  unfold goE;rw[aZ];simp[Dd]
 rw[k]at h;have m:root.a=aH [ap root.tag,ap root.l,ap root.r,ap root.col,ap root.v.k,ap root.v.n,.int .u64 root.v.u,aO root.v.s]:=rfl;have e:b.length+1≤bD:=by unfold bD;omega
 have f:List.take b.length (b.map EN.a)=b.map EN.a:=ay (by simp);have d:List.take (b.length+1) (b.map EN.a++[aq.agg [ap root.tag,ap l,ap r,ap root.col,ap root.v.k,ap root.v.n,.int .u64 root.v.u,aO root.v.s]])=b.map EN.a++[aq.agg [ap root.tag,ap l,ap r,ap root.col,ap root.v.k,ap root.v.n,.int .u64 root.v.u,aO root.v.s]]:=ay (by simp);have i:∀σ,List.map (fz false false 0 σ 18∘EN.a) b=List.map EN.a b:=fun σ=>aU fun y _=>Fx.fx false false 0 σ 15 y;have j:∀σ (a:EN),fz false false 0 σ 18 a.a=a.a:=fun σ a=>Fx.fx false false 0 σ 15 a;unfold goE at h;simp only[PH,adh,bE,bm,List.set,aY]at h;have n:jm (b++[⟨root.tag,l,r,root.col,root.v⟩])=aH [.aa false (b.map EN.a++[aH [ap root.tag,ap l,ap r,ap root.col,ap root.v.k,ap root.v.n,.int .u64 root.v.u,aO root.v.s]])]:=by
  simp[jm];rfl
 rw[aR aks rfl,n];rw[m]at h ⊢;have g:(xs.map jm).length=xs.length:=df _;generalize xs.map jm=vs at *;rw[←g]at h;simp[auZ,ahk,h,append,f,e,d,i,j]
theorem Zz(root:EN)(d:Bool)(xs:List (List EN))(f:xs.length≤2)(e:∀x∈xs,x.length≤1000):∃es:List EN,es.length≤2001∧bB I.qbz [root.a,.aa d (xs.map jm)]=some (jm es):=by
 match xs,f,e with
 |[],_,_=>exact⟨_,by simp,zG root d [] [] (-1) (-1) (by simp) rfl⟩
 |[a],_,e=>
  have la:=e a (by simp);refine⟨_,?_,zG root d [a] _ _ _ ?_ (zz root d [a] 0 a rfl (by simp) [] (by simp;omega) (-1) (-1))⟩
  ·simp;omega
  simp;omega
 |[a,b],_,e=>
  have la:=e a (by simp);have i:=e b (by simp);have g:=zz root d [a,b] 0 a rfl (by simp) [] (by simp;omega) (-1) (-1);have h:=zz root d [a,b] 1 b rfl (by simp) ([]++a.map (Rn (([]:List EN).length))) (by simp;omega) (((([]:List EN).length+a.length:Nat):Int)-1) (-1);refine⟨_,?_,zG root d [a,b] _ _ _ ?_ (g.trans h)⟩
  ·simp;omega
  simp;omega
 |a::b::c::r,f,_=>simp at f
theorem ah4{e:List EN}(h:wk e=true):e.length≤1000:=by
 unfold wk at h;split at h
 ·cases h
 rename_i all a b;have:=(PB e e.length (aF _) all a (by rw[dw];exact b)).2;simp at h;omega
theorem TU(x:List EN)(h:x.length≤8000):bB I.qbo [aH [.aa false (x.map EN.a)]]=some (ap (if wk x then 0 else 200)):=zf false x (by unfold bD;omega)
theorem QQ(root:EN)(f:Bool)(xs:List (List EN))(y:xs.length≤2)(l:∀x∈xs,x.length≤1000):∃(es:List EN) (t:Int),bB I.qcb [root.a,.aa f (xs.map jm)]=some (fb [jm es,ap t])∧es.length≤1000∧(t=0→wk es=true):=by
 have r:root.a=aH [ap root.tag,ap root.l,ap root.r,ap root.col,ap root.v.k,ap root.v.n,.int .u64 root.v.u,aO root.v.s]:=rfl;have z:∀fl top base σ m,fz fl top base σ (m+3) root.a=root.a:=fun fl top base σ m=>Fx.fx fl top base σ m root;have s:∀fl top base σ m (x:List EN),fz fl top base σ (m+3) (jm x)=jm x:=fun fl top base σ m x=>by simp[jm]
 have loop:=om (base:=2) (clr:=[4,5,6,12,13]) (b:=wS) xs (fun k=>⟨[root.a,.aa f (xs.map jm),aI 0 0 0 0,aI 1 0 0 0,am,am,am,am,am,.aa f (xs.map jm),ap xs.length,ap k,am,am,am],[aB 8 0 [root.a],aB 1 0 [aH [.ai]]]⟩) (fun x=>!wk x)
  (.ext 0,⟨[root.a,.aa f (xs.map jm),aI 0 0 0 0,aI 1 0 0 0,am,am,am,am,am,.aa f (xs.map jm),ap xs.length,ap xs.length,aC false,am,am],[aB 8 0 [root.a],aB 1 0 [aH [.ai]]]⟩) (fun o=>∃q,o=(.ret,q)∧q.env[4]?=some (ap 200)∧q.env[3]?=some (aI 1 0 0 0)∧q.st[1]?=some (aB 1 0 [aH [.ai]]))
  (fun k x i d p=>by
   have j:∀h:k<xs.length,xs[k]'h=x:=fun h=>(ak.1 d).2;have c:wk x=true:=by simpa using p
   have a:=TU x (by have:=l x (aN d);omega);rw[c]at a;have v:xs.length≤bD:=by unfold bD;omega
   have D:=cU i v;simp[wS,i,d,j,a,D,z,s,bN,bA,cq,dF])
  (fun k x i d p=>by
   have j:∀h:k<xs.length,xs[k]'h=x:=fun h=>(ak.1 d).2;have c:wk x=false:=by simpa using p
   have a:=TU x (by have:=l x (aN d);omega);rw[c]at a;exact⟨_,by simp[wS,i,d,j,a];rfl,_,rfl,rfl,rfl,rfl⟩)
  (by simp[wS])
 rw[aR agJ rfl];obtain⟨es,u,g⟩:=Zz root f xs y l;have a:=TU es (by omega);have w:(xs.map jm).length=xs.length:=df _;simp only[aY]at loop;rcases loop with⟨_,loop⟩|⟨_,o,loop,q,rfl,C,B,A⟩
 ·cases ho:wk es with
  |true=>
   rw[ho]at a;have n:es.length≤1000:=ah4 ho;refine⟨es,0,?_,n,fun _=>ho⟩;rw[r]at g loop ⊢;simp[ar3,Kb,loop,g,a]
  |false=>
   rw[ho]at a;refine⟨[],200,?_,by simp,fun e=>by cases e⟩;rw[r]at g loop ⊢;simp[ar3,Kb,loop,g,a]
 refine⟨[],200,?_,by simp,fun e=>by cases e⟩;rw[r]at loop ⊢;simp[ar3,Kb,loop,C,B,A]
abbrev zE:wC:=⟨0,0,0,[]⟩
theorem ahB(root:EN):∃(es:List EN) (a:Int),bB I.qbs [root.a]=some (fb [jm es,ap a])∧es.length≤1000∧(a=0→wk es=true):=by
 obtain⟨es,a,h,b,c⟩:=QQ root false [] (by simp) (by simp);refine⟨es,a,?_,b,c⟩;have d:root.a=aH [ap root.tag,ap root.l,ap root.r,ap root.col,ap root.v.k,ap root.v.n,.int .u64 root.v.u,aO root.v.s]:=rfl;rw[aR afR rfl];rw[d]at h ⊢;simp only[bm]at h;simp[asN,XH,h]
theorem agQ(b:Int)(a:List EN)(f:a.length≤1000):∃(es:List EN) (c:Int),bB I.qbt [ap b,jm a]=some (fb [jm es,ap c])∧es.length≤1000∧(c=0→wk es=true):=by
 obtain⟨es,c,h,d,e⟩:=QQ ⟨b,0,0,0,zE⟩ true [a] (by simp) (by simp[f]);refine⟨es,c,?_,d,e⟩;have g:(⟨b,0,0,0,zE⟩:EN).a=aH [ap b,ap 0,ap 0,ap 0,ap 0,ap 0,.int .u64 0,aO []]:=rfl;rw[aR amz rfl];rw[g]at h;simp only[aV,bm]at h;simp[auK,afB,h]
theorem aoe(c:Int)(a b:List EN)(g:a.length≤1000)(i:b.length≤1000):∃(es:List EN) (d:Int),bB I.qbv [ap c,jm a,jm b]=some (fb [jm es,ap d])∧es.length≤1000∧(d=0→wk es=true):=by
 obtain⟨es,d,h,e,f⟩:=QQ ⟨c,0,0,0,zE⟩ true [a,b] (by simp) (by simp[g,i]);refine⟨es,d,?_,e,f⟩;have j:(⟨c,0,0,0,zE⟩:EN).a=aH [ap c,ap 0,ap 0,ap 0,ap 0,ap 0,.int .u64 0,aO []]:=rfl;rw[aR akC rfl];rw[j]at h;simp only[aV,bm]at h;simp[atB,agA,h]
theorem NZ{c:Type}[DecidableEq c]:∀(a b:List c),a.length=b.length→(a.zip b).any (fun p=>!decide (p.1=p.2))=!decide (a=b)
 |[],[],_=>rfl
 |[],_::_,h=>by simp at h
 |_::_,[],h=>by simp at h
 |x::a,y::b,h=>by
  rw[fS,iF,NZ a b (by simpa using h)];by_cases e:x=y
  ·subst e;simp
  simp[e]
theorem aad(x y:EN):eqa true [0,0,0,0,0,0,0,2] x.a y.a=some (aC (!decide (x=y))):=by
 obtain⟨t,l,r,c,k,n,u,s⟩:=x;obtain⟨f,b,e,c',a,d,g,s'⟩:=y;simp[EN.a,eqa,wC.mk.injEq,EN.mk.injEq]
 repeat (split<;>simp_all)
theorem VQ(n r:Bool)(a c:List EN)(z:a.length≤bD):bB I.qgr [.aa n (a.map EN.a),.aa r (c.map EN.a)]=some (aC (decide (a=c))):=by
 rw[aR alN rfl];by_cases d:a.length=c.length
 rotate_left
 ·have m:((a.length:Int) != (c.length:Int))=true:=by simp;omega
  have j:decide (a=c)=false:=by simp;intro e;exact d (by rw[e])
  rw[j];simp[asq,U7,m]
 have B:(a.zip c).length=a.length:=by simp;omega
 have loop:=om (base:=0) (clr:=[2,3,7,8]) (b:=CK) (a.zip c) (fun k=>⟨[.aa n (a.map EN.a),.aa r (c.map EN.a),am,am,aC false,ap a.length,ap k,am,am],[]⟩) (fun p=>!decide (p.1=p.2))
  (.ext 0,⟨[.aa n (a.map EN.a),.aa r (c.map EN.a),am,am,aC false,ap a.length,ap a.length,aC false,am],[]⟩) (fun o=>∃q,o=(.ret,q)∧q.env[2]?=some (aC false))
  (fun k p w v l=>by
   obtain⟨x,y⟩:=p;obtain⟨g,i⟩:=eU.1 v;have k1:k<a.length:=by omega
   have k2:k<c.length:=by omega
   have s:∀h:k<a.length,a[k]'h=x:=fun h=>(ak.1 g).2;have t:∀h:k<c.length,c[k]'h=y:=fun h=>(ak.1 i).2;have C:=cU k1 z;simp only at l;have f:=aad x y;rw[l]at f;unfold eqa at f;simp[CK,k1,k2,g,i,s,t,C,f,bN])
  (fun k p w v l=>by
   obtain⟨x,y⟩:=p;obtain⟨g,i⟩:=eU.1 v;have k1:k<a.length:=by omega
   have k2:k<c.length:=by omega
   have s:∀h:k<a.length,a[k]'h=x:=fun h=>(ak.1 g).2;have t:∀h:k<c.length,c[k]'h=y:=fun h=>(ak.1 i).2;simp only at l;have f:=aad x y;rw[l]at f;unfold eqa at f;exact⟨_,by simp[CK,k1,k2,g,i,s,t,f];rfl,_,rfl,rfl⟩)
  (by rw[B];simp[CK])
 have m:((a.length:Int) != (c.length:Int))=false:=by simp;omega
 rw[NZ a c d]at loop;rcases loop with⟨u,loop⟩|⟨u,o,loop,q,rfl,A⟩
 ·have j:decide (a=c)=true:=by simpa using u
  rw[j];simp only[aY]at loop;simp[asq,U7,m,loop]
 have j:decide (a=c)=false:=by simpa using u
 rw[j];simp only[aY]at loop;simp[asq,U7,m,loop,A]
theorem CI(c d:Bool)(a b:List EN)(e:a.length≤bD):bB I.qbu [aH [.aa c (a.map EN.a)],aH [.aa d (b.map EN.a)]]=some (aC (decide (a=b))):=by
 rw[aR akf rfl];have k1:=VQ c d a b e;simp[atV,aeN,k1]
theorem To(c d:Bool)(a b:List EN)(e:a.length≤8000):bB I.qbu [aH [.aa c (a.map EN.a)],aH [.aa d (b.map EN.a)]]=some (aC (decide (a=b))):=CI c d a b (by unfold bD;omega)
def Kh{α:Type}(enc:α→aq)(P:α→Prop)(f:Nat):Prop:=∀σ id r,At σ id r→r.toks.length≤600→∃x r',cD code f [aI id 0 0 0] σ=some (enc x,σ.set id (gz r'))∧Le r' r∧P x
theorem zB{a:Type}{enc:a→aq}{m:Nat}{g:Bool}[Nc enc m g][Fx enc](ep:Nat)(xs:List a)(b:Nat)(τ:aw):bA b τ (aB m ep (xs.map enc))=aB m ep (xs.map enc):=by
 have h:(xs.map enc).map (cq b τ)=xs.map enc:=by
  rw[bU];exact aU fun y _=>Fx.fx false true b τ 17 y
 simp only[bA,KJ,h];simp
theorem JB{B:Type}{enc:B→aq}{P:B→Prop}[Nc enc 2 true][Fx enc](E:∀x,∃cs,enc x=aH cs∧cs.length=2)(f:Nat)(W:Kh enc P f)(i:Nat)(ab:1≤i)(hm:i≤100){σ:aw}{id:Nat}{r:fY}(k:At σ id r)(h6:r.toks.length≤600) :
  ∃(xs:List B) (j:fY),cD code I.qev [aI id 0 0 0,ap i,.fn f [aI id 0 0 0] []] σ=some (.aa false (xs.map enc),σ.set id (gz j))∧Le j r∧xs.length≤i∧∀x∈xs,P x:=by
 have key:∀m (e:fY) (xs:List B) (ep:Nat),e.toks.length≤m→m≤600→1≤xs.length→xs.length≤i→(∀x∈xs,P x) →
   ∃(g:List B) (j:fY) (h:Nat) (c d:aq),bT code (σ.length+1) [5,6] zW ⟨[aI id 0 0 0,ap i,.fn f [aI id 0 0 0] [],.ai,.sl σ.length ep 0 xs.length,am,am],σ.set id (gz e)++[aB 2 ep (xs.map enc)]⟩ =
    some (.ext 0,⟨[aI id 0 0 0,ap i,.fn f [aI id 0 0 0] [],.ai,.sl σ.length h 0 g.length,c,d],σ.set id (gz j)++[aB 2 h (g.map enc)]⟩)∧Le j e∧g.length≤i∧∀x∈g,P x:=by
  intro m;induction m with
  |zero=>
   intro e xs ep hr _ _ L D;have Z:e.toks=[]:=db.1 (by omega);have l:=JG e 5 [44];have F:uY e 5 [[44]]=false:=by unfold uY;rw[Z]
   rw[F]at l;have H:=oH k (gz e);refine⟨xs,e,ep,aC false,am,?_,Le.rfl' e,L,D⟩;rw[aZ];simp[zW,H,eF,l]
  |succ m ih=>
   intro e xs ep hr ad af L D;have l:=JG e 5 [44];have H:=oH k (gz e);have C:At (σ.set id (gz e)++[aB 2 ep (xs.map enc)]) id e:=(k.set e).app _ (fun τ b _=>by rw[aV,bm,zB]);cases F:uY e 5 [[44]] with
   |false=>
    rw[F]at l;refine⟨xs,e,ep,aC false,am,?_,Le.rfl' e,L,D⟩;rw[aZ];simp[zW,H,eF,l]
   |true=>
    rw[F]at l;by_cases R:xs.length=i
    ·have s:((xs.length:Int)==(i:Int))=true:=by simp[R]
     have hp:=tC e;have G:=oM C 191 (gU e);rw[set_set k]at G;refine⟨xs,nL e 191 (gU e),ep,aC true,aC true,?_,vf e _ _,L,D⟩;rw[aZ];simp[zW,H,eF,l,s,hp,G]
    have s:((xs.length:Int)==(i:Int))=false:=by simp;omega
    obtain⟨t,X,hl⟩:=vx C F;rw[set_set k]at X;have M:At (σ.set id (gz e.nx)++[aB 2 ep (xs.map enc)]) id e.nx:=(k.set e.nx).app _ (fun τ b _=>by rw[aV,bm,zB]);obtain⟨x,Y,z,Q,N⟩:=W _ id e.nx M (by omega);rw[set_set k]at z;unfold Le at Q
    obtain⟨g,j,h,c,d,J,K,h3,h4⟩:=ih Y (xs++[x]) (ep+1) (by omega) (by omega) (by simp) (by simp;omega) (fun y A=>by
     rcases ba.1 A with A|A
     ·exact D y A
     rw[aP.1 A];exact N)
    refine⟨g,j,h,c,d,?_,by unfold Le at *;omega,h3,h4⟩;rw[←J,aZ];have u:aM (enc x)=2:=Nc.nc x;have w:List.take xs.length (xs.map enc)=xs.map enc:=ay (by simp);have O:xs.length+1≤bD:=by unfold bD;omega
    have S:(xs++[x]).map enc=xs.map enc++[enc x]:=by simp
    have V:=fun env=>cO (base:=σ.length+1) (clr:=[5,6]) (env:=env) (σ:=σ.set id (gz Y)++[aB 2 (ep+1) (xs.map enc++[enc x])]) (by simp);rw[S];obtain⟨cs,q,p⟩:=E x;have n:=V;rw[q]at z n u ⊢;simp[zW,H,eF,l,s,X,z,p,u,append,w,O,n]
 obtain⟨x,e,J,l1,p1⟩:=W σ id r k h6;unfold Le at l1;obtain⟨g,j,h,c,d,K,l2,l3,p2⟩:=key e.toks.length e [x] 0 (aF _) (by omega) (by simp) (by simp;omega) (fun y A=>by rw[aP.1 A];exact p1);refine⟨g,j,?_,by unfold Le at *;omega,l3,p2⟩;rw[cZ amQ rfl];have hT:=fun o t v=>dM k j o t v;have u:aM (enc x)=2:=Nc.nc x;have w:List.take g.length (g.map enc)=g.map enc:=ay (by simp);have ae:∀σ,(g.map enc).map (fz false false 0 σ 19)=g.map enc:=fun σ=>by
  rw[bU];exact aU fun y _=>Fx.fx false false 0 σ 16 y
 have T:∀b σ,(g.map enc).map (fz false false b σ 19)=g.map enc:=fun b σ=>by
  rw[bU];exact aU fun y _=>Fx.fx false false b σ 16 y
 have U:∀b σ (a:B),fz false false b σ 19 (enc a)=enc a:=fun b σ a=>Fx.fx false false b σ 16 a;obtain⟨cs,q,p⟩:=E x;simp only[aV,bm,bw,bE]at K;rw[q]at J K;simp[auo,aeX,J,p,K,hT,cq,dF,w,T,U]
theorem JH{B:Type}{enc:B→aq}{P:B→Prop}[Nc enc 2 true][Fx enc](E:∀x,∃cs,enc x=aH cs∧cs.length=2)(f:Nat)(W:Kh enc P f)(i:Nat)(ab:1≤i)(hm:i≤100){σ:aw}{id:Nat}{r:fY}(k:At σ id r)(h6:r.toks.length≤600) :
  ∃(xs:List B) (j:fY),cD code I.qex [aI id 0 0 0,ap i,.fn f [aI id 0 0 0] []] σ=some (.aa false (xs.map enc),σ.set id (gz j))∧Le j r∧xs.length≤i∧∀x∈xs,P x:=by
 have key:∀m (e:fY) (xs:List B) (ep:Nat),e.toks.length≤m→m≤600→1≤xs.length→xs.length≤i→(∀x∈xs,P x) →
   ∃(g:List B) (j:fY) (h:Nat) (c d:aq),bT code (σ.length+1) [5,6] Ax ⟨[aI id 0 0 0,ap i,.fn f [aI id 0 0 0] [],.ai,.sl σ.length ep 0 xs.length,am,am],σ.set id (gz e)++[aB 2 ep (xs.map enc)]⟩ =
    some (.ext 0,⟨[aI id 0 0 0,ap i,.fn f [aI id 0 0 0] [],.ai,.sl σ.length h 0 g.length,c,d],σ.set id (gz j)++[aB 2 h (g.map enc)]⟩)∧Le j e∧g.length≤i∧∀x∈g,P x:=by
  intro m;induction m with
  |zero=>
   intro e xs ep hr _ _ L D;have Z:e.toks=[]:=db.1 (by omega);have l:=JG e 5 [44];have F:uY e 5 [[44]]=false:=by unfold uY;rw[Z]
   rw[F]at l;have H:=oH k (gz e);refine⟨xs,e,ep,aC false,am,?_,Le.rfl' e,L,D⟩;rw[aZ];simp[Ax,H,eF,l]
  |succ m ih=>
   intro e xs ep hr ad af L D;have l:=JG e 5 [44];have H:=oH k (gz e);have C:At (σ.set id (gz e)++[aB 2 ep (xs.map enc)]) id e:=(k.set e).app _ (fun τ b _=>by rw[aV,bm,zB]);cases F:uY e 5 [[44]] with
   |false=>
    rw[F]at l;refine⟨xs,e,ep,aC false,am,?_,Le.rfl' e,L,D⟩;rw[aZ];simp[Ax,H,eF,l]
   |true=>
    rw[F]at l;by_cases R:xs.length=i
    ·have s:((xs.length:Int)==(i:Int))=true:=by simp[R]
     have hp:=tC e;have G:=oM C 191 (gU e);rw[set_set k]at G;refine⟨xs,nL e 191 (gU e),ep,aC true,aC true,?_,vf e _ _,L,D⟩;rw[aZ];simp[Ax,H,eF,l,s,hp,G]
    have s:((xs.length:Int)==(i:Int))=false:=by simp;omega
    obtain⟨t,X,hl⟩:=vx C F;rw[set_set k]at X;have M:At (σ.set id (gz e.nx)++[aB 2 ep (xs.map enc)]) id e.nx:=(k.set e.nx).app _ (fun τ b _=>by rw[aV,bm,zB]);obtain⟨x,Y,z,Q,N⟩:=W _ id e.nx M (by omega);rw[set_set k]at z;unfold Le at Q
    obtain⟨g,j,h,c,d,J,K,h3,h4⟩:=ih Y (xs++[x]) (ep+1) (by omega) (by omega) (by simp) (by simp;omega) (fun y A=>by
     rcases ba.1 A with A|A
     ·exact D y A
     rw[aP.1 A];exact N)
    refine⟨g,j,h,c,d,?_,by unfold Le at *;omega,h3,h4⟩;rw[←J,aZ];have u:aM (enc x)=2:=Nc.nc x;have w:List.take xs.length (xs.map enc)=xs.map enc:=ay (by simp);have O:xs.length+1≤bD:=by unfold bD;omega
    have S:(xs++[x]).map enc=xs.map enc++[enc x]:=by simp
    have V:=fun env=>cO (base:=σ.length+1) (clr:=[5,6]) (env:=env) (σ:=σ.set id (gz Y)++[aB 2 (ep+1) (xs.map enc++[enc x])]) (by simp);rw[S];obtain⟨cs,q,p⟩:=E x;have n:=V;rw[q]at z n u ⊢;simp[Ax,H,eF,l,s,X,z,p,u,append,w,O,n]
 obtain⟨x,e,J,l1,p1⟩:=W σ id r k h6;unfold Le at l1;obtain⟨g,j,h,c,d,K,l2,l3,p2⟩:=key e.toks.length e [x] 0 (aF _) (by omega) (by simp) (by simp;omega) (fun y A=>by rw[aP.1 A];exact p1);refine⟨g,j,?_,by unfold Le at *;omega,l3,p2⟩;rw[cZ aoF rfl];have hT:=fun o t v=>dM k j o t v;have u:aM (enc x)=2:=Nc.nc x;have w:List.take g.length (g.map enc)=g.map enc:=ay (by simp);have ae:∀σ,(g.map enc).map (fz false false 0 σ 19)=g.map enc:=fun σ=>by
  rw[bU];exact aU fun y _=>Fx.fx false false 0 σ 16 y
 have T:∀b σ,(g.map enc).map (fz false false b σ 19)=g.map enc:=fun b σ=>by
  rw[bU];exact aU fun y _=>Fx.fx false false b σ 16 y
 have U:∀b σ (a:B),fz false false b σ 19 (enc a)=enc a:=fun b σ a=>Fx.fx false false b σ 16 a;obtain⟨cs,q,p⟩:=E x;simp only[aV,bm,bw,bE]at K;rw[q]at J K;simp[aua,afy,J,p,K,hT,cq,dF,w,T,U]
theorem Nx{B:Type}{enc:B→aq}{P:B→Prop}[Nc enc 3 true][Fx enc](E:∀x,∃cs,enc x=aH cs∧cs.length=3)(f:Nat)(W:Kh enc P f)(i:Nat)(ab:1≤i)(hm:i≤100){σ:aw}{id:Nat}{r:fY}(k:At σ id r)(h6:r.toks.length≤600) :
  ∃(xs:List B) (j:fY),cD code I.qew [aI id 0 0 0,ap i,.fn f [aI id 0 0 0] []] σ=some (.aa false (xs.map enc),σ.set id (gz j))∧Le j r∧xs.length≤i∧∀x∈xs,P x:=by
 have key:∀m (e:fY) (xs:List B) (ep:Nat),e.toks.length≤m→m≤600→1≤xs.length→xs.length≤i→(∀x∈xs,P x) →
   ∃(g:List B) (j:fY) (h:Nat) (c d:aq),bT code (σ.length+1) [5,6] zH ⟨[aI id 0 0 0,ap i,.fn f [aI id 0 0 0] [],.ai,.sl σ.length ep 0 xs.length,am,am],σ.set id (gz e)++[aB 3 ep (xs.map enc)]⟩ =
    some (.ext 0,⟨[aI id 0 0 0,ap i,.fn f [aI id 0 0 0] [],.ai,.sl σ.length h 0 g.length,c,d],σ.set id (gz j)++[aB 3 h (g.map enc)]⟩)∧Le j e∧g.length≤i∧∀x∈g,P x:=by
  intro m;induction m with
  |zero=>
   intro e xs ep hr _ _ L D;have Z:e.toks=[]:=db.1 (by omega);have l:=JG e 5 [44];have F:uY e 5 [[44]]=false:=by unfold uY;rw[Z]
   rw[F]at l;have H:=oH k (gz e);refine⟨xs,e,ep,aC false,am,?_,Le.rfl' e,L,D⟩;rw[aZ];simp[zH,H,eF,l]
  |succ m ih=>
   intro e xs ep hr ad af L D;have l:=JG e 5 [44];have H:=oH k (gz e);have C:At (σ.set id (gz e)++[aB 3 ep (xs.map enc)]) id e:=(k.set e).app _ (fun τ b _=>by rw[aV,bm,zB]);cases F:uY e 5 [[44]] with
   |false=>
    rw[F]at l;refine⟨xs,e,ep,aC false,am,?_,Le.rfl' e,L,D⟩;rw[aZ];simp[zH,H,eF,l]
   |true=>
    rw[F]at l;by_cases R:xs.length=i
    ·have s:((xs.length:Int)==(i:Int))=true:=by simp[R]
     have hp:=tC e;have G:=oM C 191 (gU e);rw[set_set k]at G;refine⟨xs,nL e 191 (gU e),ep,aC true,aC true,?_,vf e _ _,L,D⟩;rw[aZ];simp[zH,H,eF,l,s,hp,G]
    have s:((xs.length:Int)==(i:Int))=false:=by simp;omega
    obtain⟨t,X,hl⟩:=vx C F;rw[set_set k]at X;have M:At (σ.set id (gz e.nx)++[aB 3 ep (xs.map enc)]) id e.nx:=(k.set e.nx).app _ (fun τ b _=>by rw[aV,bm,zB]);obtain⟨x,Y,z,Q,N⟩:=W _ id e.nx M (by omega);rw[set_set k]at z;unfold Le at Q
    obtain⟨g,j,h,c,d,J,K,h3,h4⟩:=ih Y (xs++[x]) (ep+1) (by omega) (by omega) (by simp) (by simp;omega) (fun y A=>by
     rcases ba.1 A with A|A
     ·exact D y A
     rw[aP.1 A];exact N)
    refine⟨g,j,h,c,d,?_,by unfold Le at *;omega,h3,h4⟩;rw[←J,aZ];have u:aM (enc x)=3:=Nc.nc x;have w:List.take xs.length (xs.map enc)=xs.map enc:=ay (by simp);have O:xs.length+1≤bD:=by unfold bD;omega
    have S:(xs++[x]).map enc=xs.map enc++[enc x]:=by simp
    have V:=fun env=>cO (base:=σ.length+1) (clr:=[5,6]) (env:=env) (σ:=σ.set id (gz Y)++[aB 3 (ep+1) (xs.map enc++[enc x])]) (by simp);rw[S];obtain⟨cs,q,p⟩:=E x;have n:=V;rw[q]at z n u ⊢;simp[zH,H,eF,l,s,X,z,p,u,append,w,O,n]
 obtain⟨x,e,J,l1,p1⟩:=W σ id r k h6;unfold Le at l1;obtain⟨g,j,h,c,d,K,l2,l3,p2⟩:=key e.toks.length e [x] 0 (aF _) (by omega) (by simp) (by simp;omega) (fun y A=>by rw[aP.1 A];exact p1);refine⟨g,j,?_,by unfold Le at *;omega,l3,p2⟩;rw[cZ aoh rfl];have hT:=fun o t v=>dM k j o t v;have u:aM (enc x)=3:=Nc.nc x;have w:List.take g.length (g.map enc)=g.map enc:=ay (by simp);have ae:∀σ,(g.map enc).map (fz false false 0 σ 19)=g.map enc:=fun σ=>by
  rw[bU];exact aU fun y _=>Fx.fx false false 0 σ 16 y
 have T:∀b σ,(g.map enc).map (fz false false b σ 19)=g.map enc:=fun b σ=>by
  rw[bU];exact aU fun y _=>Fx.fx false false b σ 16 y
 have U:∀b σ (a:B),fz false false b σ 19 (enc a)=enc a:=fun b σ a=>Fx.fx false false b σ 16 a;obtain⟨cs,q,p⟩:=E x;simp only[aV,bm,bw,bE]at K;rw[q]at J K;simp[atE,afr,J,p,K,hT,cq,dF,w,T,U]
abbrev Q2(ns:List eO):aq:=aH [gN ns]
theorem Ai{σ:aw}{id:Nat}{r:fY}(c:At σ id r)(z:r.toks.length≤600):∃d y,cD code I.qfx [aI id 0 0 0] σ=some (Q2 d,σ.set id (gz y))∧Le y r∧d.length≤1300:=by
 have n:At (σ++[aB 1 0 [aH [.ai]]]) id r:=c.app _ (fun τ b _=>by simp[bA,cq,dF]);obtain⟨d,a,l,w,A⟩:=apU n z;rw[s9 c]at l;have s:=tC r;have h:=MZ c;have g:=oH c (gz a);obtain⟨e,x,_⟩:=XF false d (by omega);have p:At (σ.set id (gz a)++[aB 1 0 [aH [.ai]],aB 1 0 [Q2 d]]) id a:=(c.set a).app _ (fun τ b _=>by simp[bA,cq,dF]);have k:=oM p 192 (gU r);rw[set_set c]at k;have i:=fun o t v=>dM c a o t v;have q:=fun o t v=>dM c (nL a 192 (gU r)) o t v;have u:a.v=aH [.aa false (a.toks.map vq.a),ap a.en,ap a.at',ap a.er]:=rfl;by_cases m:a.er=0
 ·by_cases j:e=0
  ·have f:(e != 0)=false:=by simpa using j
   refine⟨d,a,?_,w,by omega⟩;rw[cZ Xg rfl];simp[asm,U2,h,eF,s,l,g,u,m,x,f,i,cq,dF]
  have f:(e != 0)=true:=by simpa using j
  refine⟨d,nL a 192 (gU r),?_,(vf a _ _).trans w,by omega⟩;rw[cZ Xg rfl];simp[asm,U2,h,eF,s,l,g,u,m,x,f,k,q,cq,dF]
 refine⟨d,a,?_,w,by omega⟩;rw[cZ Xg rfl];simp[asm,U2,h,eF,s,l,g,u,m,i,cq,dF]
structure pU where
 ns:List eO
 as':List UInt8
 h:ns.length≤1300
def pU.a(x:pU):aq:=aH [gN x.ns,aO x.as']
instance:Nc pU.a 2 true:=⟨fun _=>rfl,fun _=>rfl⟩
instance:Fx pU.a:=⟨fun fl top base σ m x=>by simp[pU.a]⟩
structure BZ where
 name:List UInt8
 number:Int
 desc:Bool
def BZ.a(x:BZ):aq:=aH [aO x.name,ap x.number,aC x.desc]
instance:Nc BZ.a 3 true:=⟨fun _=>rfl,fun _=>rfl⟩
instance:Fx BZ.a:=⟨fun fl top base σ m x=>by simp[BZ.a]⟩
theorem RK:Kh pU.a (fun _=>True) I.qfe:=by
 intro σ id r a s;have g:At (σ++[aB 2 0 [aH [.ai,aO []]]]) id r:=a.app _ (fun τ b _=>by simp[bA,cq,dF]);obtain⟨d,k,e,m,p⟩:=Ai g s;rw[s9 a]at e;have h:At (σ.set id (gz k)++[aB 2 0 [aH [.ai,aO []]],aB 2 0 [aH [gN d,aO []]]]) id k:=(a.set k).app _ (fun τ b _=>by simp[bA,cq,dF]);obtain⟨b,c,f,n,u⟩:=jy h 1 [65,83];rw[set_set a]at f;unfold Le at m;cases b with
 |false=>
  obtain rfl:=u rfl;refine⟨⟨d,[],p⟩,c,?_,m,trivial⟩;have j:=fun o t v=>dM a c o t v;rw[cZ afb rfl];simp[asU,Z7,e,f,j,cq,dF,pU.a]
 |true=>
  have n:=n rfl;have i:At (σ.set id (gz c)++[aB 2 0 [aH [.ai,aO []]],aB 2 0 [aH [gN d,aO []]]]) id c:=(a.set c).app _ (fun τ b _=>by simp[bA,cq,dF]);obtain⟨t,q,l,w⟩:=DP i 2;rw[set_set a]at l;unfold Le at w;refine⟨⟨d,t.t,p⟩,q,?_,by unfold Le;omega,trivial⟩;have j:=fun o t v=>dM a q o t v;rw[cZ afb rfl];simp[asU,Z7,e,f,l,j,cq,dF,pU.a]
theorem R2:Kh uV.a (fun _=>True) I.qfi:=by
 intro σ id r a c;obtain⟨n,b,h,l⟩:=KV a;exact⟨n,b,h,l,trivial⟩
theorem FJ{σ:aw}{id:Nat}{r:fY}(d:At σ id r):∃(t a:List UInt8) (m:fY),cD code I.qft [aI id 0 0 0] σ=some (aH [aO t,aO a],σ.set id (gz m))∧Le m r:=by
 have h:At (σ++[aB 2 0 [aH [aO [],aO []]]]) id r:=d.app _ (fun τ b _=>by simp[bA,cq,dF]);obtain⟨k,c,g,n⟩:=DP h 2;rw[s9 d]at g;have i:At (σ.set id (gz c)++[aB 2 0 [aH [aO [],aO []]],aB 2 0 [aH [aO k.t,aO []]]]) id c:=(d.set c).app _ (fun τ b _=>by simp[bA,cq,dF]);have e:=oH d (gz c);have f:=PK c 2;unfold Le at *;cases b2:uY c 2 [] with
 |false=>
  rw[b2]at f;refine⟨k.t,[],c,?_,n⟩;have j:=fun o t v=>dM d c o t v;rw[cZ afQ rfl];simp[as8,XQ,g,e,eF,f,j,cq,dF]
 |true=>
  rw[b2]at f;obtain⟨t,l,p⟩:=vx i b2;rw[set_set d]at l;refine⟨k.t,t.t,c.nx,?_,by omega⟩;have j:=fun o t v=>dM d c.nx o t v;rw[cZ afQ rfl];simp[as8,XQ,g,e,eF,f,l,j,cq,dF]
theorem FM{σ:aw}{id:Nat}{r:fY}(c:At σ id r):∃(n:Int) (j:fY),cD code I.qfl [aI id 0 0 0] σ=some (ap n,σ.set id (gz j))∧Le j r:=by
 have h:=tC r;have f:=c.get;obtain⟨d,b,e,i⟩:=DP c 3;have a:=oM (c.set b) 190 (gU r);rw[ez]at a;by_cases g:(2147483647:Int)<d.n
 ·refine⟨IntKind.i64.wrap d.n,nL b 190 (gU r),?_,(vf b _ _).trans i⟩;rw[cZ ae8 rfl];simp[ato,abA,f,eF,h,e,g,a,fB]
 refine⟨IntKind.i64.wrap d.n,b,?_,i⟩;rw[cZ ae8 rfl];simp[ato,abA,f,eF,h,e,g,fB]
theorem EV{base:Nat}{clr:List Nat}{env:List aq}{σ:aw}{o:Obj}{t:aw}(h:σ.length=base)(c:ahH σ)(b:clr.head?≠some 9999):bN base clr ⟨env,σ++o::t⟩=⟨(clear env clr).map (cq base (σ++o::t)),σ⟩:=by
 unfold bN;rw[if_neg (by simp[h];exact b)];have a:(σ++o::t).take base=σ:=fZ h;simp only[a,c _ base (by omega)]
structure o7 where
 left:Bool
 table:List UInt8
 as':List UInt8
 on:List eO
 h:on.length≤1300
def o7.a(x:o7):aq:=aH [aC x.left,aO x.table,aO x.as',gN x.on]
instance:Nc o7.a 4 true:=⟨fun _=>rfl,fun _=>rfl⟩
instance:Fx o7.a:=⟨fun fl top base σ m x=>by simp[o7.a]⟩
theorem aoo(r:fY)(a:Int)(s t:List UInt8):bB I.qfd [.cptr true r.v 0,ap a,.aa true [aO s,aO t]]=some (aC (uY r a [s,t])):=adw true r a [s,t] (by simp)
theorem Qv{σ:aw}{id:Nat}{r:fY}(f:At σ id r)(A:r.toks.length≤600):∃(P:List o7) (i:fY),cD code I.qff [aI id 0 0 0] σ=some (.aa false (P.map o7.a),σ.set id (gz i))∧Le i r∧P.length≤2:=by
 have n:∀(e:fY) (ep:Nat) (xs:List o7),At (σ.set id (gz e)++[aB 4 ep (xs.map o7.a)]) id e:=fun e ep xs=>(f.set e).app _ (fun τ b _=>by rw[aV,bm,zB]);have key:∀m (e:fY) (xs:List o7) (ep:Nat),xs.length+m=2→e.toks.length≤600 →
   ∃(g:List o7) (i:fY) (h:Nat) (c d:aq),bT code (σ.length+1) [3,4,5] Ak ⟨[aI id 0 0 0,.ai,.sl σ.length ep 0 xs.length,am,am,am],σ.set id (gz e)++[aB 4 ep (xs.map o7.a)]⟩ =
    some (.ext 0,⟨[aI id 0 0 0,.ai,.sl σ.length h 0 g.length,am,c,d],σ.set id (gz i)++[aB 4 h (g.map o7.a)]⟩)∧Le i e∧g.length≤2:=by
  intro m;induction m with
  |zero=>
   intro e xs ep X A;have k:=aoo e 1 [76,69,70,84] [74,79,73,78];have x:=oH f (gz e);cases hb:uY e 1 [[76,69,70,84],[74,79,73,78]] with
   |false=>
    rw[hb]at k;refine⟨xs,e,ep,aC false,am,?_,Le.rfl' e,by omega⟩;rw[aZ];simp[Ak,x,eF,k]
   |true=>
    rw[hb]at k;have p:((xs.length:Int)==2)=true:=by simp;omega
    have W:=tC e;have w:=oM (n e ep xs) 191 (gU e);rw[set_set f]at w;refine⟨xs,nL e 191 (gU e),ep,aC true,aC true,?_,vf e _ _,by omega⟩;rw[aZ];simp[Ak,x,eF,k,p,W,w]
  |succ m Y=>
   intro e xs ep X A;have k:=aoo e 1 [76,69,70,84] [74,79,73,78];have x:=oH f (gz e);cases hb:uY e 1 [[76,69,70,84],[74,79,73,78]] with
   |false=>
    rw[hb]at k;refine⟨xs,e,ep,aC false,am,?_,Le.rfl' e,by omega⟩;rw[aZ];simp[Ak,x,eF,k]
   |true=>
    rw[hb]at k;have p:((xs.length:Int)==2)=false:=by simp;omega
    have j:∀(e:fY) (l:Bool) (t a:List UInt8) (o:aq) (O:∀b τ m,fz false true b τ (m+3) o=o),At (σ.set id (gz e)++[aB 4 ep (xs.map o7.a),aB 4 0 [aH [aC l,aO t,aO a,o]]]) id e:=fun e l t a o O=>(f.set e).app _ (fun τ b _=>by
     rw[aV,aV,bm,zB];simp[bA,cq,dF,O])
    obtain⟨b,Q,u,G,H⟩:=jy (n e ep xs) 1 [76,69,70,84];rw[set_set f]at u
    have Z:Q.toks.length≤e.toks.length:=by cases b with
     |true=>have:=G rfl;omega
     |false=>rw[H rfl];exact aF _
    obtain⟨t3,r3,K,l4⟩:=oK (j Q b [] [] .ai (fun b τ m=>by simp)) 1 [74,79,73,78];rw[set_set f]at K;unfold Le at l4;obtain⟨t,a,r4,L,l5⟩:=FJ (j r3 b [] [] .ai (fun b τ m=>by simp));rw[set_set f]at L;unfold Le at l5;obtain⟨t5,r5,M,l6⟩:=oK (j r4 b t a .ai (fun b τ m=>by simp)) 1 [79,78];rw[set_set f]at M;unfold Le at l6;obtain⟨z,R,N,l7,J⟩:=Ai (j r5 b t a .ai (fun b τ m=>by simp)) (by omega);rw[set_set f]at N;unfold Le at l7;obtain⟨g,i,h,c,d,S,e2,T⟩:=Y R (xs++[⟨b,t,a,z,J⟩]) (ep+1) (by simp;omega) (by omega);refine⟨g,i,h,c,d,?_,by unfold Le at *;omega,T⟩;rw[←S,aZ];have s:List.take xs.length (xs.map o7.a)=xs.map o7.a:=ay (by simp);have C:xs.length+1≤bD:=by unfold bD;omega
    have D:(xs++[(⟨b,t,a,z,J⟩:o7)]).map o7.a=xs.map o7.a++[aH [aC b,aO t,aO a,gN z]]:=by simp[o7.a]
    have U:=(n R (ep+1) (xs++[⟨b,t,a,z,J⟩])).firm;have q:=fun env o=>EV (base:=σ.length+1) (clr:=[3,4,5]) (env:=env) (o:=o) (t:=[]) (by simp) U (by simp);rw[D]at q ⊢;simp only[dy,bY,bX]at q;have B:∀y:aq,(if id<σ.length+1 then aq.ptr id 0 0 0 else y)=aq.ptr id 0 0 0:=fun y=>if_pos (by have:=f.lt;omega);simp[Ak,x,eF,k,p,u,K,L,M,N,append,s,C,q,cq,dF,B]
 obtain⟨g,i,h,c,d,u,G,H⟩:=key 2 r [] 0 rfl A;rw[f.same]at u;refine⟨g,i,?_,G,H⟩;rw[cZ akc rfl];have V:=fun o t v=>dM f i o t v;have s:List.take g.length (g.map o7.a)=g.map o7.a:=ay (by simp);have E:∀b σ,(g.map o7.a).map (fz false false b σ 19)=g.map o7.a:=fun b σ=>by
  rw[bU];exact aU fun y _=>Fx.fx false false b σ 16 y
 have F:∀b σ (a:o7),fz false false b σ 19 a.a=a.a:=fun b σ a=>Fx.fx false false b σ 16 a;simp only[bm,bE]at u;simp[auw,afl,u,V,cq,dF,s,E,F]
def sv(o:Option (List aq)):aq:=match o with
 |none=>.ai
 |some l=>.aa false l
theorem KT(o:Option (List aq))(b:Nat)(τ:aw)(m:Nat):fz false true b τ (m+3) (sv o)=sv o:=by cases o<;>simp[sv]
theorem vj(o:Option (List aq)):aM (sv o)=1∧isAgg (sv o)=false:=by cases o<;>exact⟨rfl,rfl⟩
theorem Sp(o:Option (List aq))(b:Nat)(τ:aw)(m:Nat):fz false false b τ (m+3) (sv o)=.aa false (o.getD []):=by cases o<;>simp[sv]
theorem NA(l:List aq):aq.aa false l=sv (some l):=rfl
abbrev rp(d s:Bool)(i:Option (List aq))(t a:List UInt8)(j w h g:Option (List aq)):aq:=aH [aC d,aC s,sv i,aO t,aO a,sv j,sv w,sv h,sv g]
abbrev R1:aq:=aH [aC false,aC false,.ai,aO [],aO [],.ai,.ai,.ai,.ai]
abbrev qZ(σ:aw)(id:Nat)(x3 x4 x5 x6:aq):List aq:=[aI id 0 0 0,aI σ.length 0 0 0,aI (σ.length+1) 0 0 0,x3,x4,x5,x6]
abbrev Ld(v:aq):aw:=[aB 9 0 [R1],aB 9 0 [v]]
theorem ah3(d s:Bool)(i:Option (List aq))(t a:List UInt8)(j w h g:Option (List aq))(b:Nat)(τ:aw):(Ld (rp d s i t a j w h g)).map (bA b τ)=Ld (rp d s i t a j w h g):=by
 simp[bA,cq,dF,KT]
theorem yb{σ:aw}{id:Nat}{e:fY}(c:At σ id e)(r:fY)(d s:Bool)(i:Option (List aq))(t a:List UInt8)(j w h g:Option (List aq)):At (σ.set id (gz r)++Ld (rp d s i t a j w h g)) id r:=(c.set r).app _ (fun τ b _=>ah3 d s i t a j w h g b τ)
theorem adF{σ:aw}{id:Nat}{o:fY}(c:At σ id o)(r:fY)(d s:Bool)(i:Option (List aq))(t a:List UInt8)(j w h g:Option (List aq))(f k l m:aq):∃e,run code jQ ⟨qZ σ id f k l m,σ.set id (gz r)++Ld (rp d s i t a j w h g)⟩=some (.nrm,⟨qZ σ id f k l m,σ.set id (gz e)++Ld (rp d s i t a j w h g)⟩)∧Le e r:=by
 obtain⟨q,p,b,n⟩:=oK (yb c r d s i t a j w h g) 1 [70,82,79,77];rw[set_set c]at b;exact⟨p,by simp[jQ,b],n⟩
theorem ac8{σ:aw}{id:Nat}{q:fY}(c:At σ id q)(r:fY)(d s:Bool)(i:Option (List aq))(t a:List UInt8)(j w h g:Option (List aq))(f k l m:aq):∃v n e,run code jV ⟨qZ σ id f k l m,σ.set id (gz r)++Ld (rp d s i t a j w h g)⟩=some (.nrm,⟨qZ σ id f k l m,σ.set id (gz e)++Ld (rp d s i v n j w h g)⟩)∧Le e r:=by
 obtain⟨x,o,u,b,p⟩:=FJ (yb c r d s i t a j w h g);rw[set_set c]at b;exact⟨x,o,u,by simp[jV,b],p⟩
theorem abE{σ:aw}{id:Nat}{u:fY}(e:At σ id u)(r:fY)(o:r.toks.length≤600)(d s:Bool)(i:Option (List aq))(t a:List UInt8)(j w h g:Option (List aq))(k l m n:aq):∃(b:List o7) (f:fY),run code ka ⟨qZ σ id k l m n,σ.set id (gz r)++Ld (rp d s i t a j w h g)⟩=some (.nrm,⟨qZ σ id k l m n,σ.set id (gz f)++Ld (rp d s i t a (some (b.map o7.a)) w h g)⟩)∧Le f r∧b.length≤2:=by
 obtain⟨b,v,c,p,q⟩:=Qv (yb e r d s i t a j w h g) o;rw[set_set e]at c;refine⟨b,v,?_,p,q⟩;have x:=vj j;simp[ka,c,←NA]
theorem Z6{σ:aw}{id:Nat}{y:fY}(c:At σ id y)(r:fY)(B:r.toks.length≤600)(d s:Bool)(i:Option (List aq))(t a:List UInt8)(j h g:Option (List aq))(n A p q:aq):∃(b:Bool) (o:Option (List eO)) (m:fY),run code gX ⟨qZ σ id n A p q,σ.set id (gz r)++Ld (rp d s i t a j none h g)⟩=some (.nrm,⟨qZ σ id n (aC b) p q,σ.set id (gz m)++Ld (rp d s i t a j (o.map (·.map eO.a)) h g)⟩)∧Le m r∧(o.getD []).length≤1300:=by
 obtain⟨b,f,e,l,u⟩:=jy (yb c r d s i t a j none h g) 1 [87,72,69,82,69];rw[set_set c]at e;cases b with
 |false=>
  obtain rfl:=u rfl;exact⟨false,none,f,by simp[gX,e],Le.rfl' f,by simp⟩
 |true=>
  have l:=l rfl;obtain⟨x,z,k,v,w⟩:=Ai (yb c f d s i t a j none h g) (by omega);rw[set_set c]at k;unfold Le at v;refine⟨true,some x,z,?_,by unfold Le;omega,w⟩;simp[gX,e,k,sv]
theorem aay{σ:aw}{id:Nat}{A:fY}(c:At σ id A)(r:fY)(E:r.toks.length≤600)(d s:Bool)(i:Option (List aq))(t a:List UInt8)(j w h:Option (List aq))(p q D u:aq):∃(b:Bool) (o:Option (List uV)) (m:fY),run code hY ⟨qZ σ id p q D u,σ.set id (gz r)++Ld (rp d s i t a j w h none)⟩=some (.nrm,⟨qZ σ id p q (aC b) u,σ.set id (gz m)++Ld (rp d s i t a j w h (o.map (·.map uV.a)))⟩)∧Le m r∧(o.getD []).length≤3:=by
 obtain⟨b,g,e,l,v⟩:=jy (yb c r d s i t a j w h none) 1 [71,82,79,85,80];rw[set_set c]at e;cases b with
 |false=>
  obtain rfl:=v rfl;exact⟨false,none,g,by simp[hY,e],Le.rfl' g,by simp⟩
 |true=>
  have l:=l rfl;obtain⟨F,B,k,x⟩:=oK (yb c g d s i t a j w h none) 1 [66,89];rw[set_set c]at k;unfold Le at x;obtain⟨z,C,f,y,n3,_⟩:=JH (enc:=uV.a) (fun n=>⟨_,rfl,rfl⟩) I.qfi R2 3 (by omega) (by omega) (yb c B d s i t a j w h none) (by omega);rw[set_set c]at f;unfold Le at y;refine⟨true,some z,C,?_,by unfold Le;omega,n3⟩;rw[show ((3:Nat):Int)=3 from rfl]at f;simp[hY,e,k,f,sv]
theorem WL{σ:aw}{id:Nat}{y:fY}(c:At σ id y)(r:fY)(B:r.toks.length≤600)(d s:Bool)(i:Option (List aq))(t a:List UInt8)(j w g:Option (List aq))(m n p A:aq):∃(b:Bool) (o:Option (List eO)) (l:fY),run code g7 ⟨qZ σ id m n p A,σ.set id (gz r)++Ld (rp d s i t a j w none g)⟩=some (.nrm,⟨qZ σ id m n p (aC b),σ.set id (gz l)++Ld (rp d s i t a j w (o.map (·.map eO.a)) g)⟩)∧Le l r∧(o.getD []).length≤1300:=by
 obtain⟨b,f,e,k,q⟩:=jy (yb c r d s i t a j w none g) 1 [72,65,86,73,78,71];rw[set_set c]at e;cases b with
 |false=>
  obtain rfl:=q rfl;exact⟨false,none,f,by simp[g7,e],Le.rfl' f,by simp⟩
 |true=>
  have k:=k rfl;obtain⟨x,z,h,u,v⟩:=Ai (yb c f d s i t a j w none g) (by omega);rw[set_set c]at h;unfold Le at u;refine⟨true,some x,z,?_,by unfold Le;omega,v⟩;simp[g7,e,h,sv]
theorem Yi{σ:aw}{id:Nat}{z:fY}(c:At σ id z)(r:fY)(u:r.toks.length≤600)(d s:Bool)(t a:List UInt8)(j w h g:Option (List aq))(B m p q:aq):∃(b st:Bool) (o:Option (List pU)) (k:fY),run code gR ⟨qZ σ id B m p q,σ.set id (gz r)++Ld (rp d s none t a j w h g)⟩=some (.nrm,⟨qZ σ id (aC b) m p q,σ.set id (gz k)++Ld (rp d st (o.map (·.map pU.a)) t a j w h g)⟩)∧Le k r∧(o.getD []).length≤6:=by
 obtain⟨b,l,e,i,v⟩:=jy (yb c r d s none t a j w h g) 5 [42];rw[set_set c]at e;cases b with
 |true=>
  have i:=i rfl;exact⟨false,true,none,l,by simp[gR,e],by unfold Le;omega,by simp⟩
 |false=>
  obtain rfl:=v rfl;obtain⟨y,A,f,x,n3,_⟩:=JB (enc:=pU.a) (fun n=>⟨_,rfl,rfl⟩) I.qfe RK 6 (by omega) (by omega) (yb c l d false none t a j w h g) u;rw[set_set c]at f;refine⟨true,false,some y,A,?_,x,n3⟩;rw[show ((6:Nat):Int)=6 from rfl]at f;simp[gR,e,f,←NA]
structure mL where
 distinct:Bool
 star:Bool
 items:Option (List pU)
 table:List UInt8
 as':List UInt8
 joins:List o7
 whr:Option (List eO)
 having:Option (List eO)
 group:Option (List uV)
 hi:(items.getD []).length≤6
 hj:joins.length≤2
 hw:(whr.getD []).length≤1300
 hh:(having.getD []).length≤1300
 hg:(group.getD []).length≤3
def mL.r(x:mL):aq:=rp x.distinct x.star (x.items.map (·.map pU.a)) x.table x.as' (some (x.joins.map o7.a)) (x.whr.map (·.map eO.a)) (x.having.map (·.map eO.a)) (x.group.map (·.map uV.a))
def mL.a(x:mL):aq:=aH [aC x.distinct,aC x.star,.aa false ((x.items.getD []).map pU.a),aO x.table,aO x.as',.aa false (x.joins.map o7.a),gN (x.whr.getD []),gN (x.having.getD []),.aa false ((x.group.getD []).map uV.a)]
instance:Nc mL.a 9 true:=⟨fun _=>rfl,fun _=>rfl⟩
instance:Fx mL.a:=⟨fun fl top base σ m x=>by simp[mL.a]⟩
theorem mL.r_top(x:mL)(b:Nat)(τ:aw)(m:Nat):fz false true b τ (m+4) x.r=x.r:=by simp[mL.r,KT]
theorem HX{a b:Type}(f:a→b)(o:Option (List a)):(o.map (·.map f)).getD []=(o.getD []).map f:=by cases o<;>rfl
theorem mL.r_fz(x:mL)(b:Nat)(τ:aw)(m:Nat):fz false false b τ (m+4) x.r=x.a:=by simp[mL.r,mL.a,Sp,HX]
theorem CR{σ:aw}{id:Nat}{r:fY}(e:At σ id r)(h6:r.toks.length≤600):∃(s:mL) (M:fY),cD code I.qfr [aI id 0 0 0] σ=some (s.r,σ.set id (gz M))∧Le M r:=by
 have y:At (σ++[aB 9 0 [R1]]) id r:=e.app _ (fun τ b _=>by simp[bA,cq,dF]);obtain⟨t1,l,F,l1⟩:=oK y 1 [83,69,76,69,67,84];rw[s9 e]at F;have z:At (σ.set id (gz l)++[aB 9 0 [R1]]) id l:=(e.set l).app _ (fun τ b _=>by simp[bA,cq,dF]);obtain⟨d,E,G,Z,D⟩:=jy z 1 [68,73,83,84,73,78,67,84];rw[set_set e]at G;unfold Le at *
 have ab:E.toks.length≤l.toks.length:=by cases d with
  |true=>have:=Z rfl;omega
  |false=>rw[D rfl];exact aF _
 obtain⟨j,st,a,r3,O,l3,n3⟩:=Yi e E (by omega) d false [] [] none none none none am am am am;unfold Le at *;obtain⟨r4,P,l4⟩:=adF e r3 d st (a.map (·.map pU.a)) [] [] none none none none (aC j) am am am;unfold Le at *;obtain⟨g,c,r5,Q,l5⟩:=ac8 e r4 d st (a.map (·.map pU.a)) [] [] none none none none (aC j) am am am;unfold Le at *;obtain⟨f,r6,x,l6,H⟩:=abE e r5 (by omega) d st (a.map (·.map pU.a)) g c none none none none (aC j) am am am;unfold Le at *;obtain⟨m,h,r7,R,l7,J⟩:=Z6 e r6 (by omega) d st (a.map (·.map pU.a)) g c (some (f.map o7.a)) none none (aC j) am am am;unfold Le at *;obtain⟨u,i,r8,S,l8,K⟩:=aay e r7 (by omega) d st (a.map (·.map pU.a)) g c (some (f.map o7.a)) (h.map (·.map eO.a)) none (aC j) (aC m) am am;unfold Le at *;obtain⟨w,k,q,T,l9,L⟩:=WL e r8 (by omega) d st (a.map (·.map pU.a)) g c (some (f.map o7.a)) (h.map (·.map eO.a)) (i.map (·.map uV.a)) (aC j) (aC m) (aC u) am;unfold Le at *;refine⟨⟨d,st,a,g,c,f,h,k,i,n3,H,J,L,K⟩,q,?_,by omega⟩;have V:=fun o t v=>dM e q o t v;rw[cZ amG rfl];have A:run code jZ ⟨[aI id 0 0 0,am,am,am,am,am,am],σ⟩=some (.nrm,⟨[aI id 0 0 0,aI σ.length 0 0 0,am,am,am,am,am],σ++[aB 9 0 [R1]]⟩):=by
  simp[jZ]
 have B:run code jW ⟨[aI id 0 0 0,aI σ.length 0 0 0,am,am,am,am,am],σ++[aB 9 0 [R1]]⟩=some (.nrm,⟨[aI id 0 0 0,aI σ.length 0 0 0,am,am,am,am,am],σ.set id (gz l)++[aB 9 0 [R1]]⟩):=by
  simp[jW,F]
 have C:run code jM ⟨[aI id 0 0 0,aI σ.length 0 0 0,am,am,am,am,am],σ.set id (gz l)++[aB 9 0 [R1]]⟩=some (.nrm,⟨qZ σ id am am am am,σ.set id (gz E)++Ld (rp d false none [] [] none none none none)⟩):=by
  simp[jM,G,sv]
 have p:run code (.seq jA jz) ⟨qZ σ id (aC j) (aC m) (aC u) (aC w),σ.set id (gz q)++Ld (rp d st (a.map (·.map pU.a)) g c (some (f.map o7.a)) (h.map (·.map eO.a)) (k.map (·.map eO.a)) (i.map (·.map uV.a)))⟩ =
   some (.ret,⟨qZ σ id (aC j) (aC m) (aC u) (aC w),σ.set id (gz q)++[aB 9 0 [rp d st (a.map (·.map pU.a)) g c (some (f.map o7.a)) (h.map (·.map eO.a)) (k.map (·.map eO.a)) (i.map (·.map uV.a))],aB 9 0 [rp d st (a.map (·.map pU.a)) g c (some (f.map o7.a)) (h.map (·.map eO.a)) (k.map (·.map eO.a)) (i.map (·.map uV.a))]]⟩):=by
  simp[jA,jz]
 have X:(mL.mk d st a g c f h k i n3 H J L K).r=rp d st (a.map (·.map pU.a)) g c (some (f.map o7.a)) (h.map (·.map eO.a)) (k.map (·.map eO.a)) (i.map (·.map uV.a)):=rfl;rw[X];have N:Tv=.seq jZ (.seq jW (.seq jM (.seq gR (.seq jQ (.seq jV (.seq ka (.seq gX (.seq hY (.seq g7 (.seq jA jz)))))))))):=rfl;have n:run code Tv ⟨[aI id 0 0 0,am,am,am,am,am,am],σ⟩=some (.ret,⟨qZ σ id (aC j) (aC m) (aC u) (aC w),σ.set id (gz q)++[aB 9 0 [rp d st (a.map (·.map pU.a)) g c (some (f.map o7.a)) (h.map (·.map eO.a)) (k.map (·.map eO.a)) (i.map (·.map uV.a))],aB 9 0 [rp d st (a.map (·.map pU.a)) g c (some (f.map o7.a)) (h.map (·.map eO.a)) (k.map (·.map eO.a)) (i.map (·.map uV.a))]]⟩):=by
  rw[N,fy,A,bW,fy,B,bW,fy,C,bW,fy,O,bW,fy,P,bW,fy,Q,bW,fy,x,bW,fy,R,bW,fy,S,bW,fy,T,bW,p]
 have U:ar2.body=Tv:=rfl;have W:[aq.ptr id 0 0 0].take ar2.np++List.replicate (ar2.nenv-ar2.np) aq.any=[aI id 0 0 0,am,am,am,am,am,am]:=rfl;rw[U,W,n];generalize a.map (·.map pU.a)=Y at *;generalize h.map (·.map eO.a)=w' at *;generalize k.map (·.map eO.a)=v' at *;generalize i.map (·.map uV.a)=g' at *;generalize f.map o7.a=j' at *;simp[ar2,V,cq,dF,KT]
abbrev ajt:aq:=aH [aO [],ap 0,aC false]
abbrev kyX(n:List UInt8)(k:Int)(d:Bool):aw:=[aB 3 0 [ajt],aB 3 0 [aH [aO n,ap k,aC d]]]
theorem aav{σ:aw}{id:Nat}{c:fY}(a:At σ id c)(r:fY)(n:List UInt8)(k:Int)(d:Bool):At (σ.set id (gz r)++kyX n k d) id r:=(a.set r).app _ (fun τ b _=>by simp[bA,cq,dF])
theorem akV:T0=.seq (.reg [i (.box 3 (v (aH [aO [],ap 0,aC false])))] [(1,l 0)])
 (.seq (.reg [i (.box 3 (v (aH [aO [],ap 0,aC false])))] [(2,l 0)]) (.seq An Av)):=rfl
abbrev SX(σ:aw)(id:Nat)(x3 x4:aq):List aq:=[aI id 0 0 0,aI σ.length 0 0 0,aI (σ.length+1) 0 0 0,x3,x4]
theorem al1{σ:aw}{id:Nat}{r:fY}(d:At σ id r):∃(n:List UInt8) (k:Int) (l:aq) (j:fY),run code An ⟨SX σ id am am,σ++kyX [] 0 false⟩=some (.nrm,⟨SX σ id l am,σ.set id (gz j)++kyX n k false⟩)∧Le j r:=by
 have a:=aav d r [] 0 false;have f:=d.same;rw[f]at a;have e:=PK r 3;have i:=MZ d;cases b:uY r 3 [] with
 |true=>
  rw[b]at e;obtain⟨n,h,c,g⟩:=FM a;rw[s9 d]at c;exact⟨[],n,aC true,h,by simp[An,i,eF,e,c],g⟩
 |false=>
  rw[b]at e;obtain⟨t,h,c,g⟩:=DP a 2;rw[s9 d]at c;exact⟨t.t,0,aC false,h,by simp[An,i,eF,e,c],g⟩
theorem WF:Kh BZ.a (fun _=>True) I.qfg:=by
 intro σ id r a F;obtain⟨n,k,E,h,y,z⟩:=al1 a;obtain⟨d,b,c,A,f⟩:=jy (aav a h n k false) 1 [68,69,83,67];rw[set_set a]at c;unfold Le at z
 have B:b.toks.length≤h.toks.length:=by cases d with
  |true=>have:=A rfl;omega
  |false=>rw[f rfl];exact aF _
 have q:run code T0 ⟨[aI id 0 0 0,am,am,am,am],σ⟩=run code Av ⟨SX σ id E am,σ.set id (gz h)++kyX n k false⟩:=by
  rw[akV,fy];have u:run code (.reg [i (.box 3 (v (aH [aO [],ap 0,aC false])))] [(1,l 0)]) ⟨[aI id 0 0 0,am,am,am,am],σ⟩=some (.nrm,⟨[aI id 0 0 0,aI σ.length 0 0 0,am,am,am],σ++[aB 3 0 [ajt]]⟩):=by simp
  have w:run code (.reg [i (.box 3 (v (aH [aO [],ap 0,aC false])))] [(2,l 0)]) ⟨[aI id 0 0 0,aI σ.length 0 0 0,am,am,am],σ++[aB 3 0 [ajt]]⟩=some (.nrm,⟨SX σ id am am,σ++kyX [] 0 false⟩):=by simp
  rw[u,bW,fy,w,bW,fy,y,bW]
 have p:arU.body=T0:=rfl;have s:[aq.ptr id 0 0 0].take arU.np++List.replicate (arU.nenv-arU.np) aq.any=[aI id 0 0 0,am,am,am,am]:=rfl;cases d with
 |true=>
  refine⟨⟨n,k,true⟩,b,?_,by unfold Le;omega,trivial⟩;have e:=fun o t v=>dM a b o t v;rw[cZ afg rfl,p,s,q];simp[arU,Av,c,e,cq,dF,BZ.a]
 |false=>
  obtain⟨x,j,m,C,g⟩:=jy (aav a b n k false) 1 [65,83,67];rw[set_set a]at m
  have D:j.toks.length≤b.toks.length:=by cases x with
   |true=>have:=C rfl;omega
   |false=>rw[g rfl];exact aF _
  refine⟨⟨n,k,false⟩,j,?_,by unfold Le;omega,trivial⟩;have e:=fun o t v=>dM a j o t v;rw[cZ afg rfl,p,s,q];simp[arU,Av,c,m,e,cq,dF,BZ.a]
end Go.AM
