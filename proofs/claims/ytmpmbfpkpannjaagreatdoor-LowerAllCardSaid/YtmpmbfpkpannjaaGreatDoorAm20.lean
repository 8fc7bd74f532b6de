/- Part of the proof. -/
import Derived.Test.YtmpmbfpkpannjaaGreatDoorAm19
set_option linter.unusedVariables false
set_option linter.unusedSimpArgs false
set_option linter.unusedSectionVars false
namespace Go.AM
open P
set_option maxHeartbeats 64000000
set_option maxRecDepth 40000
attribute [local simp] aG bd
theorem uJ{r:gf}{a:Int}{b:List (List UInt8)}(h:uU r a b=true):∃t l,r.toks=t::l:=by
 unfold uU at h;cases hr:r.toks with
 |nil=>rw[hr]at h;cases h
 |cons t l=>exact⟨t,l,rfl⟩
def ade(r:gf)(kind:Int)(s:List UInt8):gf:=if uU r kind [s] then r.nx else r
theorem On{σ:aw}{id:Nat}{r:gf}(h:At σ id r)(a:Int)(s:List UInt8):cC code I.qfv [aH id 0 0 0,ap a,aO s] σ=some (aC (uU r a [s]),σ.set id (gC (ade r a s))):=by
 have b:=Jw r a s;have g:=h.same;have e:=h.get;rw[cX amY rfl];unfold ade;cases hb:uU r a [s] with
 |false=>
  rw[hb]at b;simp[atf,XE,e,eD,b,fD,g]
 |true=>
  rw[hb]at b;obtain⟨t,l,f⟩:=uJ hb;have d:=wD h t l f;have c:t.a=rE t.k t.at' t.t t.n:=rfl;rw[c]at d;simp[atf,XE,e,eD,b,d,fD]
def acE:vd:=⟨0,0,[],0,by simp⟩
def U9(r:gf)(b:Bool):vd:=if b then r.toks.headD acE else acE
def KH(r:gf)(b:Bool):gf:=if b then r.nx else oz r 190 (g7 r)
theorem OV{σ:aw}{id:Nat}{r:gf}(h:At σ id r)(a:Int)(p c:aq)(b:Bool)(m:∀σ,fz true false 0 σ 20 p=c)
  (n:bB I.qfd [.cptr true r.v 0,ap a,c]=some (aC b)) (x:b=true→∃t l,r.toks=t::l) :
  cC code I.qfh [aH id 0 0 0,ap a,p] σ=some ((U9 r b).a,σ.set id (gC (KH r b))):=by
 have q:At (σ++[aB 4 0 [rE 0 0 [] 0]]) id r:=h.app _ (fun τ b _=>by simp[bw,cn,dE]);have d:=Mf h;have e:=tu h;rw[cX aly rfl];unfold U9 KH;cases b with
 |false=>
  have w:=tq r;have u:=oJ q 190 (g7 r);have i:=fun o t v=>dM h (oz r 190 (g7 r)) o t v;rw[e]at u;have k:acE.a=rE 0 0 [] 0:=rfl;simp only[bq,cI,k];simp[as9,ZU,d,eD,m,n,w,u,i,cn,dE]
 |true=>
  obtain⟨t,l,s⟩:=x rfl;have f:=wD q t l s;have i:=fun o t v=>dM h r.nx o t v;rw[e]at f;have g:(r.toks.headD acE).a=rE t.k t.at' t.t t.n:=by rw[s];rfl
  have j:t.a=rE t.k t.at' t.t t.n:=rfl;rw[j]at f;simp only[cw,g];simp[as9,ZU,d,eD,m,n,f,i,cn,dE]
theorem V6{σ:aw}{id:Nat}{r:gf}(h:At σ id r)(a:Int):cC code I.qfh [aH id 0 0 0,ap a,.ai] σ=some ((U9 r (uU r a [])).a,σ.set id (gC (KH r (uU r a [])))):=
 OV h a .ai (.aa false []) _ (fun σ=>by simp) (Ob r a) uJ
theorem P9{σ:aw}{id:Nat}{r:gf}(h:At σ id r)(a:Int)(s:List UInt8):cC code I.qfh [aH id 0 0 0,ap a,.lst [aO s]] σ=some ((U9 r (uU r a [s])).a,σ.set id (gC (KH r (uU r a [s])))):=
 OV h a _ (.aa true [aO s]) _ (fun σ=>by simp) (Jw r a s) uJ
structure eP where
 tag:Int
 l:Int
 r:Int
 v:wm
 table:List UInt8
 name:List UInt8
 h:v.s.length≤8000
abbrev Rv(tag l r:Int)(v:wm)(table name:List UInt8):aq:=aI [ap tag,ap l,ap r,ap v.k,ap v.n,.int .u64 v.u,aO v.s,aO table,aO name]
def eP.a(n:eP):aq:=Rv n.tag n.l n.r n.v n.table n.name
instance:Nc eP.a 9 true:=⟨fun _=>rfl,fun _=>rfl⟩
instance:Fx eP.a:=⟨fun fl top base σ m x=>by simp[eP.a]⟩
abbrev gQ(ns:List eP):aq:=.aa false (ns.map eP.a)
theorem SE(c l r:Int)(v:wm)(a b:List UInt8)(d:v.s.length≤8000):bB I.qeu [Rv c l r v a b]=some (gQ [⟨c,-1,-1,v,a,b,d⟩]):=by
 rw[aT aoi rfl];simp[atp,afM,eP.a]
theorem wJ(k n:Int)(s:List UInt8)(a:s.length≤8000):bB I.qey [ap k,ap n,aO s]=some (gQ [⟨1,-1,-1,⟨k,n,0,s⟩,[],[],a⟩]):=by
 rw[aT ajV rfl];have h:=SE 1 0 0 ⟨k,n,0,s⟩ [] [] a;simp only[Rv]at h;simp[atD,ahi,h]
def VS(by':Int)(n:eP):eP:=⟨n.tag,if 0≤n.l then IntKind.i64.wrap (n.l+by') else n.l,if 0≤n.r then IntKind.i64.wrap (n.r+by') else n.r,n.v,n.table,n.name,n.h⟩
def vZ:wm:=⟨0,0,0,[]⟩
abbrev N9(tag l r:Int):Obj:=aB 9 0 [Rv tag l r vZ [] []]
abbrev J6(tag:Int)(bp:Bool)(ps:aq)(np i:Nat)(p:List eP)(by':Nat)(k m:Nat)(c1 c2:aq):List aq:=
 [ap tag,ps,.ai,aH 0 0 0 0,.sl 1 m 0 m,ap i,gQ p,ap by',am,ps,ap np,ap i,c1,gQ p,ap p.length,ap k,c2,am,am,am]
theorem aan(d:Int)(e:aq)(o i:Nat)(p:List eP)(c:Nat)(l r:Int)(u:∀base σ m,fz false true base σ (m+3) e=e)(a:List eP)(F:a.length+p.length≤8000) :
  bU code 2 [8,16,17,18] Dd ⟨J6 d false e o i p c 0 a.length (aC true) am,[N9 d l r,aB 9 a.length (a.map eP.a)]⟩ =
   some (.ext 2,⟨J6 d false e o i p c p.length (a.length+p.length) (aC true) (aC false),[N9 d l r,aB 9 (a.length+p.length) ((a++p.map (VS c)).map eP.a)]⟩):=by
 have B:p.length≤bC:=by unfold bC;omega
 have key:=dl (base:=2) (clr:=[8,16,17,18]) (b:=Dd)
  (fun k=>⟨J6 d false e o i p c k (a.length+k) (aC true) am,[N9 d l r,aB 9 (a.length+k) ((a++(p.take k).map (VS c)).map eP.a)]⟩) p.length
  (.ext 2,⟨J6 d false e o i p c p.length (a.length+p.length) (aC true) (aC false),[N9 d l r,aB 9 (a.length+p.length) ((a++p.map (VS c)).map eP.a)]⟩)
  (fun k y=>by
   have A:p[k]?=some p[k]:=au y;have s:∀h:k<p.length,p[k]'h=p[k]'y:=fun _=>rfl;have v:(k:Int)<(p.length:Int):=by omega
   have C:=cW y B
   have w:a++(p.take (k+1)).map (VS c)=(a++(p.take k).map (VS c))++[VS c p[k]]:=by
    rw[eH,A,Option.toList_some,df,dG];rfl
   have g:(a++(p.take k).map (VS c)).length=a.length+k:=by simp;omega
   rw[w];generalize a++(p.take k).map (VS c)=j at *;generalize p[k]=n at *;have q:a.length+k+1≤bC:=by unfold bC;omega
   have t:List.take (a.length+k) (j.map eP.a)=j.map eP.a:=ay (by simp[g]);have z:n.a=Rv n.tag n.l n.r n.v n.table n.name:=rfl;have x:(VS c n).a=Rv n.tag (if 0≤n.l then IntKind.i64.wrap (n.l+c) else n.l) (if 0≤n.r then IntKind.i64.wrap (n.r+c) else n.r) n.v n.table n.name:=rfl;rw[df,aV,bm,x];have f:a.length+(k+1)=a.length+k+1:=by omega
   rw[f];simp only[J6];by_cases D:0≤n.l<;>by_cases E:0≤n.r <;>
    simp[Dd,v,A,s,z,D,E,append,q,t,g,C,bQ,bw,cn,dE,u])
  (by
   rw[de];simp[Dd])
 simpa using key
theorem NE:vZ.s.length≤8000:=by decide
abbrev JO(tag:Int)(ps:aq)(np i m:Nat)(c:aq):List aq:=
 [ap tag,ps,.ai,aH 0 0 0 0,.sl 1 m 0 m,am,am,am,am,ps,ap np,ap i,c,am,am,am,am,am,am,am]
noncomputable abbrev goJ(tag:Int)(ps:aq)(np i:Nat)(out:List eP)(l r:Int):Option (Ex×St):=
 bU code 2 [5,6,7,8,12,13,14,15,16,17,18,19] CN ⟨JO tag ps np i out.length am,[N9 tag l r,aB 9 out.length (out.map eP.a)]⟩
theorem DX(d:Int)(g:Bool)(xs:List (List eP))(i:Nat)(p:List eP)(hi:xs[i]?=some p)(z:xs.length≤2)(a:List eP)(x:a.length+p.length≤8000)(l r:Int) :
  goJ d (.aa g (xs.map gQ)) xs.length i a l r=goJ d (.aa g (xs.map gQ)) xs.length (i+1) (a++p.map (VS a.length)) (if i=0 then ((a.length+p.length:Nat):Int)-1 else l) (if i=0 then r else ((a.length+p.length:Nat):Int)-1):=by
 have j:=(ak.1 hi).1;have n:∀base σ m,fz false true base σ (m+3) (.aa g (xs.map gQ))=.aa g (xs.map gQ):=fun base σ m=>by simp
 have c:=aan d (.aa g (xs.map gQ)) xs.length i p a.length l r n a x;have f:(i:Int)<(xs.length:Int):=by omega
 have e:∀h:i<xs.length,xs[i]'h=p:=fun _=>(ak.1 hi).2;have u:IntKind.i64.wrap ((i:Int)+1)=(i:Int)+1:=rJ (by omega) (by omega);have o:IntKind.i64.wrap (((a.length:Int)+(p.length:Int))-1)=((a.length:Int)+(p.length:Int))-1:=rJ (by omega) (by omega);have b:(a++p.map (VS a.length)).length=a.length+p.length:=by simp
 have s:((a.length+p.length:Nat):Int)=(a.length:Int)+(p.length:Int):=by omega
 unfold goJ;rw[aZ,b,s];generalize a++p.map (VS a.length)=w at *;generalize a.map eP.a=y at *;simp only[J6,bj]at c;by_cases q:i=0
 ·subst q;have t:((0:Nat):Int)=0:=rfl;simp only[t]at *;have v:IntKind.i64.wrap 1=1:=rfl;simp only[N9,Rv]at c ⊢;simp[v,CN,JO,j,hi,f,e,c,o,b,cN]
 have k:¬(i:Int)=0:=by omega
 simp[CN,JO,j,hi,f,e,c,u,o,q,k,b,cN]
theorem acA(b:Int)(d:aq)(c:Nat)(a:List eP)(l r:Int) :
  goJ b d c c a l r=some (.ext 0,⟨JO b d c c a.length (aC false),[N9 b l r,aB 9 a.length (a.map eP.a)]⟩):=by
 unfold goJ;rw[aZ];simp[CN,JO]
theorem UO(c:Int)(g:Bool)(xs:List (List eP))(b:List eP)(t:b.length≤8000)(l r:Int)
  (h:goJ c (.aa g (xs.map gQ)) xs.length 0 [] (-1) (-1)=goJ c (.aa g (xs.map gQ)) xs.length xs.length b l r) :
  bB I.qet [ap c,.aa g (xs.map gQ)]=some (gQ (b++[⟨c,l,r,vZ,[],[],NE⟩])):=by
 rw[acA]at h;rw[aT amO rfl];have k:List.take b.length (b.map eP.a)=b.map eP.a:=ay (by simp);have o:b.length+1≤bC:=by unfold bC;omega
 have p:(eP.a ⟨c,l,r,vZ,[],[],NE⟩)=aI [ap c,ap l,ap r,ap 0,ap 0,.int .u64 0,aO [],aO [],aO []]:=rfl;have n:(b++([⟨c,l,r,vZ,[],[],NE⟩]:List eP)).map eP.a=b.map eP.a++[aI [ap c,ap l,ap r,ap 0,ap 0,.int .u64 0,aO [],aO [],aO []]]:=by rw[df];rfl
 have d:∀a∈(b++([⟨c,l,r,vZ,[],[],NE⟩]:List eP)).map eP.a,∀σ,fz false false 0 σ 19 a=a:=by
  intro a m;obtain⟨y,_,rfl⟩:=bK.1 m;exact fun σ=>Fx.fx false false 0 σ 16 y
 rw[n]at d;unfold gQ at *;rw[n];simp only[goJ,JO,N9,Rv,vZ,bm,bD,bj]at h;have i:∀σ,(b.map eP.a).map (fz false false 0 σ 19)=b.map eP.a:=fun σ=>by
  rw[bY];exact aW fun y _=>Fx.fx false false 0 σ 16 y
 have e:(b.map eP.a).length=b.length:=by simp
 have f:(xs.map (fun j=>aq.aa false (j.map eP.a))).length=xs.length:=by simp
 generalize b.map eP.a=s at *;generalize xs.map (fun j=>aq.aa false (j.map eP.a))=q at *;simp[atN,ae7,f,e,h,append,k,o,i];rw[ay (by simp[e]),if_pos];intro a m;rw[d a m]
theorem zx(a:Int)(c:Bool)(p:List eP)(d:p.length≤4000):∃b:List eP,bB I.qet [ap a,.aa c [gQ p]]=some (gQ b)∧b.length=p.length+1:=by
 have h:=DX a c [p] 0 p rfl (by simp) [] (by simp;omega) (-1) (-1);exact⟨_,UO a c [p] _ (by simp;omega) _ _ h,by simp⟩
theorem abG(a:Int)(c:Bool)(p q:List eP)(e:p.length≤4000)(f:q.length≤4000):∃b:List eP,bB I.qet [ap a,.aa c [gQ p,gQ q]]=some (gQ b)∧b.length=p.length+q.length+1:=by
 have h:=DX a c [p,q] 0 p rfl (by simp) [] (by simp;omega) (-1) (-1);have d:=DX a c [p,q] 1 q rfl (by simp) ([]++p.map (VS 0)) (by simp;omega) (((0+p.length:Nat):Int)-1) (-1);exact⟨_,UO a c [p,q] _ (by simp;omega) _ _ (h.trans d),by simp;omega⟩
def jt(l:List (List UInt8×Int)):List (aq×aq):=l.map fun p=>(aO p.1,ap p.2)
theorem EF(t:List UInt8):∀l:List (List UInt8×Int),dy [] (aO t) (jt l)=some none∨∃n,dy [] (aO t) (jt l)=some (some (ap n)):=by
 intro l;induction l with
 |nil=>exact .inl rfl
 |cons p l c=>
  have a:jt (p::l)=(aO p.1,ap p.2)::jt l:=rfl;rw[a];have b:oZ [] (aO t) (aO p.1)=some (t==p.1):=rfl;unfold dy;simp only[b];cases ht:(t==p.1) with
  |true=>exact .inr ⟨p.2,rfl⟩
  |false=>exact c
theorem MX(l:List (List UInt8×Int))(b:Nat)(τ:aw):bw b τ (.map (jt l))=.map (jt l):=by
 have:(jt l).map (fun e=>(e.1,cn b τ e.2))=jt l:=by
  unfold jt;rw[bY];exact aW fun y _=>by simp[cn,dE]
 simp only[bw,this]
def Le(r' r:gf):Prop:=r'.toks.length≤r.toks.length
theorem Le.rfl'(r:gf):Le r r:=aF _
theorem Le.trans{a b c:gf}(h:Le a b)(d:Le b c):Le a c:=bR h d
theorem MV{r:gf}{t:vd}{l:List vd}(h:r.toks=t::l):r.nx.toks.length+1=r.toks.length:=by simp[gf.nx,h]
def jj(f N:Nat):Prop:=∀σ id r,At σ id r→r.toks.length≤N→r.toks.length≤600 →
 ∃ns r',cC code f [aH id 0 0 0] σ=some (gQ ns,σ.set id (gC r'))∧Le r' r∧ns.length+2*r'.toks.length≤2*r.toks.length+1
abbrev ahh(id id2:Nat)(kind:Int)(f:Nat)(ns:List eP):List aq:=[aH id 0 0 0,ap kind,.mp id2,.fn f [aH id 0 0 0] [],am,gQ ns,am,am,am,am]
theorem PX(f N:Nat)(K:jj f N)(a:Int)(id h:Nat)(A:h≠id)(H:List (List UInt8×Int))(L:Nat):∀m σ r (d:List eP),σ.length=L→At σ id r→σ[h]?=some (.map (jt H))→r.toks.length≤m→m≤N→r.toks.length≤600→d.length+2*r.toks.length≤1300 →
  ∃b j q,bU code L [4,6,7,8,9] zX ⟨ahh id h a f d,σ⟩=some (.ret,⟨q,σ.set id (gC j)⟩)∧q[4]?=some (gQ b)∧Le j r∧b.length+2*j.toks.length≤d.length+2*r.toks.length:=by
 intro m;induction m with
 |zero=>
  intro σ r d w e s Q _ _ _;have M:r.toks=[]:=cS.1 (by omega);have c:=Ob r a;have g:=e.get;have o:uU r a []=false:=by unfold uU;rw[M]
  rw[o]at c;refine⟨d,r,_,by rw[aZ,e.same];simp[zX,g,eD,c];rfl,rfl,Le.rfl' r,aF _⟩
 |succ m I=>
  intro σ r d w e s Q X T U;have c:=Ob r a;have g:=e.get;cases o:uU r a [] with
  |false=>
   rw[o]at c;refine⟨d,r,_,by rw[aZ,e.same];simp[zX,g,eD,c];rfl,rfl,Le.rfl' r,aF _⟩
  |true=>
   rw[o]at c;obtain⟨t,l,z⟩:=uJ o;have i:=wD e t l z;have E:=MV z;have O:r.v=aI [.aa false (t.a::l.map vd.a),ap r.en,ap r.at',ap r.er]:=by rw[gf.v_is,z];rfl
   have k:t.a=rE t.k t.at' t.t t.n:=rfl;rw[k]at i;simp only[gC]at g;rw[O,k]at g c;rcases EF t.t H with C|⟨n,C⟩
   ·refine⟨d,r,_,by rw[aZ,e.same];simp[zX,c,g,s,C];rfl,rfl,Le.rfl' r,aF _⟩
   have v:=e.set r.nx;obtain⟨u,p,F,B,R⟩:=K _ id r.nx v (by omega) (by omega);rw[ew]at F;obtain⟨D,J,P⟩:=abG n true d u (by omega) (by omega);have x:=e.set p;unfold Le at B;obtain⟨b,j,q,G,S,V,W⟩:=I (σ.set id (gC p)) p D (by simpa using w) x (by rw[aD (Ne.symm A)];exact s) (by omega) (by omega) (by omega) (by omega);rw[ew]at G;refine⟨b,j,q,?_,S,by unfold Le at *;omega,by omega⟩;rw[←G,aZ];have y:=fun env=>cN (base:=L) (clr:=[4,6,7,8,9]) (env:=env) (σ:=σ.set id (gC p)) (by simpa using w);simp[zX,c,g,s,C,i,F,J,y]
theorem QG(f N:Nat)(n:jj f N)(b:Int){σ:aw}{id:Nat}{r:gf}(m:At σ id r)(a:Nat)(c:a≠id)(o:List (List UInt8×Int))(u:σ[a]?=some (.map (jt o)))(s:r.toks.length≤N)(p:r.toks.length≤600) :
  ∃l d,cC code I.qfb [aH id 0 0 0,ap b,.mp a,.fn f [aH id 0 0 0] []] σ=some (gQ l,σ.set id (gC d))∧Le d r∧l.length+2*d.toks.length≤2*r.toks.length+1:=by
 obtain⟨k,e,v,j,t⟩:=n σ id r m s p;have h:=m.set e;unfold Le at j;obtain⟨g,d,q,i,w,y,x⟩:=PX f N n b id a c o σ.length e.toks.length (σ.set id (gC e)) e k (by simp) h (by rw[aD (Ne.symm c)];exact u) (aF _) (by omega) (by omega) (by omega);rw[ew]at i;refine⟨g,d,?_,by unfold Le at *;omega,by omega⟩;rw[cX alZ rfl];simp only[ahh]at i;simp[auL,agm,v,i,w,fD]
theorem Db(f N:Nat)(m:jj f N)(a:Int)(e:List (List UInt8×Int)){σ:aw}{id:Nat}{r:gf}(i:At σ id r)(k:r.toks.length≤N)(j:r.toks.length≤600) :
  ∃d c,cC code I.qfb [aH id 0 0 0,ap a,.mp σ.length,.fn f [aH id 0 0 0] []] (σ++[.map (jt e)])=some (gQ d,σ.set id (gC c)++[.map (jt e)])∧Le c r∧d.length+2*c.toks.length≤2*r.toks.length+1:=by
 have g:At (σ++[.map (jt e)]) id r:=i.app _ (fun τ b _=>by simp[MX]);have o:=i.lt;obtain⟨d,c,h,l,n⟩:=QG f N m a g σ.length (by omega) e (by simp) k j;rw[cF _ _ o]at h;exact⟨d,c,h,l,n⟩
theorem ak3(N:Nat)(i:jj I.qez N):jj I.qfm N:=by
 intro σ id r a d c;obtain⟨f,b,h,e,j⟩:=Db I.qez N i 1 [([79,82],23)] a d c;refine⟨f,b,?_,e,j⟩;rw[cX amm rfl];have g:=fun o t v=>dM a b o t v;simp only[jt,aV,bm]at h;simp[auP,afk,h,g,cn,dE]
theorem aiS(N:Nat)(i:jj I.qfk N):jj I.qez N:=by
 intro σ id r a d c;obtain⟨f,b,h,e,j⟩:=Db I.qfk N i 1 [([65,78,68],22)] a d c;refine⟨f,b,?_,e,j⟩;rw[cX aos rfl];have g:=fun o t v=>dM a b o t v;simp only[jt,aV,bm]at h;simp[auS,afz,h,g,cn,dE]
theorem ahO(N:Nat)(i:jj I.qfp N):jj I.qfu N:=by
 intro σ id r a d c;obtain⟨f,b,h,e,j⟩:=Db I.qfp N i 5 [([43],12),([45],13)] a d c;refine⟨f,b,?_,e,j⟩;rw[cX ala rfl];have g:=fun o t v=>dM a b o t v;simp only[jt,aV,bm]at h;simp[auB,aeD,h,g,cn,dE]
theorem Qh(N:Nat)(i:jj I.qfs N):jj I.qfp N:=by
 intro σ id r a d c;obtain⟨f,b,h,e,j⟩:=Db I.qfs N i 5 [([42],14),([47],15)] a d c;refine⟨f,b,?_,e,j⟩;rw[cX anm rfl];have g:=fun o t v=>dM a b o t v;simp only[jt,aV,bm]at h;simp[aut,aeE,h,g,cn,dE]
theorem Cb{σ:aw}{id:Nat}{r:gf}(h:At σ id r)(a:Int)(s:List UInt8)(b:uU r a [s]=false):cC code I.qfv [aH id 0 0 0,ap a,aO s] σ=some (aC false,σ):=by
 have:=On h a s;unfold ade at this;rw[b]at this;simp only[bq,cI]at this;rw[h.same]at this;exact this
theorem Dh{σ:aw}{id:Nat}{r:gf}(h:At σ id r)(a:Int)(s:List UInt8)(b:uU r a [s]=true):cC code I.qfv [aH id 0 0 0,ap a,aO s] σ=some (aC true,σ.set id (gC r.nx)):=by
 have:=On h a s;unfold ade at this;rw[b]at this;exact this
theorem Cq{r:gf}{a:Int}{c:List (List UInt8)}(h:uU r a c=true):r.nx.toks.length+1=r.toks.length:=by
 obtain⟨t,l,b⟩:=uJ h;exact MV b
theorem va(r:gf)(e a:Int):Le (oz r e a) r:=by
 unfold oz Le;split<;>simp
theorem Ha(r:gf):Le r.nx r:=by unfold Le gf.nx;simp
theorem UV(r:gf)(b:Bool):Le (KH r b) r:=by
 unfold KH;split
 ·exact Ha r
 exact va r _ _
theorem jB{σ:aw}{id:Nat}{r:gf}(h:At σ id r)(a:Int)(s:List UInt8):∃b c,cC code I.qfv [aH id 0 0 0,ap a,aO s] σ=some (aC b,σ.set id (gC c))∧(b=true→c.toks.length+1=r.toks.length)∧(b=false→c=r):=by
 cases hb:uU r a [s] with
 |true=>exact⟨true,r.nx,Dh h a s hb,fun _=>Cq hb,fun e=>by cases e⟩
 |false=>exact⟨false,r,by rw[h.same];exact Cb h a s hb,fun e=>(by cases e),fun _=>rfl⟩
theorem EL{σ:aw}{id:Nat}{r:gf}(h:At σ id r)(a:Int):∃(t:vd) (b:gf),cC code I.qfh [aH id 0 0 0,ap a,.ai] σ=some (rE t.k t.at' t.t t.n,σ.set id (gC b))∧Le b r:=
 ⟨_,_,V6 h a,UV r _⟩
theorem oQ{σ:aw}{id:Nat}{r:gf}(h:At σ id r)(a:Int)(s:List UInt8):∃(t:vd) (b:gf),cC code I.qfh [aH id 0 0 0,ap a,.lst [aO s]] σ=some (rE t.k t.at' t.t t.n,σ.set id (gC b))∧Le b r:=
 ⟨_,_,P9 h a s,UV r _⟩
structure uV where
 table:List UInt8
 name:List UInt8
def uV.a(n:uV):aq:=aI [aO n.table,aO n.name]
instance:Nc uV.a 2 true:=⟨fun _=>rfl,fun _=>rfl⟩
instance:Fx uV.a:=⟨fun fl top base σ m x=>by simp[uV.a]⟩
theorem Kc{σ:aw}{id:Nat}{r:gf}(a:At σ id r):∃(n:uV) (w:gf),cC code I.qfi [aH id 0 0 0] σ=some (aI [aO n.table,aO n.name],σ.set id (gC w))∧Le w r:=by
 have j:=a.lt;have m:∀X Y,(σ++X).set id Y=σ.set id Y++X:=fun X Y=>by rw[cF _ _ j]
 have f:At (σ++[aB 2 0 [aI [aO [],aO []]]]) id r:=a.app _ (fun τ b _=>by simp[bw,cn,dE]);obtain⟨d,e,l,z⟩:=EL f 2;rw[m]at l;have i:At (σ.set id (gC e)++[aB 2 0 [aI [aO [],aO []]],aB 2 0 [aI [aO [],aO d.t]]]) id e:=(a.set e).app _ (fun τ b _=>by simp[bw,cn,dE]);obtain⟨b,c,q,s,A⟩:=jB i 5 [46];have p:id<(σ.set id (gC e)).length:=by simpa using j
 rw[cF _ _ p,ew]at q;cases b with
 |false=>
  obtain rfl:=A rfl;refine⟨⟨[],d.t⟩,c,?_,z⟩;rw[cX afq rfl];have g:=fun o t v=>dM a c o t v;simp[asJ,ZZ,l,q,g,cn,dE]
 |true=>
  have k:At (σ.set id (gC c)++[aB 2 0 [aI [aO [],aO []]],aB 2 0 [aI [aO [],aO d.t]]]) id c:=(a.set c).app _ (fun τ b _=>by simp[bw,cn,dE]);obtain⟨y,x,u,B⟩:=EL k 2;have h:id<(σ.set id (gC c)).length:=by simpa using j
  rw[cF _ _ h,ew]at u;have s:=s rfl;refine⟨⟨d.t,y.t⟩,x,?_,by unfold Le at *;omega⟩;rw[cX afq rfl];have g:=fun o t v=>dM a x o t v;simp[asJ,ZZ,l,q,u,g,cn,dE]
theorem acC(N:Nat)(t:∀M,M<N→jj I.qfs M)(s:jj I.qfo N):jj I.qfs N:=by
 intro σ id r c o m;obtain⟨b,a,e,k,p⟩:=jB c 5 [45];have d:=c.set a;cases b with
 |false=>
  obtain rfl:=p rfl;rw[c.same]at e;obtain⟨f,g,h,j,l⟩:=s σ id a c o m;refine⟨f,g,?_,j,l⟩;rw[cX afQ rfl];simp[asD,abF,e,h,fD]
 |true=>
  have k:=k rfl;obtain⟨f,g,h,j,l⟩:=t a.toks.length (by omega) _ id a d (aF _) (by omega);rw[ew]at h;unfold Le at j;obtain⟨i,q,n⟩:=zx 4 true f (by omega);refine⟨i,g,?_,by unfold Le;omega,by omega⟩;rw[cX afQ rfl];simp[asD,abF,e,h,q,fD]
theorem aiz(N:Nat)(t:∀M,M<N→jj I.qfk M)(s:jj I.qfw N):jj I.qfk N:=by
 intro σ id r c o m;obtain⟨b,a,e,k,p⟩:=jB c 1 [78,79,84];have d:=c.set a;cases b with
 |false=>
  obtain rfl:=p rfl;rw[c.same]at e;obtain⟨f,g,h,j,l⟩:=s σ id a c o m;refine⟨f,g,?_,j,l⟩;rw[cX agH rfl];simp[asV,YE,e,h,fD]
 |true=>
  have k:=k rfl;obtain⟨f,g,h,j,l⟩:=t a.toks.length (by omega) _ id a d (aF _) (by omega);rw[ew]at h;unfold Le at j;obtain⟨i,q,n⟩:=zx 5 true f (by omega);refine⟨i,g,?_,by unfold Le;omega,by omega⟩;rw[cX agH rfl];simp[asV,YE,e,h,q,fD]
def kg:List (List UInt8×Int):=[([67,79,85,78,84],8),([83,85,77],9),([77,73,78],10),([77,65,88],11)]
theorem Wv(M:Nat)(O:jj I.qfm M){σ:aw}{id:Nat}{r:gf}(s:At σ id r)(a:List UInt8)(W:r.toks.length≤M)(S:r.toks.length≤600) :
  ∃e i,cC code I.qfa [aH id 0 0 0,aO a] σ=some (gQ e,σ.set id (gC i))∧Le i r∧e.length+2*i.toks.length≤2*r.toks.length+2:=by
 have D:∀τ b,σ.length+1≤b→[Obj.map (jt kg)].map (bw b τ)=[Obj.map (jt kg)]:=fun τ b _=>by simp[MX]
 have H:At (σ++[.map (jt kg)]) id r:=s.app _ D;obtain⟨T,J,y,V⟩:=oQ H 5 [40];rw[tu s]at y;have p:∀i,At (σ.set id (gC i)++[.map (jt kg)]) id i:=fun i=>(s.set i).app _ (by simpa using D);have A:=fun i o t v=>dM s i o t v;unfold Le at *;have q:∀u:gf,u.toks.length≤J.toks.length→∃(e:List eP) (g:gf) (l:vd) (j:gf) (B:List eP) (n:Int) (c:List eP),cC code I.qfm [aH id 0 0 0] (σ.set id (gC u)++[.map (jt kg)])=some (gQ B,σ.set id (gC j)++[.map (jt kg)]) ∧
   cC code I.qfh [aH id 0 0 0,ap 5,.lst [aO [41]]] (σ.set id (gC j)++[.map (jt kg)])=some (rE l.k l.at' l.t l.n,σ.set id (gC g)++[.map (jt kg)]) ∧
   (dy [] (aO a) (jt kg)).map (·.getD (ap 0))=some (ap n)∧bB I.qet [ap n,.aa true [gQ B]]=some (gQ c)∧g.toks.length≤r.toks.length∧c.length+2*g.toks.length≤2*r.toks.length+2:=by
  intro u P;obtain⟨e,j,d,z,F⟩:=O _ id u (p u) (by omega) (by omega);rw[set_set s]at d;obtain⟨l,g,m,Q⟩:=oQ (p j) 5 [41];rw[set_set s]at m;unfold Le at z Q;rcases EF a kg with f|⟨n,f⟩
  ·obtain⟨c,x,K⟩:=zx 0 true e (by omega);exact⟨e,g,l,j,e,0,c,d,m,by rw[f];rfl,x,by omega,by omega⟩
  obtain⟨c,x,K⟩:=zx n true e (by omega);exact⟨e,g,l,j,e,n,c,d,m,by rw[f];rfl,x,by omega,by omega⟩
 have w:∀{n:Int},(dy [] (aO a) (jt kg)).map (·.getD (ap 0))=some (ap n)→∃o:Option aq,dy [] (aO a) [(aO [67,79,85,78,84],ap 8),(aO [83,85,77],ap 9),(aO [77,73,78],ap 10),(aO [77,65,88],ap 11)]=some o∧o.getD (ap 0)=ap n:=by
  intro n h;cases hl:dy [] (aO a) (jt kg) with
  |none=>rw[hl]at h;cases h
  |some o=>rw[hl]at h;exact⟨o,hl,dW h⟩
 by_cases N:a=[67,79,85,78,84]
 ·have k:(a==[67,79,85,78,84])=true:=by simpa using N
  obtain⟨b,u,E,L,R⟩:=jB (p J) 5 [42];rw[set_set s]at E;cases b with
  |true=>
   have L:=L rfl;obtain⟨U,j,d,z⟩:=oQ (p u) 5 [41];rw[set_set s]at d;unfold Le at z;have C:=SE 3 0 0 vZ [] [] NE;simp only[Rv,vZ]at C;refine⟨[⟨3,-1,-1,⟨0,0,0,[]⟩,[],[],by decide⟩],j,?_,by omega,by simp;omega⟩;rw[cX XB rfl];simp only[jt,kg,aV,bm]at y E d A;simp[asb,SV,y,E,d,k,C,A,cn,dE,eS]
  |false=>
   obtain rfl:=R rfl;obtain⟨_,g,l,j,e,n,c,d,m,f,x,z,F⟩:=q u (aF _);obtain⟨o,f,G⟩:=w f;refine⟨c,g,?_,z,F⟩;rw[cX XB rfl];simp only[jt,kg,aV,bm]at y E d m A;simp[-dy,asb,SV,y,E,d,m,k,f,G,x,A,cn,dE,eS]
 have k:(a==[67,79,85,78,84])=false:=by simpa using N
 obtain⟨_,g,l,j,e,n,c,d,m,f,x,z,F⟩:=q J (aF _);obtain⟨o,f,G⟩:=w f;refine⟨c,g,?_,z,F⟩;rw[cX XB rfl];simp only[jt,kg,aV,bm]at y d m A;simp[-dy,asb,SV,y,d,m,k,f,G,x,A,cn,dE,eS]
theorem vb{σ:aw}{id:Nat}{r:gf}(c:At σ id r){a:Int}{e:List (List UInt8)}(d:uU r a e=true):∃t:vd,cC code I.qfj [aH id 0 0 0] σ=some (rE t.k t.at' t.t t.n,σ.set id (gC r.nx))∧r.nx.toks.length+1=r.toks.length:=by
 obtain⟨t,l,b⟩:=uJ d;exact⟨t,wD c t l b,MV b⟩
def YC:List (List UInt8):=[[67,79,85,78,84],[83,85,77],[77,73,78],[77,65,88]]
theorem Sy(N:Nat)(w:∀M,M<N→jj I.qfm M):jj I.qfo N:=by
 intro σ id r b K G;have e:=b.get;have c:=Ob r 3;have d:=Ob r 4;have l:bB I.qfd [.cptr true r.v 0,ap 1,.aa true [aO [67,79,85,78,84],aO [83,85,77],aO [77,73,78],aO [77,65,88]]]=some (aC (uU r 1 YC)):=ada true r 1 YC (by decide);rw[cX amq rfl];cases b3:uU r 3 [] with
 |true=>
  rw[b3]at c;obtain⟨t,f,i⟩:=vb b b3;have a:=wJ 2 (IntKind.i64.wrap t.n) [] (by decide);refine⟨[⟨1,-1,-1,⟨2,IntKind.i64.wrap t.n,0,[]⟩,[],[],by simp⟩],r.nx,?_,Ha r,by simp;omega⟩;simp[arC,CQ,e,eD,c,f,a,fD]
 |false=>
 rw[b3]at c;cases b4:uU r 4 [] with
 |true=>
  rw[b4]at d;obtain⟨t,f,i⟩:=vb b b4;have a:=wJ 3 0 t.t t.h;refine⟨[⟨1,-1,-1,⟨3,0,0,t.t⟩,[],[],t.h⟩],r.nx,?_,Ha r,by simp;omega⟩;simp[arC,CQ,e,eD,c,d,f,a,fD]
 |false=>
 rw[b4]at d;cases b5:uU r 1 [[84,82,85,69]] with
 |true=>
  have g:=Dh b 1 _ b5;have i:=Cq b5;have a:=wJ 1 1 [] (by decide);refine⟨[⟨1,-1,-1,⟨1,1,0,[]⟩,[],[],by simp⟩],r.nx,?_,Ha r,by simp;omega⟩;simp[arC,CQ,e,eD,c,d,g,a,fD]
 |false=>
 have k:=Cb b 1 _ b5;cases b6:uU r 1 [[70,65,76,83,69]] with
 |true=>
  have g:=Dh b 1 _ b6;have i:=Cq b6;have a:=wJ 1 0 [] (by decide);refine⟨[⟨1,-1,-1,⟨1,0,0,[]⟩,[],[],by simp⟩],r.nx,?_,Ha r,by simp;omega⟩;simp[arC,CQ,e,eD,c,d,k,g,a,fD]
 |false=>
 have p:=Cb b 1 _ b6;cases b7:uU r 1 [[78,85,76,76]] with
 |true=>
  have g:=Dh b 1 _ b7;have i:=Cq b7;have a:=wJ 0 0 [] (by decide);refine⟨[⟨1,-1,-1,⟨0,0,0,[]⟩,[],[],by simp⟩],r.nx,?_,Ha r,by simp;omega⟩;simp[arC,CQ,e,eD,c,d,k,p,g,a,fD]
 |false=>
 have u:=Cb b 1 _ b7;cases b8:uU r 1 YC with
 |true=>
  rw[b8]at l;obtain⟨t,f,i⟩:=vb b b8;obtain⟨s,m,y,j,F⟩:=Wv r.nx.toks.length (w _ (by omega)) (b.set r.nx) t.t (aF _) (by omega);rw[ew]at y;refine⟨s,m,?_,j.trans (Ha r),by omega⟩;simp[arC,CQ,e,eD,c,d,k,p,u,l,f,y,fD]
 |false=>
 rw[b8]at l;cases b9:uU r 5 [[40]] with
 |true=>
  have g:=Dh b 5 _ b9;have i:=Cq b9;obtain⟨s,C,x,j,F⟩:=w r.nx.toks.length (by omega) _ id r.nx (b.set r.nx) (aF _) (by omega);rw[ew]at x;obtain⟨J,E,z,H⟩:=oQ (b.set C) 5 [41];rw[ew]at z;unfold Le at *;refine⟨s,E,?_,by omega,by omega⟩;simp[arC,CQ,e,eD,c,d,k,p,u,l,g,x,z,fD]
 |false=>
 have D:=Cb b 5 _ b9;obtain⟨n,m,f,j⟩:=Kc b;have h:=SE 2 0 0 vZ n.table n.name NE;simp only[Rv,vZ]at h;have B:=fun o t v=>dM b m o t v;refine⟨[⟨2,-1,-1,vZ,n.table,n.name,NE⟩],m,?_,j,by unfold Le at j;simp;omega⟩;have A:(gQ [⟨2,-1,-1,⟨0,0,0,[]⟩,n.table,n.name,by simp⟩])=.aa false [aI [ap 2,ap (-1),ap (-1),ap 0,ap 0,.int .u64 0,aO [],aO n.table,aO n.name]]:=rfl;have q:(gQ [⟨2,-1,-1,vZ,n.table,n.name,NE⟩])=.aa false [aI [ap 2,ap (-1),ap (-1),ap 0,ap 0,.int .u64 0,aO [],aO n.table,aO n.name]]:=rfl;rw[A]at h;rw[q];simp[arC,CQ,e,eD,c,d,k,p,u,l,D,f,h,B,cn,dE]
def O4:List (List UInt8×Int):=[([61],16),([60,62],17),([60],18),([60,61],19),([62],20),([62,61],21)]
abbrev Ta:Obj:=.map [(aO [61],ap 16),(aO [60,62],ap 17),(aO [60],ap 18),(aO [60,61],ap 19),(aO [62],ap 20),(aO [62,61],ap 21)]
theorem YA:Obj.map (jt O4)=Ta:=rfl
theorem ab4(N:Nat)(Q:jj I.qfu N):jj I.qfw N:=by
 intro σ id r f Z S;obtain⟨e,d,w,B,P⟩:=Q σ id r f Z S;have L:∀τ b,σ.length+1≤b→[Ta].map (bw b τ)=[Ta]:=fun τ b _=>by rw[←YA];simp[MX]
 have c:∀x,At (σ.set id (gC x)++[Ta]) id x:=fun x=>(f.set x).app _ (by simpa using L);have q:=fun x o t v=>dM f x o t v;have a:=oT f (gC d);have j:=Ob d 5;rw[cX aki rfl];cases b5:uU d 5 [] with
 |false=>
  rw[b5]at j;unfold Le at B;obtain⟨b,k,g,p,H⟩:=jB (c d) 1 [73,83];rw[set_set f]at g;cases b with
  |false=>
   obtain rfl:=H rfl;refine⟨e,k,?_,B,P⟩;simp[-dy,arI,Fq,w,a,eD,j,g,q,cn,dE]
  |true=>
   have p:=p rfl;obtain⟨z,A,s,M,F⟩:=jB (c k) 1 [78,79,84];rw[set_set f]at s
   have V:A.toks.length≤k.toks.length:=by cases z with
    |true=>have:=M rfl;omega
    |false=>rw[F rfl];exact aF _
   obtain⟨W,y,u,J⟩:=oQ (c A) 1 [78,85,76,76];rw[set_set f]at u;unfold Le at J;obtain⟨i,j6,k6⟩:=zx 6 true e (by omega);obtain⟨h,j7,T⟩:=zx 7 true e (by omega);cases z with
   |false=>
    refine⟨i,y,?_,by unfold Le;omega,by omega⟩;simp[-dy,arI,Fq,w,a,eD,j,g,s,u,j6,q,cn,dE]
   |true=>
    refine⟨h,y,?_,by unfold Le;omega,by omega⟩;simp[-dy,arI,Fq,w,a,eD,j,g,s,u,j7,q,cn,dE]
 |true=>
  rw[b5]at j;obtain⟨t,l,E⟩:=uJ b5;have O:=MV E;have R:d.v=aI [.aa false (rE t.k t.at' t.t t.n::l.map vd.a),ap d.en,ap d.at',ap d.er]:=by rw[gf.v_is,E];rfl
  simp only[gC]at a;have a:∀X,(σ.set id (aB 4 0 [d.v])++X)[id]?=some (aB 4 0 [aI [.aa false (rE t.k t.at' t.t t.n::l.map vd.a),ap d.en,ap d.at',ap d.er]]):=fun X=>by rw[a,R]
  rw[R]at j;have C:=wD (c d) t l E;rw[set_set f]at C;have G:t.a=rE t.k t.at' t.t t.n:=rfl;rw[G]at C;unfold Le at B;rcases EF t.t O4 with m|⟨n,m⟩
  ·have m:dy [] (aO t.t) [(aO [61],ap 16),(aO [60,62],ap 17),(aO [60],ap 18),(aO [60,61],ap 19),(aO [62],ap 20),(aO [62,61],ap 21)]=some none:=m;obtain⟨b,k,g,p,H⟩:=jB (c d) 1 [73,83];rw[set_set f]at g;cases b with
   |false=>
    obtain rfl:=H rfl;refine⟨e,k,?_,B,P⟩;simp[-dy,arI,Fq,w,a,j,m,g,q,cn,dE]
   |true=>
    have p:=p rfl;obtain⟨z,A,s,M,F⟩:=jB (c k) 1 [78,79,84];rw[set_set f]at s
    have V:A.toks.length≤k.toks.length:=by cases z with
     |true=>have:=M rfl;omega
     |false=>rw[F rfl];exact aF _
    obtain⟨W,y,u,J⟩:=oQ (c A) 1 [78,85,76,76];rw[set_set f]at u;unfold Le at J;obtain⟨i,j6,k6⟩:=zx 6 true e (by omega);obtain⟨h,j7,T⟩:=zx 7 true e (by omega);cases z with
    |false=>
     refine⟨i,y,?_,by unfold Le;omega,by omega⟩;simp[-dy,arI,Fq,w,a,j,m,g,s,u,j6,q,cn,dE]
    |true=>
     refine⟨h,y,?_,by unfold Le;omega,by omega⟩;simp[-dy,arI,Fq,w,a,j,m,g,s,u,j7,q,cn,dE]
  have m:dy [] (aO t.t) [(aO [61],ap 16),(aO [60,62],ap 17),(aO [60],ap 18),(aO [60,61],ap 19),(aO [62],ap 20),(aO [62,61],ap 21)]=some (some (ap n)):=m;obtain⟨D,k,g,p,n2⟩:=Q _ id d.nx (c d.nx) (by omega) (by omega);rw[set_set f]at g;unfold Le at p;obtain⟨K,U,Y⟩:=abG n true e D (by omega) (by omega);refine⟨K,k,?_,by unfold Le;omega,by omega⟩;simp[-dy,arI,Fq,w,a,j,m,C,g,U,q,cn,dE]
theorem aje:∀N,jj I.qfm N∧jj I.qfk N∧jj I.qfs N:=by
 intro N;induction N using Nat.strongRecOn with
 |ind N b=>
  have f:=Sy N fun M a=>(b M a).1;have c:=acC N (fun M a=>(b M a).2.2) f;have e:=ab4 N (ahO N (Qh N c));have d:=aiz N (fun M a=>(b M a).2.1) e;exact⟨ak3 N (aiS N d),d,c⟩
theorem apD{σ:aw}{id:Nat}{r:gf}(d:At σ id r)(c:r.toks.length≤600):∃b a,cC code I.qfm [aH id 0 0 0] σ=some (gQ b,σ.set id (gC a))∧Le a r∧b.length+2*a.toks.length≤2*r.toks.length+1:=
 (aje r.toks.length).1 σ id r d (aF _) c
def ajr(n:Int):wm:=⟨2,n,0,[]⟩
@[simp] theorem adS(k n u:Int)(s:List UInt8):bB I.qhm [aI [ap k,ap n,.int .u64 u,aO s]]=some (aC (wV ⟨k,n,u,s⟩)):=It ⟨k,n,u,s⟩
def iG(t:Int):Int:=if t<1∨23<t then -1 else if t≤3 then 0 else if t≤11 then 1 else 2
theorem Cn(t:Int):bB I.qh [ap t]=some (ap (iG t)):=by
 rw[aT ap6 rfl];unfold iG;by_cases d:t<1<;>by_cases c:23<t<;>by_cases b:t≤3<;>by_cases a:t≤11<;>simp[arv,anJ,d,c,b,a]
theorem VB(s:List UInt8)(l:s.length≤bC):∃t,bB I.qm [aO s]=some (aC t):=by
 rw[aT api rfl];have key:∀m k,k+m=s.length→(∃q,bU code 0 [1,2,5,6] vK ⟨[aO s,am,am,ap s.length,ap k,am,am],[]⟩=some (.ret,q)∧q.env[1]?=some (aC false)) ∨
   bU code 0 [1,2,5,6] vK ⟨[aO s,am,am,ap s.length,ap k,am,am],[]⟩=some (.ext 0,⟨[aO s,am,am,ap s.length,ap s.length,aC false,am],[]⟩):=by
  intro m;induction m with
  |zero=>
   intro k o;obtain rfl:k=s.length:=by omega
   rw[aZ];exact .inr (by simp[vK])
  |succ m j=>
   intro k o;have g:k<s.length:=by omega
   have a:(k:Int)<(s.length:Int):=by omega
   have f:s[k]?=some s[k]:=au g;have b:∀h:k<s.length,s[k]'h=s[k]'g:=fun _=>rfl;have w:=cW g l;have hi:=j (k+1) (by omega);rw[aZ];generalize s[k]=c at *;by_cases d:(c.toNat:Int)<32
   ·exact .inl ⟨_,by simp[vK,a,f,b,d];rfl,rfl⟩
   by_cases i:(126:Int)<(c.toNat:Int)
   ·exact .inl ⟨_,by simp[vK,a,f,b,d,i];rfl,rfl⟩
   have e:dh 0 [1,2,5,6] vK (run code vK ⟨[aO s,am,am,ap s.length,ap k,am,am],[]⟩)=bU code 0 [1,2,5,6] vK ⟨[aO s,am,am,ap s.length,ap (k+1:Nat),am,am],[]⟩:=by
    simp[vK,a,f,b,d,i,w,cN]
   rw[e];exact hi
 rcases key s.length 0 (by omega) with⟨q,h,n⟩|h
 ·simp only[bj]at h;exact⟨false,by simp[asB,ahV,h,n]⟩
 simp only[bj]at h;exact⟨true,by simp[asB,ahV,h]⟩
theorem Tg(s:List UInt8):bB I.qf [aO s]=some (aC (s==[] ||iF s)):=by
 rw[aT amU rfl];have h:=nO s;cases hs:(s==[])<;>cases hn:iF s<;>rw[hn]at h<;>simp[arn,acW,eS,hs,h]
theorem ap7(a b c e d c':Int)(s s':List UInt8):∃t,eqa true [0,0,0,2] (aI [ap a,ap b,.int .u64 c,aO s]) (aI [ap e,ap d,.int .u64 c',aO s'])=some (aC t):=by
 unfold eqa;by_cases g:a=e<;>by_cases i:b=d<;>by_cases h:c=c'<;>by_cases f:s=s'<;>simp[eR,sF,lX,g,i,h,f,neg,fa]
theorem abN(n:eP):∃t,bB I.qd [n.a]=some (aC t):=by
 rw[aT apO rfl];obtain⟨x,g⟩:=ap7 n.v.k n.v.n n.v.u 0 0 0 n.v.s [];obtain⟨w,o⟩:=VB n.v.s (by have:=n.h;unfold bC;omega);have q:=adS n.v.k n.v.n n.v.u n.v.s;have hi:=nO n.name;have p:=Tg n.table;have e:bB I.qch [aO []]=some (aC false):=nO [];have f:bB I.qf [aO []]=some (aC true):=Tg [];have h:n.a=Rv n.tag n.l n.r n.v n.table n.name:=rfl;rw[h];generalize (n.table==[] ||iF n.table)=r at *;generalize iF n.name=k at *;generalize wV ⟨n.v.k,n.v.n,n.v.u,n.v.s⟩=l at *;have b:(¬n.table=[]∧n.table.isEmpty=false)∨(n.table=[]∧n.table.isEmpty=true):=by cases n.table<;>simp
 have a:(¬n.name=[]∧n.name.isEmpty=false)∨(n.name=[]∧n.name.isEmpty=true):=by cases n.name<;>simp
 by_cases i:n.tag=1
 ·have c:(n.tag==1)=true:=by simpa using i
  rcases b with b|b<;>rcases a with a|a<;>cases l<;>by_cases m:0≤n.v.n <;>
   simp[arp,ac3,eS,b,a,-eqa,g,c,q,m,o]
 have c:(n.tag==1)=false:=by simpa using i
 by_cases j:n.tag=2
 ·have d:(n.tag==2)=true:=by simpa using j
  rcases b with b|b<;>rcases a with a|a<;>cases x<;>cases k <;>
   simp[arp,ac3,eS,b,a,-eqa,g,c,d,hi,p,e,f]
 have d:(n.tag==2)=false:=by simpa using j
 rcases b with b|b<;>rcases a with a|a <;>
  simp[arp,ac3,eS,b,a,-eqa,g,c,d]
def Em(i:Nat)(n:eP):Prop:=(iG n.tag=0∧n.l=-1∧n.r=-1)∨(iG n.tag=1∧(∃p:Nat,n.l=p∧p<i)∧n.r=-1)∨(iG n.tag=2∧(∃p:Nat,n.l=p∧p<i)∧∃p:Nat,n.r=p∧p<i)
def wK(p:Nat×Nat):aq:=aI [ap p.1,ap p.2]
instance:Nc wK 2 true:=⟨fun _=>rfl,fun _=>rfl⟩
instance:Fx wK:=⟨fun fl top base σ m x=>by simp[wK]⟩
abbrev vB:List Nat:=[2,3,6,7,8,9,10,11,12,16,17,18,19,20,21,22]
abbrev rm(b:Bool)(ns:List eP)(k:Nat)(c:aq)(all:List (Nat×Nat))(opn:List Nat):St:=
 ⟨[aI [.aa b (ns.map eP.a)],aH 0 0 0 0,am,am,.sl 1 k 0 all.length,.sl 2 k 0 opn.length,am,am,am,am,am,am,am,.aa b (ns.map eP.a),ap ns.length,ap k,c,am,am,am,am,am,am],
  [aB 1 0 [aI [.aa b (ns.map eP.a)]],aB 2 k (all.map wK),aB 1 k (dS opn)]⟩
def WG(r:Option (Ex×St)):Prop:=∃s,r=some (.ret,s)∧s.env[2]?=some .ai∧s.env[3]?=some (aC false)
theorem adN{b:Bool}{f:List eP}{k:Nat}{n:eP}(g:f[k]?=some n)(all:List (Nat×Nat))(e:List Nat)(c:Bool)(o:bB I.qd [n.a]=some (aC c))
  (h:iG n.tag<0∨(e.length:Int)<iG n.tag∨c=false):WG (dh 3 vB gc (run code gc (rm b f k am all e))):=by
 have p:=(ak.1 g).1;have d:∀h:k<f.length,f[k]'h=n:=fun _=>(ak.1 g).2;have m:(k:Int)<(f.length:Int):=by omega
 have j:=Cn n.tag;have a:n.a=Rv n.tag n.l n.r n.v n.table n.name:=rfl;rw[a]at o;by_cases i:iG n.tag<0
 ·exact⟨_,by simp[gc,m,g,d,a,j,i];rfl,rfl,rfl⟩
 by_cases l:(e.length:Int)<iG n.tag
 ·exact⟨_,by simp[gc,m,g,d,a,j,i,l];rfl,rfl,rfl⟩
 obtain rfl:c=false:=h.elim (fun h=>absurd h i) fun h=>h.elim (fun h=>absurd h l) id;exact⟨_,by simp[gc,m,g,d,a,j,i,l,o];rfl,rfl,rfl⟩
theorem zB(l:List Nat)(base:Nat)(σ:aw):(dS l).map (cn base σ)=dS l:=by
 unfold dS;rw[bY];exact aW fun y _=>by simp[cn,dE]
theorem CY(l:List Nat)(base:Nat)(σ:aw):(∀a,a∈dS l→aM (fz false true base σ 20 a)=aM a)↔True:=by
 simp only[iff_true];exact ED l false true base σ 19
theorem ao8{b:Bool}{c:List eP}(G:c.length≤8000){k:Nat}{n:eP}(j:c[k]?=some n)(all:List (Nat×Nat))(a:List Nat)(i:all.length=k)(F:a.length≤k)(o:bB I.qd [n.a]=some (aC true))(E:iG n.tag=0) :
  (¬(n.l=-1∧n.r=-1)∧WG (dh 3 vB gc (run code gc (rm b c k am all a)))) ∨
  ((n.l=-1∧n.r=-1)∧dh 3 vB gc (run code gc (rm b c k am all a))=bU code 3 vB gc (rm b c (k+1) am (all++[(k,1)]) (a++[k]))):=by
 have q:=(ak.1 j).1;have e:∀h:k<c.length,c[k]'h=n:=fun _=>(ak.1 j).2;have x:(k:Int)<(c.length:Int):=by omega
 have m:=Cn n.tag;rw[E]at m;have d:n.a=Rv n.tag n.l n.r n.v n.table n.name:=rfl;rw[d]at o;have g:¬((a.length:Int)<0):=by omega
 have f:IntKind.i64.wrap (a.length:Int)=a.length:=by rw[rJ (by omega) (by omega)]
 by_cases r:n.l=-1
 ·have l:(n.l != -1)=false:=by simpa using r
  by_cases p:n.r=-1
  ·refine .inr ⟨⟨r,p⟩,?_⟩;have A:(n.r != -1)=false:=by simpa using p
   have s:k+1≤bC:=by unfold bC;omega
   have z:a.length+1≤bC:=by unfold bC;omega
   have B:List.take k (all.map wK)=all.map wK:=ay (by simp[i]);have y:List.take a.length (dS a)=dS a:=ay (by simp);have D:wK (k,1)=aI [ap k,ap 1]:=rfl;have w:=cW q (by unfold bC;omega:c.length≤bC);have t:(all++[(k,1)]).length=k+1:=by simp[i]
   have v:(all++[(k,1)]).map wK=all.map wK++[aI [ap k,ap 1]]:=by rw[df];rfl
   simp only[rm,t,v,i];simp[gc,x,q,j,e,d,m,g,o,f,l,A,aZ 6,I0,append,i,B,s,y,z,w,eo,bQ,bw,zB,CY,cn,dE]
  refine .inl ⟨fun h=>p h.2,?_⟩;have C:(n.r != -1)=true:=by simpa using p
  exact⟨_,by simp[gc,x,q,j,e,d,m,g,o,f,l,C,i];rfl,rfl,rfl⟩
 refine .inl ⟨fun h=>r h.1,?_⟩;have u:(n.l != -1)=true:=by simpa using r
 exact⟨_,by simp[gc,x,q,j,e,d,m,g,o,f,u,i];rfl,rfl,rfl⟩
theorem Nf{all:List (Nat×Nat)}{p:Nat}(h:p<all.length):(all.map wK)[p]?=some (aI [ap (all[p].1:Int),ap (all[p].2:Int)]):=by simp[h,wK]
theorem apa{b:Bool}{a:List eP}(hn:a.length≤8000){k:Nat}{n:eP}(m:a[k]?=some n)(all:List (Nat×Nat))(o:List Nat)(p:Nat)(j:all.length=k)(P:(o++[p]).length≤k)(K:p<k)(hd:all[p]?.map (·.2)=some 0∨∀x∈all,x.2≤k+1)(w:bB I.qd [n.a]=some (aC true))(X:iG n.tag=1) :
  (¬(n.l=p∧n.r=-1)∧WG (dh 3 vB gc (run code gc (rm b a k am all (o++[p]))))) ∨
  ((n.l=p∧n.r=-1)∧∃x:Nat×Nat,x.2≤k+2∧dh 3 vB gc (run code gc (rm b a k am all (o++[p])))=bU code 3 vB gc (rm b a (k+1) am (all++[x]) (o++[k]))):=by
 have A:=(ak.1 m).1;have e:∀h:k<a.length,a[k]'h=n:=fun _=>(ak.1 m).2;have L:(k:Int)<(a.length:Int):=by omega
 have t:=Cn n.tag;rw[X]at t;have c:n.a=Rv n.tag n.l n.r n.v n.table n.name:=rfl;rw[c]at w;simp at P;have g:¬((o.length:Int)+1<1):=by omega
 have f:IntKind.i64.wrap ((o.length:Int)+1-1)=o.length:=by rw[rJ (by omega) (by omega)];omega
 have i:IntKind.i64.wrap (o.length:Int)=o.length:=by rw[rJ (by omega) (by omega)]
 have M:(dS o++[aq.int .i64 (p:Int)])[o.length]?=some (ap (p:Int)):=by rw[bI (by simp)];simp
 have U:List.drop o.length (dS o++[aq.int .i64 (p:Int)])=[ap (p:Int)]:=List.drop_left' (by simp);have d:p<all.length:=by omega
 have D:=Nf d;have W:all[p].2≤k+1:=by
  rcases hd with h|h
  ·rw[au d]at h;simp at h;omega
  exact h _ (aJ d)
 generalize V:all[p]=x at *;have l:∀h:p<all.length,all[p]'h=x:=fun _=>V;have F:wK x=aI [ap x.1,ap x.2]:=rfl;have G:IntKind.i64.wrap ((x.2:Int)+1)=((x.2+1:Nat):Int):=by rw[rJ (by omega) (by omega)];omega
 by_cases u:n.l=p
 ·have q:(n.l != (p:Int))=false:=by simpa using u
  by_cases z:n.r=-1
  ·have R:(n.r != -1)=false:=by simpa using z
   refine .inr ⟨⟨u,z⟩,?_⟩;have B:k+1≤bC:=by unfold bC;omega
   have Q:o.length+1≤bC:=by unfold bC;omega
   have S:List.take k (all.map wK)=all.map wK:=ay (by simp[j]);have N:List.take o.length (dS o++[aq.int .i64 (p:Int)])=dS o:=gg (by simp);have J:=cW A (by unfold bC;omega:a.length≤bC);have C:∀x,(all++[x]).length=k+1:=fun x=>by simp[j]
   have H:∀x:Nat×Nat,(all++[x]).map wK=all.map wK++[aI [ap x.1,ap x.2]]:=fun x=>by rw[df];rfl
   have r:dS (o++[p])=dS o++[aq.int .i64 (p:Int)]:=by simp[eo]
   have O:∀y:Nat×Nat,rm b a (k+1) am (all++[y]) (o++[k])=⟨[aI [.aa b (a.map eP.a)],aH 0 0 0 0,am,am,.sl 1 (k+1) 0 (k+1),.sl 2 (k+1) 0 (o.length+1),am,am,am,am,am,am,am,.aa b (a.map eP.a),ap a.length,ap ((k:Int)+1),am,am,am,am,am,am,am],
     [aB 1 0 [aI [.aa b (a.map eP.a)]],aB 2 (k+1) (all.map wK++[aI [ap y.1,ap y.2]]),aB 1 (k+1) (dS o++[ap k])]⟩:=fun y=>by simp[C,H,eo,j]
   have Y:IntKind.i64.wrap 1=1:=rfl;refine⟨(if x.1<k then x.1 else k,x.2+1),by dsimp;omega,?_⟩;rw[O];simp only[rm,j,r];have s:∀v:Nat,(if (1:Int)<(v:Int)+1 then (v:Int)+1 else 1)=(v:Int)+1:=fun v=>by split<;>omega
   by_cases Z:x.1<k<;>simp[gc,L,A,m,e,c,t,g,w,f,i,q,R,aZ 6,I0,append,j,S,B,N,Q,J,G,M,U,K,d,D,l,F,Z,s,Y,eo,bQ,bw,zB,CY,cn,dE]
  refine .inl ⟨fun h=>z h.2,?_⟩;have T:(n.r != -1)=true:=by simpa using z
  have r:dS (o++[p])=dS o++[aq.int .i64 (p:Int)]:=by simp[eo]
  simp only[rm,r];exact⟨_,by simp[gc,L,A,m,e,c,t,g,w,f,i,q,T,j,M,U];rfl,rfl,rfl⟩
 refine .inl ⟨fun h=>u h.1,?_⟩;have E:(n.l != (p:Int))=true:=by simpa using u
 have r:dS (o++[p])=dS o++[aq.int .i64 (p:Int)]:=by simp[eo]
 simp only[rm,r];exact⟨_,by simp[gc,L,A,m,e,c,t,g,w,f,i,E,j,M,U];rfl,rfl,rfl⟩
theorem apm{b:Bool}{c:List eP}(hn:c.length≤8000){k:Nat}{n:eP}(w:c[k]?=some n)(all:List (Nat×Nat))(o:List Nat)(p q:Nat)(t:all.length=k)(ae:(o++[p,q]).length≤k)(O:p<k)(K:q<k)(hd:∀x∈all,x.2≤k+1)(E:bB I.qd [n.a]=some (aC true))(h0:iG n.tag=2) :
  (¬(n.l=p∧n.r=q)∧WG (dh 3 vB gc (run code gc (rm b c k am all (o++[p,q]))))) ∨
  ((n.l=p∧n.r=q)∧∃x:Nat×Nat,x.2≤k+2∧dh 3 vB gc (run code gc (rm b c k am all (o++[p,q])))=bU code 3 vB gc (rm b c (k+1) am (all++[x]) (o++[k]))):=by
 have R:=(ak.1 w).1;have i:∀h:k<c.length,c[k]'h=n:=fun _=>(ak.1 w).2;have S:(k:Int)<(c.length:Int):=by omega
 have C:=Cn n.tag;rw[h0]at C;have d:n.a=Rv n.tag n.l n.r n.v n.table n.name:=rfl;rw[d]at E;simp at ae;have f:¬((o.length:Int)+2<2):=by omega
 have a:¬((o.length:Int)+1+1<2):=by omega
 have j:IntKind.i64.wrap ((o.length:Int)+2-2)=o.length:=by rw[rJ (by omega) (by omega)];omega
 have l:IntKind.i64.wrap (o.length:Int)=o.length:=by rw[rJ (by omega) (by omega)]
 have hN:dS (o++[p,q])=dS o++([ap (p:Int),ap (q:Int)]:List aq):=by simp[eo]
 have X:(dS o++([ap (p:Int),ap (q:Int)]:List aq))[o.length]?=some (ap (p:Int)):=by rw[bI (by simp)];simp
 have Y:(dS o++([ap (p:Int),ap (q:Int)]:List aq))[o.length+1]?=some (ap (q:Int)):=by rw[bI (by simp)];simp
 have V:List.drop o.length (dS o++([ap (p:Int),ap (q:Int)]:List aq))=[ap (p:Int),ap (q:Int)]:=List.drop_left' (by simp);have g:p<all.length:=by omega
 have e:q<all.length:=by omega
 have A:=Nf g;have G:=Nf e;have ar:all[p].2≤k+1:=hd _ (aJ g);have ao:all[q].2≤k+1:=hd _ (aJ e);generalize al:all[p]=x at *;generalize af:all[q]=y at *;have m:∀h:p<all.length,all[p]'h=x:=fun _=>al;have r:∀h:q<all.length,all[q]'h=y:=fun _=>af;have B:wK x=aI [ap x.1,ap x.2]:=rfl;have L:wK y=aI [ap y.1,ap y.2]:=rfl;have M:IntKind.i64.wrap ((x.2:Int)+1)=((x.2+1:Nat):Int):=by rw[rJ (by omega) (by omega)];omega
 have J:IntKind.i64.wrap ((y.2:Int)+1)=((y.2+1:Nat):Int):=by rw[rJ (by omega) (by omega)];omega
 by_cases W:n.l=p
 ·have u:(n.l != (p:Int))=false:=by simpa using W
  by_cases T:n.r=q
  ·have Q:(n.r != (q:Int))=false:=by simpa using T
   refine .inr ⟨⟨W,T⟩,?_⟩;have z:k+1≤bC:=by unfold bC;omega
   have P:o.length+1≤bC:=by unfold bC;omega
   have H:List.take k (all.map wK)=all.map wK:=ay (by simp[t]);have D:List.take o.length (dS o++([ap (p:Int),ap (q:Int)]:List aq))=dS o:=gg (by simp);have N:=cW R (by unfold bC;omega:c.length≤bC);have ag:∀x,(all++[x]).length=k+1:=fun x=>by simp[t]
   have ab:∀x:Nat×Nat,(all++[x]).map wK=all.map wK++[aI [ap x.1,ap x.2]]:=fun x=>by rw[df];rfl
   have ad:∀y:Nat×Nat,rm b c (k+1) am (all++[y]) (o++[k])=⟨[aI [.aa b (c.map eP.a)],aH 0 0 0 0,am,am,.sl 1 (k+1) 0 (k+1),.sl 2 (k+1) 0 (o.length+1),am,am,am,am,am,am,am,.aa b (c.map eP.a),ap c.length,ap ((k:Int)+1),am,am,am,am,am,am,am],
     [aB 1 0 [aI [.aa b (c.map eP.a)]],aB 2 (k+1) (all.map wK++[aI [ap y.1,ap y.2]]),aB 1 (k+1) (dS o++[ap k])]⟩:=fun y=>by simp[ag,ab,eo,t]
   have ww:IntKind.i64.wrap 1=1:=rfl;have F:IntKind.i64.wrap 2=2:=rfl;have s:∀v:Nat,(if (1:Int)<(v:Int)+1 then (v:Int)+1 else 1)=(v:Int)+1:=fun v=>by split<;>omega
   by_cases c1:x.1<k
   all_goals by_cases U:y.1<(if x.1<k then x.1 else k)
   all_goals by_cases c3:x.2<y.2
   all_goals refine⟨(if y.1<(if x.1<k then x.1 else k) then y.1 else (if x.1<k then x.1 else k),if x.2<y.2 then y.2+1 else x.2+1),by dsimp;split<;>omega,?_⟩
   all_goals rw[ad]
   all_goals simp only[rm,t,hN]
   all_goals simp[c1]at U
   all_goals first
    |(have an:=Nat.not_lt.2 U;simp[gc,S,R,w,i,d,C,f,a,E,j,l,u,Q,aZ 6,I0,append,t,H,z,D,P,N,M,J,X,Y,V,O,K,g,e,A,G,m,r,B,L,c1,U,an,c3,s,ww,F,eo,bQ,bw,zB,CY,cn,dE])
    |simp[gc,S,R,w,i,d,C,f,a,E,j,l,u,Q,aZ 6,I0,append,t,H,z,D,P,N,M,J,X,Y,V,O,K,g,e,A,G,m,r,B,L,c1,U,c3,s,ww,F,eo,bQ,bw,zB,CY,cn,dE]
  refine .inl ⟨fun h=>T h.2,?_⟩;have ah:(n.r != (q:Int))=true:=by simpa using T
  simp only[rm,hN];exact⟨_,by simp[gc,S,R,w,i,d,C,f,a,E,j,l,u,ah,t,X,Y,V];rfl,rfl,rfl⟩
 refine .inl ⟨fun h=>W h.1,?_⟩;have Z:(n.l != (p:Int))=true:=by simpa using W
 simp only[rm,hN];exact⟨_,by simp[gc,S,R,w,i,d,C,f,a,E,j,l,Z,t,X,Y,V];rfl,rfl,rfl⟩
theorem A9{l:List Nat}(h:1≤l.length):∃o p,l=o++[p]:=
 ⟨l.dropLast,l.getLast (by intro e;subst e;simp at h),(dQ _).symm⟩
theorem Rx{l:List Nat}(h:2≤l.length):∃o p q,l=o++[p,q]:=by
 obtain⟨o',q,rfl⟩:=A9 (show 1≤l.length by omega);obtain⟨o,p,rfl⟩:=A9 (show 1≤o'.length by simp at h;omega);exact⟨o,p,q,by simp⟩
theorem ac0(b:Bool)(f:List eP)(E:f.length≤8000):∀m k (all:List (Nat×Nat)) (a:List Nat),k+m=f.length→all.length=k→(∀p∈a,p<k)→a.length≤k→(∀x∈all,x.2≤k+1) →
  WG (bU code 3 vB gc (rm b f k am all a))∨∃e d,bU code 3 vB gc (rm b f k am all a)=some (.ext 0,rm b f f.length (aC false) e d)∧e.length=f.length∧d.length≤f.length∧(∀i n,k≤i→f[i]?=some n→Em i n):=by
 intro m;induction m with
 |zero=>
  intro k all a P z u g hd;obtain rfl:k=f.length:=by omega
  refine .inr ⟨all,a,?_,z,g,fun i n hi h=>by have:=(ak.1 h).1;omega⟩;rw[aZ];simp[gc]
 |succ m I=>
  intro k all a P z u g hd;have K:k<f.length:=by omega
  have r:f[k]?=some f[k]:=au K;generalize f[k]=n at r;obtain⟨c,C⟩:=abN n;rw[aZ];by_cases O:iG n.tag<0∨(a.length:Int)<iG n.tag∨c=false
  ·exact .inl (adN r all a c C O)
  have H:c=true:=by cases c<;>simp_all
  subst H;have M:0≤iG n.tag:=by omega
  have Q:iG n.tag≤a.length:=by omega
  have J:iG n.tag=0∨iG n.tag=1∨iG n.tag=2:=by
   unfold iG at M ⊢
   repeat' split
   all_goals first|omega|simp_all
  have next:∀(x:Nat×Nat) (o:List Nat),x.2≤k+2→(∀p∈o,p<k)→o.length≤k→Em k n →
    WG (bU code 3 vB gc (rm b f (k+1) am (all++[x]) (o++[k])))∨∃e d,bU code 3 vB gc (rm b f (k+1) am (all++[x]) (o++[k]))=some (.ext 0,rm b f f.length (aC false) e d)∧e.length=f.length∧d.length≤f.length∧(∀i n,k≤i→f[i]?=some n→Em i n):=by
   intro x o D u g N
   rcases I (k+1) (all++[x]) (o++[k]) (by omega) (by simp[z]) (fun p A=>by
    rcases ba.1 A with A|A
    ·have:=u p A;omega
    ·simp at A;omega) (by simp;omega) (fun y r=>by
    rcases ba.1 r with r|r
    ·have:=hd y r;omega
    rw[aP.1 r];omega) with h|⟨e,d,h,e1,e2,e3⟩
   ·exact .inl h
   refine .inr ⟨e,d,h,e1,e2,fun i L hi w=>?_⟩;by_cases G:i=k
   ·subst G;rw[r]at w;cases w;exact N
   exact e3 i L (by omega) w
  rcases J with v|v|v
  ·rcases ao8 (b:=b) E r all a z g C v with⟨_,h⟩|⟨j,h⟩
   ·exact .inl h
   rw[h];exact next (k,1) a (by simp) u g (.inl ⟨v,j⟩)
  ·obtain⟨o,p,rfl⟩:=A9 (l:=a) (by omega);have t:=u p (by simp);have s:o.length≤k:=by simp at g;omega
   rcases apa (b:=b) E r all o p z g t (.inr hd) C v with⟨_,h⟩|⟨j,x,D,h⟩
   ·exact .inl h
   rw[h];exact next x o D (fun q F=>u q (by simp[F])) s (.inr (.inl ⟨v,⟨p,j.1,t⟩,j.2⟩))
  obtain⟨o,p,q,rfl⟩:=Rx (l:=a) (by omega);have t:=u p (by simp);have B:=u q (by simp);have s:o.length≤k:=by simp at g;omega
  rcases apm (b:=b) E r all o p q z g t B hd C v with⟨_,h⟩|⟨j,x,D,h⟩
  ·exact .inl h
  rw[h];exact next x o D (fun q F=>u q (by simp[F])) s (.inr (.inr ⟨v,⟨p,j.1,t⟩,⟨q,j.2,B⟩⟩))
structure mv (ns:List eP):Prop where
 pos:0<ns.length
 le:ns.length≤300
 node:∀i n,ns[i]?=some n→Em i n
theorem Vv(b:Bool)(c:List eP)(z:c.length≤8000):∃(R:aq) (t:Bool),bB I.qe [aI [.aa b (c.map eP.a)]]=some (fy [R,aC t])∧(t=true→mv c):=by
 rw[aT apI rfl];rcases ac0 b c z c.length 0 [] [] (by omega) rfl (by simp) (by simp) (by simp) with⟨s,h,F,C⟩|⟨all,j,h,l,G,v⟩
 ·simp[rm]at h;exact⟨.aa false [],false,by simp[ars,aaL,h,F,C],fun e=>by cases e⟩
 simp[rm]at h;by_cases o:j.length=1
 ·have A:((j.length:Int)==1)=true:=by rw[o];rfl
  have E:0<c.length:=by omega
  have w:((all.length:Nat):Int)=(c.length:Int):=by omega
  by_cases D:c.length≤300
  ·have g:((c.length:Int)≤300):=by omega
   have B:IntKind.i64.wrap ((c.length:Int)-1)=((c.length-1:Nat):Int):=by rw[rJ (by omega) (by omega)];omega
   have k:c.length-1<all.length:=by omega
   have p:c.length-1<c.length:=by omega
   have q:=Nf k;have m:∀h:c.length-1<all.length,all[c.length-1]'h=all[c.length-1]'k:=fun _=>rfl;generalize all[c.length-1]=x at *;have r:wK x=aI [ap x.1,ap x.2]:=rfl;refine⟨.aa false (all.map wK),decide ((x.2:Int)≤20),?_,fun _=>⟨E,D,fun i n h=>v i n (cK _) h⟩⟩;have f:List.take c.length (all.map wK)=all.map wK:=ay (by simp[l]);have d:∀σ,(all.map wK).map (fz false false 0 σ 19)=all.map wK:=fun σ=>by
    rw[bY];exact aW fun y _=>Fx.fx false false 0 σ 16 y
   simp[ars,aaL,h,o,g,l,B,k,p,q,m,r,f,d];intro a x y _ h;subst h;exact congrArg aM (Fx.fx false false 0 _ 15 (x,y))
  have g:¬((c.length:Int)≤300):=by omega
  refine⟨.aa false (all.map wK),false,?_,fun e=>by cases e⟩;have f:List.take c.length (all.map wK)=all.map wK:=ay (by simp[l]);have d:∀σ,(all.map wK).map (fz false false 0 σ 19)=all.map wK:=fun σ=>by
   rw[bY];exact aW fun y _=>Fx.fx false false 0 σ 16 y
  simp[ars,aaL,h,o,g,l,f,d];intro a x y _ h;subst h;exact congrArg aM (Fx.fx false false 0 _ 15 (x,y))
 refine⟨.aa false (all.map wK),false,?_,fun e=>by cases e⟩;have f:List.take c.length (all.map wK)=all.map wK:=ay (by simp[l]);have d:∀σ,(all.map wK).map (fz false false 0 σ 19)=all.map wK:=fun σ=>by
  rw[bY];exact aW fun y _=>Fx.fx false false 0 σ 16 y
 have u:((j.length:Int)==1)=false:=by simp;omega
 simp[ars,aaL,h,o,u,l,f,d];intro a x y _ h;subst h;exact congrArg aM (Fx.fx false false 0 _ 15 (x,y))
theorem aaE(b:Bool)(a:List eP)(d:a.length≤8000):∃e:Int,bB I.qb [aI [.aa b (a.map eP.a)]]=some (ap e)∧(e=0→mv a):=by
 rw[aT apu rfl];obtain⟨R,t,h,g⟩:=Vv true a d;obtain⟨j,i,f,c⟩:=Vv false a d;cases b with
 |true=>cases t with
  |true=>exact⟨0,by simp[art,Xm,h],fun _=>g rfl⟩
  |false=>exact⟨180,by simp[art,Xm,h],fun e=>by cases e⟩
 |false=>cases i with
  |true=>exact⟨0,by simp[art,Xm,f],fun _=>c rfl⟩
  |false=>exact⟨180,by simp[art,Xm,f],fun e=>by cases e⟩
abbrev jq(x:List EN):aq:=aI [.aa false (x.map EN.a)]
def QT(by':Int)(n:EN):EN:=⟨n.tag,if 0≤n.l then IntKind.i64.wrap (n.l+by') else n.l,if 0≤n.r then IntKind.i64.wrap (n.r+by') else n.r,n.col,n.v⟩
theorem aob(a:Int)(n:EN):(QT a n).a=aI [ap n.tag,ap (if 0≤n.l then IntKind.i64.wrap (n.l+a) else n.l),ap (if 0≤n.r then IntKind.i64.wrap (n.r+a) else n.r),ap n.col,ap n.v.k,ap n.v.n,.int .u64 n.v.u,aO n.v.s]:=rfl
abbrev ajc(root:EN)(out:List EN)(l r:Int)(x:List EN):aw:=[aB 8 0 [root.a],aB 1 0 [aI [.ai]],aB 8 out.length (out.map EN.a),aB 2 0 [aI [ap l,ap r]],aB 1 0 [jq x]]
theorem VR(root:EN)(a:List EN)(l r:Int)(x:List EN)(w:a.length+x.length≤8000) :
  cC code I.qca [.sl 2 a.length 0 a.length,jq x] (ajc root a l r x)=some (.sl 2 (a.length+x.length) 0 (a.length+x.length),ajc root (a++x.map (QT a.length)) l r x++[aB 1 0 [jq x]]):=by
 have u:x.length≤bC:=by unfold bC;omega
 have key:=dl (base:=6) (clr:=[5,9,10,11]) (b:=Gs)
  (fun k=>⟨[.sl 2 (a.length+k) 0 (a.length+k),jq x,aH 5 0 0 0,.ai,ap a.length,am,.aa false (x.map EN.a),ap x.length,ap k,am,am,am],[aB 8 0 [root.a],aB 1 0 [aI [.ai]],aB 8 (a.length+k) ((a++(x.take k).map (QT a.length)).map EN.a),aB 2 0 [aI [ap l,ap r]],aB 1 0 [jq x],aB 1 0 [jq x]]⟩) x.length
  (.ext 0,⟨[.sl 2 (a.length+x.length) 0 (a.length+x.length),jq x,aH 5 0 0 0,.ai,ap a.length,am,.aa false (x.map EN.a),ap x.length,ap x.length,aC false,am,am],[aB 8 0 [root.a],aB 1 0 [aI [.ai]],aB 8 (a.length+x.length) ((a++x.map (QT a.length)).map EN.a),aB 2 0 [aI [ap l,ap r]],aB 1 0 [jq x],aB 1 0 [jq x]]⟩)
  (fun k m=>by
   have q:x[k]?=some x[k]:=au m;have g:∀h:k<x.length,x[k]'h=x[k]'m:=fun _=>rfl;have p:(k:Int)<(x.length:Int):=by omega
   have s:=cW m u;have i:a++(x.take (k+1)).map (QT a.length)=(a++(x.take k).map (QT a.length))++[QT a.length x[k]]:=by
    rw[eH,q,Option.toList_some,df,dG];rfl
   have c:(a++(x.take k).map (QT a.length)).length=a.length+k:=by simp;omega
   rw[i];generalize a++(x.take k).map (QT a.length)=e at *;generalize x[k]=n at *;have f:a.length+k+1≤bC:=by unfold bC;omega
   have j:List.take (a.length+k) (e.map EN.a)=e.map EN.a:=ay (by simp[c]);have o:n.a=aI [ap n.tag,ap n.l,ap n.r,ap n.col,ap n.v.k,ap n.v.n,.int .u64 n.v.u,aO n.v.s]:=rfl;rw[df,aV,bm,aob];have d:a.length+(k+1)=a.length+k+1:=by omega
   rw[d];by_cases t:0≤n.l<;>by_cases v:0≤n.r <;>
    simp[Gs,p,q,g,o,t,v,append,f,j,c,s,bQ,bw,cn,dE])
  (by
   rw[de];simp[Gs])
 rw[cz al0 rfl];simp at key;simp[auH,agY,key]
abbrev OE(ps:aq)(np i m:Nat)(c:aq)(root:EN):List aq:=[root.a,ps,aH 0 0 0 0,aH 1 0 0 0,.sl 2 m 0 m,aH 3 0 0 0,am,am,ps,ap np,ap i,c]
abbrev adJ(root:EN)(out:List EN)(l r:Int):aw:=[aB 8 0 [root.a],aB 1 0 [aI [.ai]],aB 8 out.length (out.map EN.a),aB 2 0 [aI [ap l,ap r]]]
noncomputable abbrev goE(root:EN)(ps:aq)(np i:Nat)(out:List EN)(l r:Int):Option (Ex×St):=
 bU code 4 [6,7,11] CZ ⟨OE ps np i out.length am root,adJ root out l r⟩
theorem yJ(root:EN)(q:Bool)(xs:List (List EN))(i:Nat)(p:List EN)(hi:xs[i]?=some p)(A:xs.length≤2)(a:List EN)(y:a.length+p.length≤8000)(l r:Int) :
  goE root (.aa q (xs.map jq)) xs.length i a l r=goE root (.aa q (xs.map jq)) xs.length (i+1) (a++p.map (QT a.length)) (if i=0 then ((a.length+p.length:Nat):Int)-1 else l) (if i=0 then r else ((a.length+p.length:Nat):Int)-1):=by
 have g:=(ak.1 hi).1;have d:=VR root a l r p y;have v:(i:Int)<(xs.length:Int):=by omega
 have e:∀h:i<xs.length,xs[i]'h=p:=fun _=>(ak.1 hi).2;have z:IntKind.i64.wrap ((i:Int)+1)=(i:Int)+1:=rJ (by omega) (by omega);have o:IntKind.i64.wrap (((a.length:Int)+(p.length:Int))-1)=((a.length:Int)+(p.length:Int))-1:=rJ (by omega) (by omega);have b:(a++p.map (QT a.length)).length=a.length+p.length:=by simp
 have s:((a.length+p.length:Nat):Int)=(a.length:Int)+(p.length:Int):=by omega
 have u:∀base σ m,(List.map (fz false true base σ (m+3)) ((a++p.map (QT a.length)).map EN.a))=(a++p.map (QT a.length)).map EN.a:=fun base σ m=>acZ _ false true base σ (m+1);unfold goE;rw[aZ,b,s];simp only[ajc,b]at d;generalize a++p.map (QT a.length)=c at *;simp only[adJ,b];have f:∀base σ,List.map (cn base σ∘EN.a) c=List.map EN.a c:=fun base σ=>by
  have:=u base σ 17;rw[bY]at this;exact this
 by_cases w:i=0
 ·subst w;have n:IntKind.i64.wrap 1=1:=rfl;have j:(0:Int)<(xs.length:Int):=by omega
  simp[n,CZ,OE,g,hi,j,e,d,o,b,f,bQ,bw,cn,dE]
 have t:¬(i:Int)=0:=by omega
 have x:i=1:=by omega
 subst x;have k:(1:Int)<(xs.length:Int):=by omega
 have n:IntKind.i64.wrap 2=2:=rfl;simp[n,CZ,OE,g,hi,k,e,d,o,b,f,bQ,bw,cn,dE]
theorem aji(k n u:Int)(s:List UInt8):okV ⟨k,n,u,s⟩=if k=0 then (decide (n=0)&&decide (u=0)&&decide (s=[])) else if k=1 then (decide (u=0)&&decide (s=[])&&(decide (n=0) ||decide (n=1)))
  else if k=2 then (decide (u=0)&&decide (s=[])) else if k=3 then (decide (n=0)&&decide (u=0)&&decide (s.length≤40)) else (decide (k=4)&&decide (s=[])):=by
 rw[eM];simp only[okV,IQ,aX];by_cases c:k=0
 ·subst c;simp[and_assoc]
 by_cases g:k=1
 ·subst g;by_cases a:n=0
  ·simp[a]
  by_cases b:n=1
  ·simp[b]
  simp[a,b]
 by_cases f:k=2
 ·subst f;simp
 by_cases e:k=3
 ·subst e;by_cases a:s.length≤40<;>simp[a]
 by_cases d:k=4
 ·subst d;simp
 simp[c,g,f,e,d]
def kC(e:List EN):Nat→Nat
 |0=>0
 |m+1=>
  match e[m]? with
  |none=>0
  |some n=>
   if dv n.tag<0∨iA n=false then 0
   else if dv n.tag=0 then (if n.l=-1∧n.r=-1 then 1 else 0)
   else if kC e m=0 then 0
   else if dv n.tag=1 then (if n.l=(m:Int)-1∧n.r=-1 then kC e m+1 else 0)
   else if kC e (m-kC e m)=0∨n.r≠(m:Int)-1∨n.l≠(m:Int)-1-kC e m then 0
   else kC e (m-kC e m)+kC e m+1
termination_by m=>m
decreasing_by all_goals omega
end Go.AM
namespace Go.AM
open P
set_option maxHeartbeats 64000000
set_option maxRecDepth 40000
def US(e:List EN):Nat→List Nat→Prop
 |k,[]=>k=0
 |k,p::r=>k=p+1∧0<kC e k∧US e (k-kC e k) r
theorem Wc{e:List EN}{m:Nat}{n:EN}(a:e[m]?=some n):kC e (m+1) =
   if dv n.tag<0∨iA n=false then 0
   else if dv n.tag=0 then (if n.l=-1∧n.r=-1 then 1 else 0)
   else if kC e m=0 then 0
   else if dv n.tag=1 then (if n.l=(m:Int)-1∧n.r=-1 then kC e m+1 else 0)
   else if kC e (m-kC e m)=0∨n.r≠(m:Int)-1∨n.l≠(m:Int)-1-kC e m then 0
   else kC e (m-kC e m)+kC e m+1:=by
 rw[kC,a]
theorem Wn{e:List EN}{k:Nat}{n:EN}(x:e[k]?=some n){a o w o':List Nat}(m:US e k o.reverse)(c:sW k n a o=some (w,o')):US e (k+1) o'.reverse∧w.length=a.length+1:=by
 have d:=Wc x;unfold sW at c;split at c
 ·cases c
 rename_i u;have j:¬(dv n.tag<0∨iA n=false):=fun h=>u (h.elim .inl fun h=>.inr (.inr h));have f:dv n.tag≤o.length:=by
  have:¬((o.length:Int)<dv n.tag):=fun h=>u (.inr (.inl h));omega
 have A:=wr n.tag;rw[if_neg j]at d;have y:0≤dv n.tag:=by
  have:¬(dv n.tag<0):=fun h=>j (.inl h);omega
 clear u j;rcases (by omega:dv n.tag=0∨dv n.tag=1∨dv n.tag=2) with l|l|l
 ·rw[l]at c d;simp only[Int.toNat_zero,FZ,List.drop_length]at c;split at c
  ·rename_i g;cases c;rw[if_pos rfl,if_pos g]at d;refine⟨?_,by simp⟩;rw[gX];refine⟨rfl,by rw[d];decide,?_⟩;rw[d];simpa using m
  cases c
 ·rw[l]at c d f;obtain⟨b,p,rfl⟩:∃b p,o=b++[p]:=by
   rcases kU o with h|⟨b,p,h⟩
   ·subst h;simp at f
   exact⟨b,p,by simpa using h⟩
  have s:(b++[p]).drop ((b++[p]).length-(1:Int).toNat)=[p]:=by
   have:(b++[p]).length-(1:Int).toNat=b.length:=by simp
   rw[this,List.drop_left]
  rw[s]at c;simp only at c;rw[gX]at m;obtain⟨z,B,v⟩:=m;split at c
  ·rename_i g;cases c;have i:kC e k≠0:=by omega
   rw[if_neg (by decide),if_neg i,if_pos rfl,if_pos ⟨by omega,g.2⟩]at d;refine⟨?_,by simp⟩;have r:(b++[p]).take ((b++[p]).length-1)=b:=by
    have:(b++[p]).length-1=b.length:=by simp
    rw[this,List.take_left]
   rw[r,gX];refine⟨rfl,by rw[d];omega,?_⟩;rw[d,show k+1-(kC e k+1)=k-kC e k by omega];exact v
  cases c
 rw[l]at c d f;obtain⟨b,p,q,rfl⟩:∃b p q,o=b++[p,q]:=by
  rcases kU o with h|⟨C,q,h⟩
  ·subst h;simp at f
  rcases kU C with t|⟨b,p,t⟩
  ·subst t h;simp at f
  exact⟨b,p,q,by rw[h,t];simp⟩
 have s:(b++[p,q]).drop ((b++[p,q]).length-(2:Int).toNat)=[p,q]:=by
  have:(b++[p,q]).length-(2:Int).toNat=b.length:=by simp
  rw[this,List.drop_left]
 rw[s]at c;simp only at c;rw[gX]at m;obtain⟨z,B,v,E,D⟩:=m;split at c
 ·rename_i g;cases c;have i:kC e k≠0:=by omega
  rw[if_neg (by decide),if_neg i,if_neg (by decide),if_neg (by
   rintro (h|h|h)
   ·omega
   ·exact h (by omega)
   exact h (by omega))]at d
  refine⟨?_,by simp⟩;have r:(b++[p,q]).take ((b++[p,q]).length-2)=b:=by
   have:(b++[p,q]).length-2=b.length:=by simp
   rw[this,List.take_left]
  rw[r,gX];refine⟨rfl,by rw[d];omega,?_⟩;rw[d,show k+1-(kC e (k-kC e k)+kC e k+1)=k-kC e k-kC e (k-kC e k) by omega];exact D
 cases c
theorem NJ(e:List EN):∀k,k≤e.length→∀a o,iB (e.take k) 0 [] []=some (a,o)→US e k o.reverse∧a.length=k:=by
 intro k;induction k with
 |zero=>
  intro _ a o h;simp[iB]at h;obtain⟨rfl,rfl⟩:=h;exact⟨rfl,rfl⟩
 |succ k c=>
  intro i a o h;have b:k<e.length:=by omega
  rw[dt b,tF]at h;cases hf:iB (e.take k) 0 [] [] with
  |none=>rw[hf]at h;cases h
  |some q=>
   obtain⟨d,g⟩:=q;rw[hf]at h;simp only[cH,cE,cY]at h;rw[eN (by omega)]at h;obtain⟨f,j⟩:=c (by omega) d g hf;obtain⟨j1,j2⟩:=Wn (au b) f h;exact⟨j1,by omega⟩
end Go.AM
namespace Go.AM
open P
set_option maxHeartbeats 64000000
set_option maxRecDepth 40000
attribute [local simp] aG bd
theorem Ab(root:EN)(d:Bool)(xs:List (List EN))(b:List EN)(l r:Int)(o:b.length≤8000)
  (h:goE root (.aa d (xs.map jq)) xs.length 0 [] (-1) (-1)=goE root (.aa d (xs.map jq)) xs.length xs.length b l r) :
  bB I.qbz [root.a,.aa d (xs.map jq)]=some (jq (b++[⟨root.tag,l,r,root.col,root.v⟩])):=by
 have k:goE root (.aa d (xs.map jq)) xs.length xs.length b l r=some (.ext 0,⟨(OE (.aa d (xs.map jq)) xs.length xs.length b.length am root).set 11 (aC false),adJ root b l r⟩):=by
  unfold goE;rw[aZ];simp[CZ]
 rw[k]at h;have m:root.a=aI [ap root.tag,ap root.l,ap root.r,ap root.col,ap root.v.k,ap root.v.n,.int .u64 root.v.u,aO root.v.s]:=rfl;have e:b.length+1≤bC:=by unfold bC;omega
 have i:List.take b.length (b.map EN.a)=b.map EN.a:=ay (by simp);have c:List.take (b.length+1) (b.map EN.a++[aq.agg [ap root.tag,ap l,ap r,ap root.col,ap root.v.k,ap root.v.n,.int .u64 root.v.u,aO root.v.s]])=b.map EN.a++[aq.agg [ap root.tag,ap l,ap r,ap root.col,ap root.v.k,ap root.v.n,.int .u64 root.v.u,aO root.v.s]]:=ay (by simp);have g:∀σ,List.map (fz false false 0 σ 18∘EN.a) b=List.map EN.a b:=fun σ=>aW fun y _=>Fx.fx false false 0 σ 15 y;have j:∀σ (a:EN),fz false false 0 σ 18 a.a=a.a:=fun σ a=>Fx.fx false false 0 σ 15 a;unfold goE at h;simp only[OE,adJ,bD,bm,List.set,bj]at h;have n:jq (b++[⟨root.tag,l,r,root.col,root.v⟩])=aI [.aa false (b.map EN.a++[aI [ap root.tag,ap l,ap r,ap root.col,ap root.v.k,ap root.v.n,.int .u64 root.v.u,aO root.v.s]])]:=by
  simp[jq];rfl
 rw[aT ajY rfl,n];rw[m]at h ⊢;have f:(xs.map jq).length=xs.length:=dg _;generalize xs.map jq=vs at *;rw[←f]at h;simp[auh,agi,h,append,i,e,c,g,j]
theorem Ym(root:EN)(d:Bool)(xs:List (List EN))(f:xs.length≤2)(e:∀x∈xs,x.length≤1000):∃es:List EN,es.length≤2001∧bB I.qbz [root.a,.aa d (xs.map jq)]=some (jq es):=by
 match xs,f,e with
 |[],_,_=>exact⟨_,by simp,Ab root d [] [] (-1) (-1) (by simp) rfl⟩
 |[a],_,e=>
  have la:=e a (by simp);refine⟨_,?_,Ab root d [a] _ _ _ ?_ (yJ root d [a] 0 a rfl (by simp) [] (by simp;omega) (-1) (-1))⟩
  ·simp;omega
  simp;omega
 |[a,b],_,e=>
  have la:=e a (by simp);have i:=e b (by simp);have g:=yJ root d [a,b] 0 a rfl (by simp) [] (by simp;omega) (-1) (-1);have h:=yJ root d [a,b] 1 b rfl (by simp) ([]++a.map (QT (([]:List EN).length))) (by simp;omega) (((([]:List EN).length+a.length:Nat):Int)-1) (-1);refine⟨_,?_,Ab root d [a,b] _ _ _ ?_ (g.trans h)⟩
  ·simp;omega
  simp;omega
 |a::b::c::r,f,_=>simp at f
theorem ah9{e:List EN}(h:wn e=true):e.length≤1000:=by
 unfold wn at h;split at h
 ·cases h
 rename_i all a b;have:=(NJ e e.length (aF _) all a (by rw[de];exact b)).2;simp at h;omega
theorem TB(x:List EN)(h:x.length≤8000):bB I.qbo [aI [.aa false (x.map EN.a)]]=some (ap (if wn x then 0 else 200)):=zq false x (by unfold bC;omega)
theorem QP(root:EN)(f:Bool)(xs:List (List EN))(C:xs.length≤2)(n:∀x∈xs,x.length≤1000):∃(es:List EN) (t:Int),bB I.qcb [root.a,.aa f (xs.map jq)]=some (fy [jq es,ap t])∧es.length≤1000∧(t=0→wn es=true):=by
 have p:root.a=aI [ap root.tag,ap root.l,ap root.r,ap root.col,ap root.v.k,ap root.v.n,.int .u64 root.v.u,aO root.v.s]:=rfl;have w:∀fl top base σ m,fz fl top base σ (m+3) root.a=root.a:=fun fl top base σ m=>Fx.fx fl top base σ m root;have s:∀fl top base σ m (x:List EN),fz fl top base σ (m+3) (jq x)=jq x:=fun fl top base σ m x=>by simp[jq]
 have loop:=oA (base:=2) (clr:=[4,5,6,12,13]) (b:=xB) xs (fun k=>⟨[root.a,.aa f (xs.map jq),aH 0 0 0 0,aH 1 0 0 0,am,am,am,am,am,.aa f (xs.map jq),ap xs.length,ap k,am,am,am],[aB 8 0 [root.a],aB 1 0 [aI [.ai]]]⟩) (fun x=>!wn x)
  (.ext 0,⟨[root.a,.aa f (xs.map jq),aH 0 0 0 0,aH 1 0 0 0,am,am,am,am,am,.aa f (xs.map jq),ap xs.length,ap xs.length,aC false,am,am],[aB 8 0 [root.a],aB 1 0 [aI [.ai]]]⟩) (fun o=>∃q,o=(.ret,q)∧q.env[4]?=some (ap 200)∧q.env[3]?=some (aH 1 0 0 0)∧q.st[1]?=some (aB 1 0 [aI [.ai]]))
  (fun k x i c l=>by
   have j:∀h:k<xs.length,xs[k]'h=x:=fun h=>(ak.1 c).2;have d:wn x=true:=by simpa using l
   have a:=TB x (by have:=n x (aN c);omega);rw[d]at a;have D:xs.length≤bC:=by unfold bC;omega
   have z:=cW i D;simp[xB,i,c,j,a,z,w,s,bQ,bw,cn,dE])
  (fun k x i c l=>by
   have j:∀h:k<xs.length,xs[k]'h=x:=fun h=>(ak.1 c).2;have d:wn x=false:=by simpa using l
   have a:=TB x (by have:=n x (aN c);omega);rw[d]at a;exact⟨_,by simp[xB,i,c,j,a];rfl,_,rfl,rfl,rfl,rfl⟩)
  (by simp[xB])
 rw[aT aeJ rfl];obtain⟨es,A,g⟩:=Ym root f xs C n;have a:=TB es (by omega);have v:(xs.map jq).length=xs.length:=dg _;simp only[bj]at loop;rcases loop with⟨_,loop⟩|⟨_,o,loop,q,rfl,y,B,u⟩
 ·cases ho:wn es with
  |true=>
   rw[ho]at a;have r:es.length≤1000:=ah9 ho;refine⟨es,0,?_,r,fun _=>ho⟩;rw[p]at g loop ⊢;simp[arX,J9,loop,g,a]
  |false=>
   rw[ho]at a;refine⟨[],200,?_,by simp,fun e=>by cases e⟩;rw[p]at g loop ⊢;simp[arX,J9,loop,g,a]
 refine⟨[],200,?_,by simp,fun e=>by cases e⟩;rw[p]at loop ⊢;simp[arX,J9,loop,y,B,u]
abbrev zE:wm:=⟨0,0,0,[]⟩
theorem ahs(root:EN):∃(es:List EN) (a:Int),bB I.qbs [root.a]=some (fy [jq es,ap a])∧es.length≤1000∧(a=0→wn es=true):=by
 obtain⟨es,a,h,d,b⟩:=QP root false [] (by simp) (by simp);refine⟨es,a,?_,d,b⟩;have c:root.a=aI [ap root.tag,ap root.l,ap root.r,ap root.col,ap root.v.k,ap root.v.n,.int .u64 root.v.u,aO root.v.s]:=rfl;rw[aT ahd rfl];rw[c]at h ⊢;simp only[bm]at h;simp[asF,aaq,h]
theorem agI(b:Int)(a:List EN)(d:a.length≤1000):∃(es:List EN) (c:Int),bB I.qbt [ap b,jq a]=some (fy [jq es,ap c])∧es.length≤1000∧(c=0→wn es=true):=by
 obtain⟨es,c,h,g,e⟩:=QP ⟨b,0,0,0,zE⟩ true [a] (by simp) (by simp[d]);refine⟨es,c,?_,g,e⟩;have f:(⟨b,0,0,0,zE⟩:EN).a=aI [ap b,ap 0,ap 0,ap 0,ap 0,ap 0,.int .u64 0,aO []]:=rfl;rw[aT amB rfl];rw[f]at h;simp only[aV,bm]at h;simp[auu,ae9,h]
theorem amo(c:Int)(a b:List EN)(e:a.length≤1000)(f:b.length≤1000):∃(es:List EN) (d:Int),bB I.qbv [ap c,jq a,jq b]=some (fy [jq es,ap d])∧es.length≤1000∧(d=0→wn es=true):=by
 obtain⟨es,d,h,j,g⟩:=QP ⟨c,0,0,0,zE⟩ true [a,b] (by simp) (by simp[e,f]);refine⟨es,d,?_,j,g⟩;have i:(⟨c,0,0,0,zE⟩:EN).a=aI [ap c,ap 0,ap 0,ap 0,ap 0,ap 0,.int .u64 0,aO []]:=rfl;rw[aT am7 rfl];rw[i]at h;simp only[aV,bm]at h;simp[atF,ago,h]
theorem NQ{c:Type}[DecidableEq c]:∀(a b:List c),a.length=b.length→(a.zip b).any (fun p=>!decide (p.1=p.2))=!decide (a=b)
 |[],[],_=>rfl
 |[],_::_,h=>by simp at h
 |_::_,[],h=>by simp at h
 |x::a,y::b,h=>by
  rw[fV,iI,NQ a b (by simpa using h)];by_cases e:x=y
  ·subst e;simp
  simp[e]
theorem abf(x y:EN):eqa true [0,0,0,0,0,0,0,2] x.a y.a=some (aC (!decide (x=y))):=by
 obtain⟨t,l,r,c,k,n,u,s⟩:=x;obtain⟨f,a,e,c',d,b,g,s'⟩:=y;simp[EN.a,eqa,wm.mk.injEq,EN.mk.injEq]
 repeat (split<;>simp_all)
theorem VQ(r n:Bool)(a c:List EN)(C:a.length≤bC):bB I.qgr [.aa r (a.map EN.a),.aa n (c.map EN.a)]=some (aC (decide (a=c))):=by
 rw[aT akT rfl];by_cases d:a.length=c.length
 rotate_left
 ·have m:((a.length:Int) != (c.length:Int))=true:=by simp;omega
  have i:decide (a=c)=false:=by simp;intro e;exact d (by rw[e])
  rw[i];simp[ar6,Uh,m]
 have z:(a.zip c).length=a.length:=by simp;omega
 have loop:=oA (base:=0) (clr:=[2,3,7,8]) (b:=Da) (a.zip c) (fun k=>⟨[.aa r (a.map EN.a),.aa n (c.map EN.a),am,am,aC false,ap a.length,ap k,am,am],[]⟩) (fun p=>!decide (p.1=p.2))
  (.ext 0,⟨[.aa r (a.map EN.a),.aa n (c.map EN.a),am,am,aC false,ap a.length,ap a.length,aC false,am],[]⟩) (fun o=>∃q,o=(.ret,q)∧q.env[2]?=some (aC false))
  (fun k p B t l=>by
   obtain⟨x,y⟩:=p;obtain⟨j,g⟩:=eW.1 t;have k1:k<a.length:=by omega
   have k2:k<c.length:=by omega
   have s:∀h:k<a.length,a[k]'h=x:=fun h=>(ak.1 j).2;have v:∀h:k<c.length,c[k]'h=y:=fun h=>(ak.1 g).2;have w:=cW k1 C;simp only at l;have f:=abf x y;rw[l]at f;unfold eqa at f;simp[Da,k1,k2,j,g,s,v,w,f,bQ])
  (fun k p B t l=>by
   obtain⟨x,y⟩:=p;obtain⟨j,g⟩:=eW.1 t;have k1:k<a.length:=by omega
   have k2:k<c.length:=by omega
   have s:∀h:k<a.length,a[k]'h=x:=fun h=>(ak.1 j).2;have v:∀h:k<c.length,c[k]'h=y:=fun h=>(ak.1 g).2;simp only at l;have f:=abf x y;rw[l]at f;unfold eqa at f;exact⟨_,by simp[Da,k1,k2,j,g,s,v,f];rfl,_,rfl,rfl⟩)
  (by rw[z];simp[Da])
 have m:((a.length:Int) != (c.length:Int))=false:=by simp;omega
 rw[NQ a c d]at loop;rcases loop with⟨u,loop⟩|⟨u,o,loop,q,rfl,A⟩
 ·have i:decide (a=c)=true:=by simpa using u
  rw[i];simp only[bj]at loop;simp[ar6,Uh,m,loop]
 have i:decide (a=c)=false:=by simpa using u
 rw[i];simp only[bj]at loop;simp[ar6,Uh,m,loop,A]
theorem aaQ(d c:Bool)(a b:List EN)(e:a.length≤bC):bB I.qbu [aI [.aa d (a.map EN.a)],aI [.aa c (b.map EN.a)]]=some (aC (decide (a=b))):=by
 rw[aT akk rfl];have k1:=VQ d c a b e;simp[auf,afU,k1]
theorem TU(d c:Bool)(a b:List EN)(e:a.length≤8000):bB I.qbu [aI [.aa d (a.map EN.a)],aI [.aa c (b.map EN.a)]]=some (aC (decide (a=b))):=aaQ d c a b (by unfold bC;omega)
def Kd{α:Type}(enc:α→aq)(P:α→Prop)(f:Nat):Prop:=∀σ id r,At σ id r→r.toks.length≤600→∃x r',cC code f [aH id 0 0 0] σ=some (enc x,σ.set id (gC r'))∧Le r' r∧P x
theorem yQ{a:Type}{enc:a→aq}{m:Nat}{g:Bool}[Nc enc m g][Fx enc](ep:Nat)(xs:List a)(b:Nat)(τ:aw):bw b τ (aB m ep (xs.map enc))=aB m ep (xs.map enc):=by
 have h:(xs.map enc).map (cn b τ)=xs.map enc:=by
  rw[bY];exact aW fun y _=>Fx.fx false true b τ 17 y
 simp only[bw,Kp,h];simp
theorem Jx{B:Type}{enc:B→aq}{P:B→Prop}[Nc enc 2 true][Fx enc](F:∀x,∃cs,enc x=aI cs∧cs.length=2)(f:Nat)(Y:Kd enc P f)(i:Nat)(ad:1≤i)(hm:i≤100){σ:aw}{id:Nat}{r:gf}(k:At σ id r)(h6:r.toks.length≤600) :
  ∃(xs:List B) (j:gf),cC code I.qev [aH id 0 0 0,ap i,.fn f [aH id 0 0 0] []] σ=some (.aa false (xs.map enc),σ.set id (gC j))∧Le j r∧xs.length≤i∧∀x∈xs,P x:=by
 have key:∀m (e:gf) (xs:List B) (ep:Nat),e.toks.length≤m→m≤600→1≤xs.length→xs.length≤i→(∀x∈xs,P x) →
   ∃(g:List B) (j:gf) (h:Nat) (c d:aq),bU code (σ.length+1) [5,6] zW ⟨[aH id 0 0 0,ap i,.fn f [aH id 0 0 0] [],.ai,.sl σ.length ep 0 xs.length,am,am],σ.set id (gC e)++[aB 2 ep (xs.map enc)]⟩ =
    some (.ext 0,⟨[aH id 0 0 0,ap i,.fn f [aH id 0 0 0] [],.ai,.sl σ.length h 0 g.length,c,d],σ.set id (gC j)++[aB 2 h (g.map enc)]⟩)∧Le j e∧g.length≤i∧∀x∈g,P x:=by
  intro m;induction m with
  |zero=>
   intro e xs ep hr _ _ K D;have h0:e.toks=[]:=cS.1 (by omega);have l:=Jw e 5 [44];have G:uU e 5 [[44]]=false:=by unfold uU;rw[h0]
   rw[G]at l;have C:=oT k (gC e);refine⟨xs,e,ep,aC false,am,?_,Le.rfl' e,K,D⟩;rw[aZ];simp[zW,C,eD,l]
  |succ m ih=>
   intro e xs ep hr af ab K D;have l:=Jw e 5 [44];have C:=oT k (gC e);have E:At (σ.set id (gC e)++[aB 2 ep (xs.map enc)]) id e:=(k.set e).app _ (fun τ b _=>by rw[aV,bm,yQ]);cases G:uU e 5 [[44]] with
   |false=>
    rw[G]at l;refine⟨xs,e,ep,aC false,am,?_,Le.rfl' e,K,D⟩;rw[aZ];simp[zW,C,eD,l]
   |true=>
    rw[G]at l;by_cases N:xs.length=i
    ·have A:((xs.length:Int)==(i:Int))=true:=by simp[N]
     have hp:=tq e;have H:=oJ E 191 (g7 e);rw[set_set k]at H;refine⟨xs,oz e 191 (g7 e),ep,aC true,aC true,?_,va e _ _,K,D⟩;rw[aZ];simp[zW,C,eD,l,A,hp,H]
    have A:((xs.length:Int)==(i:Int))=false:=by simp;omega
    obtain⟨t,W,hl⟩:=vb E G;rw[set_set k]at W;have U:At (σ.set id (gC e.nx)++[aB 2 ep (xs.map enc)]) id e.nx:=(k.set e.nx).app _ (fun τ b _=>by rw[aV,bm,yQ]);obtain⟨x,X,p,T,R⟩:=Y _ id e.nx U (by omega);rw[set_set k]at p;unfold Le at T
    obtain⟨g,j,h,c,d,J,L,h3,h4⟩:=ih X (xs++[x]) (ep+1) (by omega) (by omega) (by simp) (by simp;omega) (fun y q=>by
     rcases ba.1 q with q|q
     ·exact D y q
     rw[aP.1 q];exact R)
    refine⟨g,j,h,c,d,?_,by unfold Le at *;omega,h3,h4⟩;rw[←J,aZ];have w:aM (enc x)=2:=Nc.nc x;have z:List.take xs.length (xs.map enc)=xs.map enc:=ay (by simp);have M:xs.length+1≤bC:=by unfold bC;omega
    have V:(xs++[x]).map enc=xs.map enc++[enc x]:=by simp
    have O:=fun env=>cN (base:=σ.length+1) (clr:=[5,6]) (env:=env) (σ:=σ.set id (gC X)++[aB 2 (ep+1) (xs.map enc++[enc x])]) (by simp);rw[V];obtain⟨cs,s,u⟩:=F x;have n:=O;rw[s]at p n w ⊢;simp[zW,C,eD,l,A,W,p,u,w,append,z,M,n]
 obtain⟨x,e,J,l1,p1⟩:=Y σ id r k h6;unfold Le at l1;obtain⟨g,j,h,c,d,L,l2,l3,p2⟩:=key e.toks.length e [x] 0 (aF _) (by omega) (by simp) (by simp;omega) (fun y q=>by rw[aP.1 q];exact p1);refine⟨g,j,?_,by unfold Le at *;omega,l3,p2⟩;rw[cX alh rfl];have Z:=fun o t v=>dM k j o t v;have w:aM (enc x)=2:=Nc.nc x;have z:List.take g.length (g.map enc)=g.map enc:=ay (by simp);have ae:∀σ,(g.map enc).map (fz false false 0 σ 19)=g.map enc:=fun σ=>by
  rw[bY];exact aW fun y _=>Fx.fx false false 0 σ 16 y
 have Q:∀b σ,(g.map enc).map (fz false false b σ 19)=g.map enc:=fun b σ=>by
  rw[bY];exact aW fun y _=>Fx.fx false false b σ 16 y
 have S:∀b σ (a:B),fz false false b σ 19 (enc a)=enc a:=fun b σ a=>Fx.fx false false b σ 16 a;obtain⟨cs,s,u⟩:=F x;simp only[aV,bm,bA,bD]at L;rw[s]at J L;simp[auF,ae8,J,u,L,Z,cn,dE,z,Q,S]
theorem JC{B:Type}{enc:B→aq}{P:B→Prop}[Nc enc 2 true][Fx enc](F:∀x,∃cs,enc x=aI cs∧cs.length=2)(f:Nat)(Y:Kd enc P f)(i:Nat)(ad:1≤i)(hm:i≤100){σ:aw}{id:Nat}{r:gf}(k:At σ id r)(h6:r.toks.length≤600) :
  ∃(xs:List B) (j:gf),cC code I.qex [aH id 0 0 0,ap i,.fn f [aH id 0 0 0] []] σ=some (.aa false (xs.map enc),σ.set id (gC j))∧Le j r∧xs.length≤i∧∀x∈xs,P x:=by
 have key:∀m (e:gf) (xs:List B) (ep:Nat),e.toks.length≤m→m≤600→1≤xs.length→xs.length≤i→(∀x∈xs,P x) →
   ∃(g:List B) (j:gf) (h:Nat) (c d:aq),bU code (σ.length+1) [5,6] zI ⟨[aH id 0 0 0,ap i,.fn f [aH id 0 0 0] [],.ai,.sl σ.length ep 0 xs.length,am,am],σ.set id (gC e)++[aB 2 ep (xs.map enc)]⟩ =
    some (.ext 0,⟨[aH id 0 0 0,ap i,.fn f [aH id 0 0 0] [],.ai,.sl σ.length h 0 g.length,c,d],σ.set id (gC j)++[aB 2 h (g.map enc)]⟩)∧Le j e∧g.length≤i∧∀x∈g,P x:=by
  intro m;induction m with
  |zero=>
   intro e xs ep hr _ _ K D;have h0:e.toks=[]:=cS.1 (by omega);have l:=Jw e 5 [44];have G:uU e 5 [[44]]=false:=by unfold uU;rw[h0]
   rw[G]at l;have C:=oT k (gC e);refine⟨xs,e,ep,aC false,am,?_,Le.rfl' e,K,D⟩;rw[aZ];simp[zI,C,eD,l]
  |succ m ih=>
   intro e xs ep hr af ab K D;have l:=Jw e 5 [44];have C:=oT k (gC e);have E:At (σ.set id (gC e)++[aB 2 ep (xs.map enc)]) id e:=(k.set e).app _ (fun τ b _=>by rw[aV,bm,yQ]);cases G:uU e 5 [[44]] with
   |false=>
    rw[G]at l;refine⟨xs,e,ep,aC false,am,?_,Le.rfl' e,K,D⟩;rw[aZ];simp[zI,C,eD,l]
   |true=>
    rw[G]at l;by_cases N:xs.length=i
    ·have A:((xs.length:Int)==(i:Int))=true:=by simp[N]
     have hp:=tq e;have H:=oJ E 191 (g7 e);rw[set_set k]at H;refine⟨xs,oz e 191 (g7 e),ep,aC true,aC true,?_,va e _ _,K,D⟩;rw[aZ];simp[zI,C,eD,l,A,hp,H]
    have A:((xs.length:Int)==(i:Int))=false:=by simp;omega
    obtain⟨t,W,hl⟩:=vb E G;rw[set_set k]at W;have U:At (σ.set id (gC e.nx)++[aB 2 ep (xs.map enc)]) id e.nx:=(k.set e.nx).app _ (fun τ b _=>by rw[aV,bm,yQ]);obtain⟨x,X,p,T,R⟩:=Y _ id e.nx U (by omega);rw[set_set k]at p;unfold Le at T
    obtain⟨g,j,h,c,d,J,L,h3,h4⟩:=ih X (xs++[x]) (ep+1) (by omega) (by omega) (by simp) (by simp;omega) (fun y q=>by
     rcases ba.1 q with q|q
     ·exact D y q
     rw[aP.1 q];exact R)
    refine⟨g,j,h,c,d,?_,by unfold Le at *;omega,h3,h4⟩;rw[←J,aZ];have w:aM (enc x)=2:=Nc.nc x;have z:List.take xs.length (xs.map enc)=xs.map enc:=ay (by simp);have M:xs.length+1≤bC:=by unfold bC;omega
    have V:(xs++[x]).map enc=xs.map enc++[enc x]:=by simp
    have O:=fun env=>cN (base:=σ.length+1) (clr:=[5,6]) (env:=env) (σ:=σ.set id (gC X)++[aB 2 (ep+1) (xs.map enc++[enc x])]) (by simp);rw[V];obtain⟨cs,s,u⟩:=F x;have n:=O;rw[s]at p n w ⊢;simp[zI,C,eD,l,A,W,p,u,w,append,z,M,n]
 obtain⟨x,e,J,l1,p1⟩:=Y σ id r k h6;unfold Le at l1;obtain⟨g,j,h,c,d,L,l2,l3,p2⟩:=key e.toks.length e [x] 0 (aF _) (by omega) (by simp) (by simp;omega) (fun y q=>by rw[aP.1 q];exact p1);refine⟨g,j,?_,by unfold Le at *;omega,l3,p2⟩;rw[cX aox rfl];have Z:=fun o t v=>dM k j o t v;have w:aM (enc x)=2:=Nc.nc x;have z:List.take g.length (g.map enc)=g.map enc:=ay (by simp);have ae:∀σ,(g.map enc).map (fz false false 0 σ 19)=g.map enc:=fun σ=>by
  rw[bY];exact aW fun y _=>Fx.fx false false 0 σ 16 y
 have Q:∀b σ,(g.map enc).map (fz false false b σ 19)=g.map enc:=fun b σ=>by
  rw[bY];exact aW fun y _=>Fx.fx false false b σ 16 y
 have S:∀b σ (a:B),fz false false b σ 19 (enc a)=enc a:=fun b σ a=>Fx.fx false false b σ 16 a;obtain⟨cs,s,u⟩:=F x;simp only[aV,bm,bA,bD]at L;rw[s]at J L;simp[auT,af4,J,u,L,Z,cn,dE,z,Q,S]
theorem LH{B:Type}{enc:B→aq}{P:B→Prop}[Nc enc 3 true][Fx enc](F:∀x,∃cs,enc x=aI cs∧cs.length=3)(f:Nat)(Y:Kd enc P f)(i:Nat)(ad:1≤i)(hm:i≤100){σ:aw}{id:Nat}{r:gf}(k:At σ id r)(h6:r.toks.length≤600) :
  ∃(xs:List B) (j:gf),cC code I.qew [aH id 0 0 0,ap i,.fn f [aH id 0 0 0] []] σ=some (.aa false (xs.map enc),σ.set id (gC j))∧Le j r∧xs.length≤i∧∀x∈xs,P x:=by
 have key:∀m (e:gf) (xs:List B) (ep:Nat),e.toks.length≤m→m≤600→1≤xs.length→xs.length≤i→(∀x∈xs,P x) →
   ∃(g:List B) (j:gf) (h:Nat) (c d:aq),bU code (σ.length+1) [5,6] zZ ⟨[aH id 0 0 0,ap i,.fn f [aH id 0 0 0] [],.ai,.sl σ.length ep 0 xs.length,am,am],σ.set id (gC e)++[aB 3 ep (xs.map enc)]⟩ =
    some (.ext 0,⟨[aH id 0 0 0,ap i,.fn f [aH id 0 0 0] [],.ai,.sl σ.length h 0 g.length,c,d],σ.set id (gC j)++[aB 3 h (g.map enc)]⟩)∧Le j e∧g.length≤i∧∀x∈g,P x:=by
  intro m;induction m with
  |zero=>
   intro e xs ep hr _ _ K D;have h0:e.toks=[]:=cS.1 (by omega);have l:=Jw e 5 [44];have G:uU e 5 [[44]]=false:=by unfold uU;rw[h0]
   rw[G]at l;have C:=oT k (gC e);refine⟨xs,e,ep,aC false,am,?_,Le.rfl' e,K,D⟩;rw[aZ];simp[zZ,C,eD,l]
  |succ m ih=>
   intro e xs ep hr af ab K D;have l:=Jw e 5 [44];have C:=oT k (gC e);have E:At (σ.set id (gC e)++[aB 3 ep (xs.map enc)]) id e:=(k.set e).app _ (fun τ b _=>by rw[aV,bm,yQ]);cases G:uU e 5 [[44]] with
   |false=>
    rw[G]at l;refine⟨xs,e,ep,aC false,am,?_,Le.rfl' e,K,D⟩;rw[aZ];simp[zZ,C,eD,l]
   |true=>
    rw[G]at l;by_cases N:xs.length=i
    ·have A:((xs.length:Int)==(i:Int))=true:=by simp[N]
     have hp:=tq e;have H:=oJ E 191 (g7 e);rw[set_set k]at H;refine⟨xs,oz e 191 (g7 e),ep,aC true,aC true,?_,va e _ _,K,D⟩;rw[aZ];simp[zZ,C,eD,l,A,hp,H]
    have A:((xs.length:Int)==(i:Int))=false:=by simp;omega
    obtain⟨t,W,hl⟩:=vb E G;rw[set_set k]at W;have U:At (σ.set id (gC e.nx)++[aB 3 ep (xs.map enc)]) id e.nx:=(k.set e.nx).app _ (fun τ b _=>by rw[aV,bm,yQ]);obtain⟨x,X,p,T,R⟩:=Y _ id e.nx U (by omega);rw[set_set k]at p;unfold Le at T
    obtain⟨g,j,h,c,d,J,L,h3,h4⟩:=ih X (xs++[x]) (ep+1) (by omega) (by omega) (by simp) (by simp;omega) (fun y q=>by
     rcases ba.1 q with q|q
     ·exact D y q
     rw[aP.1 q];exact R)
    refine⟨g,j,h,c,d,?_,by unfold Le at *;omega,h3,h4⟩;rw[←J,aZ];have w:aM (enc x)=3:=Nc.nc x;have z:List.take xs.length (xs.map enc)=xs.map enc:=ay (by simp);have M:xs.length+1≤bC:=by unfold bC;omega
    have V:(xs++[x]).map enc=xs.map enc++[enc x]:=by simp
    have O:=fun env=>cN (base:=σ.length+1) (clr:=[5,6]) (env:=env) (σ:=σ.set id (gC X)++[aB 3 (ep+1) (xs.map enc++[enc x])]) (by simp);rw[V];obtain⟨cs,s,u⟩:=F x;have n:=O;rw[s]at p n w ⊢;simp[zZ,C,eD,l,A,W,p,u,w,append,z,M,n]
 obtain⟨x,e,J,l1,p1⟩:=Y σ id r k h6;unfold Le at l1;obtain⟨g,j,h,c,d,L,l2,l3,p2⟩:=key e.toks.length e [x] 0 (aF _) (by omega) (by simp) (by simp;omega) (fun y q=>by rw[aP.1 q];exact p1);refine⟨g,j,?_,by unfold Le at *;omega,l3,p2⟩;rw[cX akr rfl];have Z:=fun o t v=>dM k j o t v;have w:aM (enc x)=3:=Nc.nc x;have z:List.take g.length (g.map enc)=g.map enc:=ay (by simp);have ae:∀σ,(g.map enc).map (fz false false 0 σ 19)=g.map enc:=fun σ=>by
  rw[bY];exact aW fun y _=>Fx.fx false false 0 σ 16 y
 have Q:∀b σ,(g.map enc).map (fz false false b σ 19)=g.map enc:=fun b σ=>by
  rw[bY];exact aW fun y _=>Fx.fx false false b σ 16 y
 have S:∀b σ (a:B),fz false false b σ 19 (enc a)=enc a:=fun b σ a=>Fx.fx false false b σ 16 a;obtain⟨cs,s,u⟩:=F x;simp only[aV,bm,bA,bD]at L;rw[s]at J L;simp[aud,af1,J,u,L,Z,cn,dE,z,Q,S]
abbrev RH(ns:List eP):aq:=aI [gQ ns]
theorem zL{σ:aw}{id:Nat}{r:gf}(d:At σ id r)(z:r.toks.length≤600):∃c x,cC code I.qfx [aH id 0 0 0] σ=some (RH c,σ.set id (gC x))∧Le x r∧c.length≤1300:=by
 have q:At (σ++[aB 1 0 [aI [.ai]]]) id r:=d.app _ (fun τ b _=>by simp[bw,cn,dE]);obtain⟨c,a,l,n,A⟩:=apD q z;rw[tu d]at l;have w:=tq r;have h:=Mf d;have g:=oT d (gC a);obtain⟨e,y,_⟩:=aaE false c (by omega);have u:At (σ.set id (gC a)++[aB 1 0 [aI [.ai]],aB 1 0 [RH c]]) id a:=(d.set a).app _ (fun τ b _=>by simp[bw,cn,dE]);have k:=oJ u 192 (g7 r);rw[set_set d]at k;have j:=fun o t v=>dM d a o t v;have p:=fun o t v=>dM d (oz a 192 (g7 r)) o t v;have s:a.v=aI [.aa false (a.toks.map vd.a),ap a.en,ap a.at',ap a.er]:=rfl;by_cases m:a.er=0
 ·by_cases i:e=0
  ·have f:(e != 0)=false:=by simpa using i
   refine⟨c,a,?_,n,by omega⟩;rw[cX Yi rfl];simp[ash,U6,h,eD,w,l,g,s,m,y,f,j,cn,dE]
  have f:(e != 0)=true:=by simpa using i
  refine⟨c,oz a 192 (g7 r),?_,(va a _ _).trans n,by omega⟩;rw[cX Yi rfl];simp[ash,U6,h,eD,w,l,g,s,m,y,f,k,p,cn,dE]
 refine⟨c,a,?_,n,by omega⟩;rw[cX Yi rfl];simp[ash,U6,h,eD,w,l,g,s,m,j,cn,dE]
structure pY where
 ns:List eP
 as':List UInt8
 h:ns.length≤1300
def pY.a(x:pY):aq:=aI [gQ x.ns,aO x.as']
instance:Nc pY.a 2 true:=⟨fun _=>rfl,fun _=>rfl⟩
instance:Fx pY.a:=⟨fun fl top base σ m x=>by simp[pY.a]⟩
structure B3 where
 name:List UInt8
 number:Int
 desc:Bool
def B3.a(x:B3):aq:=aI [aO x.name,ap x.number,aC x.desc]
instance:Nc B3.a 3 true:=⟨fun _=>rfl,fun _=>rfl⟩
instance:Fx B3.a:=⟨fun fl top base σ m x=>by simp[B3.a]⟩
theorem SF:Kd pY.a (fun _=>True) I.qfe:=by
 intro σ id r a s;have f:At (σ++[aB 2 0 [aI [.ai,aO []]]]) id r:=a.app _ (fun τ b _=>by simp[bw,cn,dE]);obtain⟨d,h,g,l,n⟩:=zL f s;rw[tu a]at g;have j:At (σ.set id (gC h)++[aB 2 0 [aI [.ai,aO []]],aB 2 0 [aI [gQ d,aO []]]]) id h:=(a.set h).app _ (fun τ b _=>by simp[bw,cn,dE]);obtain⟨b,c,k,m,u⟩:=jB j 1 [65,83];rw[set_set a]at k;unfold Le at l;cases b with
 |false=>
  obtain rfl:=u rfl;refine⟨⟨d,[],n⟩,c,?_,l,trivial⟩;have i:=fun o t v=>dM a c o t v;rw[cX agK rfl];simp[ass,abj,g,k,i,cn,dE,pY.a]
 |true=>
  have m:=m rfl;have e:At (σ.set id (gC c)++[aB 2 0 [aI [.ai,aO []]],aB 2 0 [aI [gQ d,aO []]]]) id c:=(a.set c).app _ (fun τ b _=>by simp[bw,cn,dE]);obtain⟨t,p,q,w⟩:=EL e 2;rw[set_set a]at q;unfold Le at w;refine⟨⟨d,t.t,n⟩,p,?_,by unfold Le;omega,trivial⟩;have i:=fun o t v=>dM a p o t v;rw[cX agK rfl];simp[ass,abj,g,k,q,i,cn,dE,pY.a]
theorem Rs:Kd uV.a (fun _=>True) I.qfi:=by
 intro σ id r a c;obtain⟨n,b,h,l⟩:=Kc a;exact⟨n,b,h,l,trivial⟩
theorem Fk{σ:aw}{id:Nat}{r:gf}(d:At σ id r):∃(t a:List UInt8) (m:gf),cC code I.qft [aH id 0 0 0] σ=some (aI [aO t,aO a],σ.set id (gC m))∧Le m r:=by
 have g:At (σ++[aB 2 0 [aI [aO [],aO []]]]) id r:=d.app _ (fun τ b _=>by simp[bw,cn,dE]);obtain⟨h,c,i,n⟩:=EL g 2;rw[tu d]at i;have k:At (σ.set id (gC c)++[aB 2 0 [aI [aO [],aO []]],aB 2 0 [aI [aO h.t,aO []]]]) id c:=(d.set c).app _ (fun τ b _=>by simp[bw,cn,dE]);have e:=oT d (gC c);have f:=Ob c 2;unfold Le at *;cases b2:uU c 2 [] with
 |false=>
  rw[b2]at f;refine⟨h.t,[],c,?_,n⟩;have j:=fun o t v=>dM d c o t v;rw[cX afs rfl];simp[atk,Yl,i,e,eD,f,j,cn,dE]
 |true=>
  rw[b2]at f;obtain⟨t,l,p⟩:=vb k b2;rw[set_set d]at l;refine⟨h.t,t.t,c.nx,?_,by omega⟩;have j:=fun o t v=>dM d c.nx o t v;rw[cX afs rfl];simp[atk,Yl,i,e,eD,f,l,j,cn,dE]
theorem Fe{σ:aw}{id:Nat}{r:gf}(d:At σ id r):∃(n:Int) (i:gf),cC code I.qfl [aH id 0 0 0] σ=some (ap n,σ.set id (gC i))∧Le i r:=by
 have j:=tq r;have h:=d.get;obtain⟨c,b,g,e⟩:=EL d 3;have a:=oJ (d.set b) 190 (g7 r);rw[ew]at a;by_cases f:(2147483647:Int)<c.n
 ·refine⟨IntKind.i64.wrap c.n,oz b 190 (g7 r),?_,(va b _ _).trans e⟩;rw[cX aeL rfl];simp[asK,abE,h,eD,j,g,f,a,fD]
 refine⟨IntKind.i64.wrap c.n,b,?_,e⟩;rw[cX aeL rfl];simp[asK,abE,h,eD,j,g,f,fD]
theorem FX{base:Nat}{clr:List Nat}{env:List aq}{σ:aw}{o:Obj}{t:aw}(h:σ.length=base)(c:ahZ σ)(a:clr.head?≠some 9999):bQ base clr ⟨env,σ++o::t⟩=⟨(clear env clr).map (cn base (σ++o::t)),σ⟩:=by
 unfold bQ;rw[if_neg (by simp[h];exact a)];have b:(σ++o::t).take base=σ:=gg h;simp only[b,c _ base (by omega)]
structure pb where
 left:Bool
 table:List UInt8
 as':List UInt8
 on:List eP
 h:on.length≤1300
def pb.a(x:pb):aq:=aI [aC x.left,aO x.table,aO x.as',gQ x.on]
instance:Nc pb.a 4 true:=⟨fun _=>rfl,fun _=>rfl⟩
instance:Fx pb.a:=⟨fun fl top base σ m x=>by simp[pb.a]⟩
theorem alz(r:gf)(a:Int)(s t:List UInt8):bB I.qfd [.cptr true r.v 0,ap a,.aa true [aO s,aO t]]=some (aC (uU r a [s,t])):=ada true r a [s,t] (by simp)
theorem Ql{σ:aw}{id:Nat}{r:gf}(f:At σ id r)(F:r.toks.length≤600):∃(N:List pb) (i:gf),cC code I.qff [aH id 0 0 0] σ=some (.aa false (N.map pb.a),σ.set id (gC i))∧Le i r∧N.length≤2:=by
 have s:∀(e:gf) (ep:Nat) (xs:List pb),At (σ.set id (gC e)++[aB 4 ep (xs.map pb.a)]) id e:=fun e ep xs=>(f.set e).app _ (fun τ b _=>by rw[aV,bm,yQ]);have key:∀m (e:gf) (xs:List pb) (ep:Nat),xs.length+m=2→e.toks.length≤600 →
   ∃(g:List pb) (i:gf) (h:Nat) (c d:aq),bU code (σ.length+1) [3,4,5] Az ⟨[aH id 0 0 0,.ai,.sl σ.length ep 0 xs.length,am,am,am],σ.set id (gC e)++[aB 4 ep (xs.map pb.a)]⟩ =
    some (.ext 0,⟨[aH id 0 0 0,.ai,.sl σ.length h 0 g.length,am,c,d],σ.set id (gC i)++[aB 4 h (g.map pb.a)]⟩)∧Le i e∧g.length≤2:=by
  intro m;induction m with
  |zero=>
   intro e xs ep Y F;have j:=alz e 1 [76,69,70,84] [74,79,73,78];have w:=oT f (gC e);cases hb:uU e 1 [[76,69,70,84],[74,79,73,78]] with
   |false=>
    rw[hb]at j;refine⟨xs,e,ep,aC false,am,?_,Le.rfl' e,by omega⟩;rw[aZ];simp[Az,w,eD,j]
   |true=>
    rw[hb]at j;have q:((xs.length:Int)==2)=true:=by simp;omega
    have U:=tq e;have x:=oJ (s e ep xs) 191 (g7 e);rw[set_set f]at x;refine⟨xs,oz e 191 (g7 e),ep,aC true,aC true,?_,va e _ _,by omega⟩;rw[aZ];simp[Az,w,eD,j,q,U,x]
  |succ m ih=>
   intro e xs ep Y F;have j:=alz e 1 [76,69,70,84] [74,79,73,78];have w:=oT f (gC e);cases hb:uU e 1 [[76,69,70,84],[74,79,73,78]] with
   |false=>
    rw[hb]at j;refine⟨xs,e,ep,aC false,am,?_,Le.rfl' e,by omega⟩;rw[aZ];simp[Az,w,eD,j]
   |true=>
    rw[hb]at j;have q:((xs.length:Int)==2)=false:=by simp;omega
    have k:∀(e:gf) (l:Bool) (t a:List UInt8) (o:aq) (O:∀b τ m,fz false true b τ (m+3) o=o),At (σ.set id (gC e)++[aB 4 ep (xs.map pb.a),aB 4 0 [aI [aC l,aO t,aO a,o]]]) id e:=fun e l t a o O=>(f.set e).app _ (fun τ b _=>by
     rw[aV,aV,bm,yQ];simp[bw,cn,dE,O])
    obtain⟨b,K,u,B,D⟩:=jB (s e ep xs) 1 [76,69,70,84];rw[set_set f]at u
    have W:K.toks.length≤e.toks.length:=by cases b with
     |true=>have:=B rfl;omega
     |false=>rw[D rfl];exact aF _
    obtain⟨t3,r3,Q,l4⟩:=oQ (k K b [] [] .ai (fun b τ m=>by simp)) 1 [74,79,73,78];rw[set_set f]at Q;unfold Le at l4;obtain⟨t,a,r4,R,X⟩:=Fk (k r3 b [] [] .ai (fun b τ m=>by simp));rw[set_set f]at R;unfold Le at X;obtain⟨t5,r5,M,T⟩:=oQ (k r4 b t a .ai (fun b τ m=>by simp)) 1 [79,78];rw[set_set f]at M;unfold Le at T;obtain⟨z,L,P,Z,H⟩:=zL (k r5 b t a .ai (fun b τ m=>by simp)) (by omega);rw[set_set f]at P;unfold Le at Z;obtain⟨g,i,h,c,d,V,e2,e3⟩:=ih L (xs++[⟨b,t,a,z,H⟩]) (ep+1) (by simp;omega) (by omega);refine⟨g,i,h,c,d,?_,by unfold Le at *;omega,e3⟩;rw[←V,aZ];have p:List.take xs.length (xs.map pb.a)=xs.map pb.a:=ay (by simp);have A:xs.length+1≤bC:=by unfold bC;omega
    have J:(xs++[(⟨b,t,a,z,H⟩:pb)]).map pb.a=xs.map pb.a++[aI [aC b,aO t,aO a,gQ z]]:=by simp[pb.a]
    have hF:=(s L (ep+1) (xs++[⟨b,t,a,z,H⟩])).firm;have n:=fun env o=>FX (base:=σ.length+1) (clr:=[3,4,5]) (env:=env) (o:=o) (t:=[]) (by simp) hF (by simp);rw[J]at n ⊢;simp only[dG,bX,bT]at n;have E:∀y:aq,(if id<σ.length+1 then aq.ptr id 0 0 0 else y)=aq.ptr id 0 0 0:=fun y=>if_pos (by have:=f.lt;omega);simp[Az,w,eD,j,q,u,Q,R,M,P,append,p,A,n,cn,dE,E]
 obtain⟨g,i,h,c,d,u,B,D⟩:=key 2 r [] 0 rfl F;rw[f.same]at u;refine⟨g,i,?_,B,D⟩;rw[cX alm rfl];have S:=fun o t v=>dM f i o t v;have p:List.take g.length (g.map pb.a)=g.map pb.a:=ay (by simp);have C:∀b σ,(g.map pb.a).map (fz false false b σ 19)=g.map pb.a:=fun b σ=>by
  rw[bY];exact aW fun y _=>Fx.fx false false b σ 16 y
 have G:∀b σ (a:pb),fz false false b σ 19 a.a=a.a:=fun b σ a=>Fx.fx false false b σ 16 a;simp only[bm,bD]at u;simp[auJ,aez,u,S,cn,dE,p,C,G]
def sv(o:Option (List aq)):aq:=match o with
 |none=>.ai
 |some l=>.aa false l
theorem Kn(o:Option (List aq))(b:Nat)(τ:aw)(m:Nat):fz false true b τ (m+3) (sv o)=sv o:=by cases o<;>simp[sv]
theorem vq(o:Option (List aq)):aM (sv o)=1∧isAgg (sv o)=false:=by cases o<;>exact⟨rfl,rfl⟩
theorem RZ(o:Option (List aq))(b:Nat)(τ:aw)(m:Nat):fz false false b τ (m+3) (sv o)=.aa false (o.getD []):=by cases o<;>simp[sv]
theorem Na(l:List aq):aq.aa false l=sv (some l):=rfl
abbrev rx(d s:Bool)(i:Option (List aq))(t a:List UInt8)(j w h g:Option (List aq)):aq:=aI [aC d,aC s,sv i,aO t,aO a,sv j,sv w,sv h,sv g]
abbrev QJ:aq:=aI [aC false,aC false,.ai,aO [],aO [],.ai,.ai,.ai,.ai]
abbrev re(σ:aw)(id:Nat)(x3 x4 x5 x6:aq):List aq:=[aH id 0 0 0,aH σ.length 0 0 0,aH (σ.length+1) 0 0 0,x3,x4,x5,x6]
abbrev Lg(v:aq):aw:=[aB 9 0 [QJ],aB 9 0 [v]]
theorem aic(d s:Bool)(i:Option (List aq))(t a:List UInt8)(j w h g:Option (List aq))(b:Nat)(τ:aw):(Lg (rx d s i t a j w h g)).map (bw b τ)=Lg (rx d s i t a j w h g):=by
 simp[bw,cn,dE,Kn]
theorem xR{σ:aw}{id:Nat}{c:gf}(e:At σ id c)(r:gf)(d s:Bool)(i:Option (List aq))(t a:List UInt8)(j w h g:Option (List aq)):At (σ.set id (gC r)++Lg (rx d s i t a j w h g)) id r:=(e.set r).app _ (fun τ b _=>aic d s i t a j w h g b τ)
theorem acr{σ:aw}{id:Nat}{o:gf}(f:At σ id o)(r:gf)(d s:Bool)(i:Option (List aq))(t a:List UInt8)(j w h g:Option (List aq))(b l e k:aq):∃m,run code jY ⟨re σ id b l e k,σ.set id (gC r)++Lg (rx d s i t a j w h g)⟩=some (.nrm,⟨re σ id b l e k,σ.set id (gC m)++Lg (rx d s i t a j w h g)⟩)∧Le m r:=by
 obtain⟨q,p,c,n⟩:=oQ (xR f r d s i t a j w h g) 1 [70,82,79,77];rw[set_set f]at c;exact⟨p,by simp[jY,c],n⟩
theorem acH{σ:aw}{id:Nat}{q:gf}(f:At σ id q)(r:gf)(d s:Bool)(i:Option (List aq))(t a:List UInt8)(j w h g:Option (List aq))(b l e k:aq):∃x n m,run code jS ⟨re σ id b l e k,σ.set id (gC r)++Lg (rx d s i t a j w h g)⟩=some (.nrm,⟨re σ id b l e k,σ.set id (gC m)++Lg (rx d s i x n j w h g)⟩)∧Le m r:=by
 obtain⟨p,u,v,c,o⟩:=Fk (xR f r d s i t a j w h g);rw[set_set f]at c;exact⟨p,u,v,by simp[jS,c],o⟩
theorem XK{σ:aw}{id:Nat}{q:gf}(k:At σ id q)(r:gf)(o:r.toks.length≤600)(d s:Bool)(i:Option (List aq))(t a:List UInt8)(j w h g:Option (List aq))(c m f l:aq):∃(b:List pb) (n:gf),run code kf ⟨re σ id c m f l,σ.set id (gC r)++Lg (rx d s i t a j w h g)⟩=some (.nrm,⟨re σ id c m f l,σ.set id (gC n)++Lg (rx d s i t a (some (b.map pb.a)) w h g)⟩)∧Le n r∧b.length≤2:=by
 obtain⟨b,u,e,p,v⟩:=Ql (xR k r d s i t a j w h g) o;rw[set_set k]at e;refine⟨b,u,?_,p,v⟩;have x:=vq j;simp[kf,e,←Na]
theorem aa8{σ:aw}{id:Nat}{w:gf}(c:At σ id w)(r:gf)(B:r.toks.length≤600)(d s:Bool)(i:Option (List aq))(t a:List UInt8)(j h g:Option (List aq))(p x k l:aq):∃(b:Bool) (o:Option (List eP)) (m:gf),run code ic ⟨re σ id p x k l,σ.set id (gC r)++Lg (rx d s i t a j none h g)⟩=some (.nrm,⟨re σ id p (aC b) k l,σ.set id (gC m)++Lg (rx d s i t a j (o.map (·.map eP.a)) h g)⟩)∧Le m r∧(o.getD []).length≤1300:=by
 obtain⟨b,e,f,n,u⟩:=jB (xR c r d s i t a j none h g) 1 [87,72,69,82,69];rw[set_set c]at f;cases b with
 |false=>
  obtain rfl:=u rfl;exact⟨false,none,e,by simp[ic,f],Le.rfl' e,by simp⟩
 |true=>
  have n:=n rfl;obtain⟨v,z,q,A,y⟩:=zL (xR c e d s i t a j none h g) (by omega);rw[set_set c]at q;unfold Le at A;refine⟨true,some v,z,?_,by unfold Le;omega,y⟩;simp[ic,f,q,sv]
theorem aa7{σ:aw}{id:Nat}{z:gf}(c:At σ id z)(r:gf)(E:r.toks.length≤600)(d s:Bool)(i:Option (List aq))(t a:List UInt8)(j w h:Option (List aq))(q l y k:aq):∃(b:Bool) (o:Option (List uV)) (m:gf),run code gY ⟨re σ id q l y k,σ.set id (gC r)++Lg (rx d s i t a j w h none)⟩=some (.nrm,⟨re σ id q l (aC b) k,σ.set id (gC m)++Lg (rx d s i t a j w h (o.map (·.map uV.a)))⟩)∧Le m r∧(o.getD []).length≤3:=by
 obtain⟨b,e,g,p,v⟩:=jB (xR c r d s i t a j w h none) 1 [71,82,79,85,80];rw[set_set c]at g;cases b with
 |false=>
  obtain rfl:=v rfl;exact⟨false,none,e,by simp[gY,g],Le.rfl' e,by simp⟩
 |true=>
  have p:=p rfl;obtain⟨F,A,u,C⟩:=oQ (xR c e d s i t a j w h none) 1 [66,89];rw[set_set c]at u;unfold Le at C;obtain⟨x,B,f,D,n3,_⟩:=JC (enc:=uV.a) (fun n=>⟨_,rfl,rfl⟩) I.qfi Rs 3 (by omega) (by omega) (xR c A d s i t a j w h none) (by omega);rw[set_set c]at f;unfold Le at D;refine⟨true,some x,B,?_,by unfold Le;omega,n3⟩;rw[show ((3:Nat):Int)=3 from rfl]at f;simp[gY,g,u,f,sv]
theorem WZ{σ:aw}{id:Nat}{v:gf}(c:At σ id v)(r:gf)(B:r.toks.length≤600)(d s:Bool)(i:Option (List aq))(t a:List UInt8)(j w g:Option (List aq))(n k h x:aq):∃(b:Bool) (o:Option (List eP)) (l:gf),run code hY ⟨re σ id n k h x,σ.set id (gC r)++Lg (rx d s i t a j w none g)⟩=some (.nrm,⟨re σ id n k h (aC b),σ.set id (gC l)++Lg (rx d s i t a j w (o.map (·.map eP.a)) g)⟩)∧Le l r∧(o.getD []).length≤1300:=by
 obtain⟨b,e,f,m,q⟩:=jB (xR c r d s i t a j w none g) 1 [72,65,86,73,78,71];rw[set_set c]at f;cases b with
 |false=>
  obtain rfl:=q rfl;exact⟨false,none,e,by simp[hY,f],Le.rfl' e,by simp⟩
 |true=>
  have m:=m rfl;obtain⟨u,z,p,A,y⟩:=zL (xR c e d s i t a j w none g) (by omega);rw[set_set c]at p;unfold Le at A;refine⟨true,some u,z,?_,by unfold Le;omega,y⟩;simp[hY,f,p,sv]
theorem YP{σ:aw}{id:Nat}{y:gf}(c:At σ id y)(r:gf)(u:r.toks.length≤600)(d s:Bool)(t a:List UInt8)(j w h g:Option (List aq))(z m i l:aq):∃(b st:Bool) (o:Option (List pY)) (p:gf),run code gZ ⟨re σ id z m i l,σ.set id (gC r)++Lg (rx d s none t a j w h g)⟩=some (.nrm,⟨re σ id (aC b) m i l,σ.set id (gC p)++Lg (rx d st (o.map (·.map pY.a)) t a j w h g)⟩)∧Le p r∧(o.getD []).length≤6:=by
 obtain⟨b,k,f,q,v⟩:=jB (xR c r d s none t a j w h g) 5 [42];rw[set_set c]at f;cases b with
 |true=>
  have q:=q rfl;exact⟨false,true,none,k,by simp[gZ,f],by unfold Le;omega,by simp⟩
 |false=>
  obtain rfl:=v rfl;obtain⟨x,A,e,B,n3,_⟩:=Jx (enc:=pY.a) (fun n=>⟨_,rfl,rfl⟩) I.qfe SF 6 (by omega) (by omega) (xR c k d false none t a j w h g) u;rw[set_set c]at e;refine⟨true,false,some x,A,?_,B,n3⟩;rw[show ((6:Nat):Int)=6 from rfl]at e;simp[gZ,f,e,←Na]
structure mI where
 distinct:Bool
 star:Bool
 items:Option (List pY)
 table:List UInt8
 as':List UInt8
 joins:List pb
 whr:Option (List eP)
 having:Option (List eP)
 group:Option (List uV)
 hi:(items.getD []).length≤6
 hj:joins.length≤2
 hw:(whr.getD []).length≤1300
 hh:(having.getD []).length≤1300
 hg:(group.getD []).length≤3
def mI.r(x:mI):aq:=rx x.distinct x.star (x.items.map (·.map pY.a)) x.table x.as' (some (x.joins.map pb.a)) (x.whr.map (·.map eP.a)) (x.having.map (·.map eP.a)) (x.group.map (·.map uV.a))
def mI.a(x:mI):aq:=aI [aC x.distinct,aC x.star,.aa false ((x.items.getD []).map pY.a),aO x.table,aO x.as',.aa false (x.joins.map pb.a),gQ (x.whr.getD []),gQ (x.having.getD []),.aa false ((x.group.getD []).map uV.a)]
instance:Nc mI.a 9 true:=⟨fun _=>rfl,fun _=>rfl⟩
instance:Fx mI.a:=⟨fun fl top base σ m x=>by simp[mI.a]⟩
theorem mI.r_top(x:mI)(b:Nat)(τ:aw)(m:Nat):fz false true b τ (m+4) x.r=x.r:=by simp[mI.r,Kn]
theorem IB{a b:Type}(f:a→b)(o:Option (List a)):(o.map (·.map f)).getD []=(o.getD []).map f:=by cases o<;>rfl
theorem mI.r_fz(x:mI)(b:Nat)(τ:aw)(m:Nat):fz false false b τ (m+4) x.r=x.a:=by simp[mI.r,mI.a,RZ,IB]
theorem Ce{σ:aw}{id:Nat}{r:gf}(g:At σ id r)(h6:r.toks.length≤600):∃(s:mI) (J:gf),cC code I.qfr [aH id 0 0 0] σ=some (s.r,σ.set id (gC J))∧Le J r:=by
 have A:At (σ++[aB 9 0 [QJ]]) id r:=g.app _ (fun τ b _=>by simp[bw,cn,dE]);obtain⟨t1,l,G,l1⟩:=oQ A 1 [83,69,76,69,67,84];rw[tu g]at G;have D:At (σ.set id (gC l)++[aB 9 0 [QJ]]) id l:=(g.set l).app _ (fun τ b _=>by simp[bw,cn,dE]);obtain⟨d,x,L,O,w⟩:=jB D 1 [68,73,83,84,73,78,67,84];rw[set_set g]at L;unfold Le at *
 have T:x.toks.length≤l.toks.length:=by cases d with
  |true=>have:=O rfl;omega
  |false=>rw[w rfl];exact aF _
 obtain⟨j,st,a,r3,Y,l3,n3⟩:=YP g x (by omega) d false [] [] none none none none am am am am;unfold Le at *;obtain⟨Z,h4,l4⟩:=acr g r3 d st (a.map (·.map pY.a)) [] [] none none none none (aC j) am am am;unfold Le at *;obtain⟨e,c,r5,V,l5⟩:=acH g Z d st (a.map (·.map pY.a)) [] [] none none none none (aC j) am am am;unfold Le at *;obtain⟨f,r6,y,l6,M⟩:=XK g r5 (by omega) d st (a.map (·.map pY.a)) e c none none none none (aC j) am am am;unfold Le at *;obtain⟨m,h,U,X,l7,H⟩:=aa8 g r6 (by omega) d st (a.map (·.map pY.a)) e c (some (f.map pb.a)) none none (aC j) am am am;unfold Le at *;obtain⟨u,i,P,h8,l8,F⟩:=aa7 g U (by omega) d st (a.map (·.map pY.a)) e c (some (f.map pb.a)) (h.map (·.map eP.a)) none (aC j) (aC m) am am;unfold Le at *;obtain⟨E,k,p,W,l9,K⟩:=WZ g P (by omega) d st (a.map (·.map pY.a)) e c (some (f.map pb.a)) (h.map (·.map eP.a)) (i.map (·.map uV.a)) (aC j) (aC m) (aC u) am;unfold Le at *;refine⟨⟨d,st,a,e,c,f,h,k,i,n3,M,H,K,F⟩,p,?_,by omega⟩;have Q:=fun o t v=>dM g p o t v;rw[cX akE rfl];have B:run code jR ⟨[aH id 0 0 0,am,am,am,am,am,am],σ⟩=some (.nrm,⟨[aH id 0 0 0,aH σ.length 0 0 0,am,am,am,am,am],σ++[aB 9 0 [QJ]]⟩):=by
  simp[jR]
 have z:run code jZ ⟨[aH id 0 0 0,aH σ.length 0 0 0,am,am,am,am,am],σ++[aB 9 0 [QJ]]⟩=some (.nrm,⟨[aH id 0 0 0,aH σ.length 0 0 0,am,am,am,am,am],σ.set id (gC l)++[aB 9 0 [QJ]]⟩):=by
  simp[jZ,G]
 have C:run code jU ⟨[aH id 0 0 0,aH σ.length 0 0 0,am,am,am,am,am],σ.set id (gC l)++[aB 9 0 [QJ]]⟩=some (.nrm,⟨re σ id am am am am,σ.set id (gC x)++Lg (rx d false none [] [] none none none none)⟩):=by
  simp[jU,L,sv]
 have q:run code (.seq jx jD) ⟨re σ id (aC j) (aC m) (aC u) (aC E),σ.set id (gC p)++Lg (rx d st (a.map (·.map pY.a)) e c (some (f.map pb.a)) (h.map (·.map eP.a)) (k.map (·.map eP.a)) (i.map (·.map uV.a)))⟩ =
   some (.ret,⟨re σ id (aC j) (aC m) (aC u) (aC E),σ.set id (gC p)++[aB 9 0 [rx d st (a.map (·.map pY.a)) e c (some (f.map pb.a)) (h.map (·.map eP.a)) (k.map (·.map eP.a)) (i.map (·.map uV.a))],aB 9 0 [rx d st (a.map (·.map pY.a)) e c (some (f.map pb.a)) (h.map (·.map eP.a)) (k.map (·.map eP.a)) (i.map (·.map uV.a))]]⟩):=by
  simp[jx,jD]
 have hv:(mI.mk d st a e c f h k i n3 M H K F).r=rx d st (a.map (·.map pY.a)) e c (some (f.map pb.a)) (h.map (·.map eP.a)) (k.map (·.map eP.a)) (i.map (·.map uV.a)):=rfl;rw[hv];have R:T6=.seq jR (.seq jZ (.seq jU (.seq gZ (.seq jY (.seq jS (.seq kf (.seq ic (.seq gY (.seq hY (.seq jx jD)))))))))):=rfl;have n:run code T6 ⟨[aH id 0 0 0,am,am,am,am,am,am],σ⟩=some (.ret,⟨re σ id (aC j) (aC m) (aC u) (aC E),σ.set id (gC p)++[aB 9 0 [rx d st (a.map (·.map pY.a)) e c (some (f.map pb.a)) (h.map (·.map eP.a)) (k.map (·.map eP.a)) (i.map (·.map uV.a))],aB 9 0 [rx d st (a.map (·.map pY.a)) e c (some (f.map pb.a)) (h.map (·.map eP.a)) (k.map (·.map eP.a)) (i.map (·.map uV.a))]]⟩):=by
  rw[R,fA,B,bW,fA,z,bW,fA,C,bW,fA,Y,bW,fA,h4,bW,fA,V,bW,fA,y,bW,fA,X,bW,fA,h8,bW,fA,W,bW,q]
 have hE:arO.body=T6:=rfl;have N:[aq.ptr id 0 0 0].take arO.np++List.replicate (arO.nenv-arO.np) aq.any=[aH id 0 0 0,am,am,am,am,am,am]:=rfl;rw[hE,N,n];generalize a.map (·.map pY.a)=S at *;generalize h.map (·.map eP.a)=w' at *;generalize k.map (·.map eP.a)=v' at *;generalize i.map (·.map uV.a)=g' at *;generalize f.map pb.a=j' at *;simp[arO,Q,cn,dE,Kn]
abbrev aiI:aq:=aI [aO [],ap 0,aC false]
abbrev kyX(n:List UInt8)(k:Int)(d:Bool):aw:=[aB 3 0 [aiI],aB 3 0 [aI [aO n,ap k,aC d]]]
theorem Xy{σ:aw}{id:Nat}{a:gf}(c:At σ id a)(r:gf)(n:List UInt8)(k:Int)(d:Bool):At (σ.set id (gC r)++kyX n k d) id r:=(c.set r).app _ (fun τ b _=>by simp[bw,cn,dE])
theorem aon:Vc=.seq (.reg [i (.box 3 (v (aI [aO [],ap 0,aC false])))] [(1,l 0)])
 (.seq (.reg [i (.box 3 (v (aI [aO [],ap 0,aC false])))] [(2,l 0)]) (.seq zT Aj)):=rfl
abbrev U0(σ:aw)(id:Nat)(x3 x4:aq):List aq:=[aH id 0 0 0,aH σ.length 0 0 0,aH (σ.length+1) 0 0 0,x3,x4]
theorem amz{σ:aw}{id:Nat}{r:gf}(d:At σ id r):∃(n:List UInt8) (k:Int) (l:aq) (j:gf),run code zT ⟨U0 σ id am am,σ++kyX [] 0 false⟩=some (.nrm,⟨U0 σ id l am,σ.set id (gC j)++kyX n k false⟩)∧Le j r:=by
 have a:=Xy d r [] 0 false;have h:=d.same;rw[h]at a;have e:=Ob r 3;have i:=Mf d;cases b:uU r 3 [] with
 |true=>
  rw[b]at e;obtain⟨n,g,c,f⟩:=Fe a;rw[tu d]at c;exact⟨[],n,aC true,g,by simp[zT,i,eD,e,c],f⟩
 |false=>
  rw[b]at e;obtain⟨t,g,c,f⟩:=EL a 2;rw[tu d]at c;exact⟨t.t,0,aC false,g,by simp[zT,i,eD,e,c],f⟩
theorem VY:Kd B3.a (fun _=>True) I.qfg:=by
 intro σ id r a F;obtain⟨n,k,B,c,A,y⟩:=amz a;obtain⟨d,b,j,u,f⟩:=jB (Xy a c n k false) 1 [68,69,83,67];rw[set_set a]at j;unfold Le at y
 have z:b.toks.length≤c.toks.length:=by cases d with
  |true=>have:=u rfl;omega
  |false=>rw[f rfl];exact aF _
 have s:run code Vc ⟨[aH id 0 0 0,am,am,am,am],σ⟩=run code Aj ⟨U0 σ id B am,σ.set id (gC c)++kyX n k false⟩:=by
  rw[aon,fA];have x:run code (.reg [i (.box 3 (v (aI [aO [],ap 0,aC false])))] [(1,l 0)]) ⟨[aH id 0 0 0,am,am,am,am],σ⟩=some (.nrm,⟨[aH id 0 0 0,aH σ.length 0 0 0,am,am,am],σ++[aB 3 0 [aiI]]⟩):=by simp
  have w:run code (.reg [i (.box 3 (v (aI [aO [],ap 0,aC false])))] [(2,l 0)]) ⟨[aH id 0 0 0,aH σ.length 0 0 0,am,am,am],σ++[aB 3 0 [aiI]]⟩=some (.nrm,⟨U0 σ id am am,σ++kyX [] 0 false⟩):=by simp
  rw[x,bW,fA,w,bW,fA,A,bW]
 have q:arL.body=Vc:=rfl;have m:[aq.ptr id 0 0 0].take arL.np++List.replicate (arL.nenv-arL.np) aq.any=[aH id 0 0 0,am,am,am,am]:=rfl;cases d with
 |true=>
  refine⟨⟨n,k,true⟩,b,?_,by unfold Le;omega,trivial⟩;have e:=fun o t v=>dM a b o t v;rw[cX afA rfl,q,m,s];simp[arL,Aj,j,e,cn,dE,B3.a]
 |false=>
  obtain⟨E,g,p,D,h⟩:=jB (Xy a b n k false) 1 [65,83,67];rw[set_set a]at p
  have C:g.toks.length≤b.toks.length:=by cases E with
   |true=>have:=D rfl;omega
   |false=>rw[h rfl];exact aF _
  refine⟨⟨n,k,false⟩,g,?_,by unfold Le;omega,trivial⟩;have e:=fun o t v=>dM a g o t v;rw[cX afA rfl,q,m,s];simp[arL,Aj,j,p,e,cn,dE,B3.a]
end Go.AM
