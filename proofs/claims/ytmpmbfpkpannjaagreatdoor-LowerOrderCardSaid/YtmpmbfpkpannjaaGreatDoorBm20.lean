/- Part of the proof. -/
import Derived.Test.YtmpmbfpkpannjaaGreatDoorBm19
set_option linter.unusedVariables false
set_option linter.unusedSimpArgs false
set_option linter.unusedSectionVars false
namespace Go.AM
open P
set_option maxHeartbeats 64000000
set_option maxRecDepth 40000
attribute [local simp] aG bj
theorem uH{r:fV}{a:Int}{b:List (List UInt8)}(h:uQ r a b=true):∃t l,r.toks=t::l:=by
 unfold uQ at h;cases hr:r.toks with
 |nil=>rw[hr]at h;cases h
 |cons t l=>exact⟨t,l,rfl⟩
def ad1(r:fV)(kind:Int)(s:List UInt8):fV:=if uQ r kind [s] then r.nx else r
theorem Oo{σ:aw}{id:Nat}{r:fV}(h:At σ id r)(a:Int)(s:List UInt8):cC code I.qfv [aI id 0 0 0,ap a,aO s] σ=some (aC (uQ r a [s]),σ.set id (gw (ad1 r a s))):=by
 have b:=Jp r a s;have f:=h.same;have d:=h.get;rw[cY alz rfl];unfold ad1;cases hb:uQ r a [s] with
 |false=>
  rw[hb]at b;simp[as9,abN,d,eE,b,fA,f]
 |true=>
  rw[hb]at b;obtain⟨t,l,g⟩:=uH hb;have e:=wi h t l g;have c:t.a=ru t.k t.at' t.t t.n:=rfl;rw[c]at e;simp[as9,abN,d,eE,b,e,fA]
def acA:vb:=⟨0,0,[],0,by simp⟩
def S7(r:fV)(b:Bool):vb:=if b then r.toks.headD acA else acA
def Kt(r:fV)(b:Bool):fV:=if b then r.nx else nW r 190 (gT r)
theorem O3{σ:aw}{id:Nat}{r:fV}(h:At σ id r)(a:Int)(u e:aq)(b:Bool)(s:∀σ,fz true false 0 σ 20 u=e)
  (n:bw I.qfd [.cptr true r.v 0,ap a,e]=some (aC b)) (w:b=true→∃t l,r.toks=t::l) :
  cC code I.qfh [aI id 0 0 0,ap a,u] σ=some ((S7 r b).a,σ.set id (gw (Kt r b))):=by
 have m:At (σ++[aB 4 0 [ru 0 0 [] 0]]) id r:=h.app _ (fun τ b _=>by simp[bA,cr,dH]);have c:=LG h;have d:=tC h;rw[cY amL rfl];unfold S7 Kt;cases b with
 |false=>
  have x:=sS r;have p:=oI m 190 (gT r);have f:=fun o t v=>dM h (nW r 190 (gT r)) o t v;rw[d]at p;have j:acA.a=ru 0 0 [] 0:=rfl;simp only[bq,cH,j];simp[asI,Xr,c,eE,s,n,x,p,f,cr,dH]
 |true=>
  obtain⟨t,l,q⟩:=w rfl;have g:=wi m t l q;have f:=fun o t v=>dM h r.nx o t v;rw[d]at g;have k:(r.toks.headD acA).a=ru t.k t.at' t.t t.n:=by rw[q];rfl
  have i:t.a=ru t.k t.at' t.t t.n:=rfl;rw[i]at g;simp only[cz,k];simp[asI,Xr,c,eE,s,n,g,f,cr,dH]
theorem V3{σ:aw}{id:Nat}{r:fV}(h:At σ id r)(a:Int):cC code I.qfh [aI id 0 0 0,ap a,.ai] σ=some ((S7 r (uQ r a [])).a,σ.set id (gw (Kt r (uQ r a [])))):=
 O3 h a .ai (.aa false []) _ (fun σ=>by simp) (NN r a) uH
theorem Rf{σ:aw}{id:Nat}{r:fV}(h:At σ id r)(a:Int)(s:List UInt8):cC code I.qfh [aI id 0 0 0,ap a,.lst [aO s]] σ=some ((S7 r (uQ r a [s])).a,σ.set id (gw (Kt r (uQ r a [s])))):=
 O3 h a _ (.aa true [aO s]) _ (fun σ=>by simp) (Jp r a s) uH
structure eP where
 tag:Int
 l:Int
 r:Int
 v:wy
 table:List UInt8
 name:List UInt8
 h:v.s.length≤8000
abbrev Qr(tag l r:Int)(v:wy)(table name:List UInt8):aq:=aH [ap tag,ap l,ap r,ap v.k,ap v.n,.int .u64 v.u,aO v.s,aO table,aO name]
def eP.a(n:eP):aq:=Qr n.tag n.l n.r n.v n.table n.name
instance:Nc eP.a 9 true:=⟨fun _=>rfl,fun _=>rfl⟩
instance:Fx eP.a:=⟨fun fl top base σ m x=>by simp[eP.a]⟩
abbrev gK(ns:List eP):aq:=.aa false (ns.map eP.a)
theorem RP(c l r:Int)(v:wy)(a b:List UInt8)(d:v.s.length≤8000):bw I.qeu [Qr c l r v a b]=some (gK [⟨c,-1,-1,v,a,b,d⟩]):=by
 rw[aS anC rfl];simp[auJ,ag9,eP.a]
theorem wh(k n:Int)(s:List UInt8)(a:s.length≤8000):bw I.qey [ap k,ap n,aO s]=some (gK [⟨1,-1,-1,⟨k,n,0,s⟩,[],[],a⟩]):=by
 rw[aS akF rfl];have h:=RP 1 0 0 ⟨k,n,0,s⟩ [] [] a;simp only[Qr]at h;simp[auO,ag8,h]
def VQ(by':Int)(n:eP):eP:=⟨n.tag,if 0≤n.l then IntKind.i64.wrap (n.l+by') else n.l,if 0≤n.r then IntKind.i64.wrap (n.r+by') else n.r,n.v,n.table,n.name,n.h⟩
def vZ:wy:=⟨0,0,0,[]⟩
abbrev PB(tag l r:Int):Obj:=aB 9 0 [Qr tag l r vZ [] []]
abbrev J9(tag:Int)(bp:Bool)(ps:aq)(np i:Nat)(p:List eP)(by':Nat)(k m:Nat)(c1 c2:aq):List aq:=
 [ap tag,ps,.ai,aI 0 0 0 0,.sl 1 m 0 m,ap i,gK p,ap by',am,ps,ap np,ap i,c1,gK p,ap p.length,ap k,c2,am,am,am]
theorem Zl(d:Int)(e:aq)(o i:Nat)(p:List eP)(c:Nat)(l r:Int)(x:∀base σ m,fz false true base σ (m+3) e=e)(a:List eP)(F:a.length+p.length≤8000) :
  bU code 2 [8,16,17,18] CQ ⟨J9 d false e o i p c 0 a.length (aC true) am,[PB d l r,aB 9 a.length (a.map eP.a)]⟩ =
   some (.ext 2,⟨J9 d false e o i p c p.length (a.length+p.length) (aC true) (aC false),[PB d l r,aB 9 (a.length+p.length) ((a++p.map (VQ c)).map eP.a)]⟩):=by
 have D:p.length≤bC:=by unfold bC;omega
 have key:=cX (base:=2) (clr:=[8,16,17,18]) (b:=CQ)
  (fun k=>⟨J9 d false e o i p c k (a.length+k) (aC true) am,[PB d l r,aB 9 (a.length+k) ((a++(p.take k).map (VQ c)).map eP.a)]⟩) p.length
  (.ext 2,⟨J9 d false e o i p c p.length (a.length+p.length) (aC true) (aC false),[PB d l r,aB 9 (a.length+p.length) ((a++p.map (VQ c)).map eP.a)]⟩)
  (fun k s=>by
   have A:p[k]?=some p[k]:=au s;have q:∀h:k<p.length,p[k]'h=p[k]'s:=fun _=>rfl;have t:(k:Int)<(p.length:Int):=by omega
   have E:=cW s D
   have z:a++(p.take (k+1)).map (VQ c)=(a++(p.take k).map (VQ c))++[VQ c p[k]]:=by
    rw[eY,A,Option.toList_some,df,dv];rfl
   have j:(a++(p.take k).map (VQ c)).length=a.length+k:=by simp;omega
   rw[z];generalize a++(p.take k).map (VQ c)=f at *;generalize p[k]=n at *;have u:a.length+k+1≤bC:=by unfold bC;omega
   have y:List.take (a.length+k) (f.map eP.a)=f.map eP.a:=ay (by simp[j]);have w:n.a=Qr n.tag n.l n.r n.v n.table n.name:=rfl;have v:(VQ c n).a=Qr n.tag (if 0≤n.l then IntKind.i64.wrap (n.l+c) else n.l) (if 0≤n.r then IntKind.i64.wrap (n.r+c) else n.r) n.v n.table n.name:=rfl;rw[df,aW,bm,v];have g:a.length+(k+1)=a.length+k+1:=by omega
   rw[g];simp only[J9];by_cases B:0≤n.l<;>by_cases C:0≤n.r <;>
    simp[CQ,t,A,q,w,B,C,append,u,y,j,E,bR,bA,cr,dH,x])
  (by
   rw[du];simp[CQ])
 simpa using key
theorem Pi:vZ.s.length≤8000:=by decide
abbrev KC(tag:Int)(ps:aq)(np i m:Nat)(c:aq):List aq:=
 [ap tag,ps,.ai,aI 0 0 0 0,.sl 1 m 0 m,am,am,am,am,ps,ap np,ap i,c,am,am,am,am,am,am,am]
noncomputable abbrev goJ(tag:Int)(ps:aq)(np i:Nat)(out:List eP)(l r:Int):Option (Ex×St):=
 bU code 2 [5,6,7,8,12,13,14,15,16,17,18,19] BY ⟨KC tag ps np i out.length am,[PB tag l r,aB 9 out.length (out.map eP.a)]⟩
theorem DF(d:Int)(e:Bool)(xs:List (List eP))(i:Nat)(p:List eP)(hi:xs[i]?=some p)(y:xs.length≤2)(a:List eP)(v:a.length+p.length≤8000)(l r:Int) :
  goJ d (.aa e (xs.map gK)) xs.length i a l r=goJ d (.aa e (xs.map gK)) xs.length (i+1) (a++p.map (VQ a.length)) (if i=0 then ((a.length+p.length:Nat):Int)-1 else l) (if i=0 then r else ((a.length+p.length:Nat):Int)-1):=by
 have j:=(ak.1 hi).1;have n:∀base σ m,fz false true base σ (m+3) (.aa e (xs.map gK))=.aa e (xs.map gK):=fun base σ m=>by simp
 have c:=Zl d (.aa e (xs.map gK)) xs.length i p a.length l r n a v;have g:(i:Int)<(xs.length:Int):=by omega
 have f:∀h:i<xs.length,xs[i]'h=p:=fun _=>(ak.1 hi).2;have w:IntKind.i64.wrap ((i:Int)+1)=(i:Int)+1:=qL (by omega) (by omega);have q:IntKind.i64.wrap (((a.length:Int)+(p.length:Int))-1)=((a.length:Int)+(p.length:Int))-1:=qL (by omega) (by omega);have b:(a++p.map (VQ a.length)).length=a.length+p.length:=by simp
 have u:((a.length+p.length:Nat):Int)=(a.length:Int)+(p.length:Int):=by omega
 unfold goJ;rw[aZ,b,u];generalize a++p.map (VQ a.length)=s at *;generalize a.map eP.a=z at *;simp only[J9,bd]at c;by_cases o:i=0
 ·subst o;have t:((0:Nat):Int)=0:=rfl;simp only[t]at *;have x:IntKind.i64.wrap 1=1:=rfl;simp only[PB,Qr]at c ⊢;simp[x,BY,KC,j,hi,g,f,c,q,b,cM]
 have k:¬(i:Int)=0:=by omega
 simp[BY,KC,j,hi,g,f,c,w,q,o,k,b,cM]
theorem adP(b:Int)(d:aq)(c:Nat)(a:List eP)(l r:Int) :
  goJ b d c c a l r=some (.ext 0,⟨KC b d c c a.length (aC false),[PB b l r,aB 9 a.length (a.map eP.a)]⟩):=by
 unfold goJ;rw[aZ];simp[BY,KC]
theorem SU(c:Int)(f:Bool)(xs:List (List eP))(b:List eP)(q:b.length≤8000)(l r:Int)
  (h:goJ c (.aa f (xs.map gK)) xs.length 0 [] (-1) (-1)=goJ c (.aa f (xs.map gK)) xs.length xs.length b l r) :
  bw I.qet [ap c,.aa f (xs.map gK)]=some (gK (b++[⟨c,l,r,vZ,[],[],Pi⟩])):=by
 rw[adP]at h;rw[aS aod rfl];have k:List.take b.length (b.map eP.a)=b.map eP.a:=ay (by simp);have o:b.length+1≤bC:=by unfold bC;omega
 have p:(eP.a ⟨c,l,r,vZ,[],[],Pi⟩)=aH [ap c,ap l,ap r,ap 0,ap 0,.int .u64 0,aO [],aO [],aO []]:=rfl;have n:(b++([⟨c,l,r,vZ,[],[],Pi⟩]:List eP)).map eP.a=b.map eP.a++[aH [ap c,ap l,ap r,ap 0,ap 0,.int .u64 0,aO [],aO [],aO []]]:=by rw[df];rfl
 have d:∀a∈(b++([⟨c,l,r,vZ,[],[],Pi⟩]:List eP)).map eP.a,∀σ,fz false false 0 σ 19 a=a:=by
  intro a g;obtain⟨y,_,rfl⟩:=bM.1 g;exact fun σ=>Fx.fx false false 0 σ 16 y
 rw[n]at d;unfold gK at *;rw[n];simp only[goJ,KC,PB,Qr,vZ,bm,bD,bd]at h;have i:∀σ,(b.map eP.a).map (fz false false 0 σ 19)=b.map eP.a:=fun σ=>by
  rw[bT];exact aT fun y _=>Fx.fx false false 0 σ 16 y
 have e:(b.map eP.a).length=b.length:=by simp
 have j:(xs.map (fun m=>aq.aa false (m.map eP.a))).length=xs.length:=by simp
 generalize b.map eP.a=s at *;generalize xs.map (fun m=>aq.aa false (m.map eP.a))=t at *;simp[atm,afa,j,e,h,append,k,o,i];rw[ay (by simp[e]),if_pos];intro a g;rw[d a g]
theorem yC(a:Int)(c:Bool)(p:List eP)(d:p.length≤4000):∃b:List eP,bw I.qet [ap a,.aa c [gK p]]=some (gK b)∧b.length=p.length+1:=by
 have h:=DF a c [p] 0 p rfl (by simp) [] (by simp;omega) (-1) (-1);exact⟨_,SU a c [p] _ (by simp;omega) _ _ h,by simp⟩
theorem aaJ(a:Int)(c:Bool)(p q:List eP)(e:p.length≤4000)(f:q.length≤4000):∃b:List eP,bw I.qet [ap a,.aa c [gK p,gK q]]=some (gK b)∧b.length=p.length+q.length+1:=by
 have h:=DF a c [p,q] 0 p rfl (by simp) [] (by simp;omega) (-1) (-1);have d:=DF a c [p,q] 1 q rfl (by simp) ([]++p.map (VQ 0)) (by simp;omega) (((0+p.length:Nat):Int)-1) (-1);exact⟨_,SU a c [p,q] _ (by simp;omega) _ _ (h.trans d),by simp;omega⟩
def ji(l:List (List UInt8×Int)):List (aq×aq):=l.map fun p=>(aO p.1,ap p.2)
theorem En(t:List UInt8):∀l:List (List UInt8×Int),dy [] (aO t) (ji l)=some none∨∃n,dy [] (aO t) (ji l)=some (some (ap n)):=by
 intro l;induction l with
 |nil=>exact .inl rfl
 |cons p l c=>
  have a:ji (p::l)=(aO p.1,ap p.2)::ji l:=rfl;rw[a];have b:oN [] (aO t) (aO p.1)=some (t==p.1):=rfl;unfold dy;simp only[b];cases ht:(t==p.1) with
  |true=>exact .inr ⟨p.2,rfl⟩
  |false=>exact c
theorem Mq(l:List (List UInt8×Int))(b:Nat)(τ:aw):bA b τ (.map (ji l))=.map (ji l):=by
 have:(ji l).map (fun e=>(e.1,cr b τ e.2))=ji l:=by
  unfold ji;rw[bT];exact aT fun y _=>by simp[cr,dH]
 simp only[bA,this]
def Le(r' r:fV):Prop:=r'.toks.length≤r.toks.length
theorem Le.rfl'(r:fV):Le r r:=aF _
theorem Le.trans{a b c:fV}(h:Le a b)(d:Le b c):Le a c:=bH h d
theorem MV{r:fV}{t:vb}{l:List vb}(h:r.toks=t::l):r.nx.toks.length+1=r.toks.length:=by simp[fV.nx,h]
def je(f N:Nat):Prop:=∀σ id r,At σ id r→r.toks.length≤N→r.toks.length≤600 →
 ∃ns r',cC code f [aI id 0 0 0] σ=some (gK ns,σ.set id (gw r'))∧Le r' r∧ns.length+2*r'.toks.length≤2*r.toks.length+1
abbrev afU(id id2:Nat)(kind:Int)(f:Nat)(ns:List eP):List aq:=[aI id 0 0 0,ap kind,.mp id2,.fn f [aI id 0 0 0] [],am,gK ns,am,am,am,am]
theorem RA(f N:Nat)(K:je f N)(a:Int)(id h:Nat)(z:h≠id)(H:List (List UInt8×Int))(L:Nat):∀m σ r (d:List eP),σ.length=L→At σ id r→σ[h]?=some (.map (ji H))→r.toks.length≤m→m≤N→r.toks.length≤600→d.length+2*r.toks.length≤1300 →
  ∃e o q,bU code L [4,6,7,8,9] zV ⟨afU id h a f d,σ⟩=some (.ret,⟨q,σ.set id (gw o)⟩)∧q[4]?=some (gK e)∧Le o r∧e.length+2*o.toks.length≤d.length+2*r.toks.length:=by
 intro m;induction m with
 |zero=>
  intro σ r d w b p Q _ _ _;have I:r.toks=[]:=da.1 (by omega);have c:=NN r a;have g:=b.get;have i:uQ r a []=false:=by unfold uQ;rw[I]
  rw[i]at c;refine⟨d,r,_,by rw[aZ,b.same];simp[zV,g,eE,c];rfl,rfl,Le.rfl' r,aF _⟩
 |succ m S=>
  intro σ r d w b p Q W V X;have c:=NN r a;have g:=b.get;cases i:uQ r a [] with
  |false=>
   rw[i]at c;refine⟨d,r,_,by rw[aZ,b.same];simp[zV,g,eE,c];rfl,rfl,Le.rfl' r,aF _⟩
  |true=>
   rw[i]at c;obtain⟨t,l,B⟩:=uH i;have j:=wi b t l B;have F:=MV B;have R:r.v=aH [.aa false (t.a::l.map vb.a),ap r.en,ap r.at',ap r.er]:=by rw[fV.v_is,B];rfl
   have k:t.a=ru t.k t.at' t.t t.n:=rfl;rw[k]at j;simp only[gw]at g;rw[R,k]at g c;rcases En t.t H with x|⟨n,x⟩
   ·refine⟨d,r,_,by rw[aZ,b.same];simp[zV,c,g,p,x];rfl,rfl,Le.rfl' r,aF _⟩
   have u:=b.set r.nx;obtain⟨C,s,G,y,O⟩:=K _ id r.nx u (by omega) (by omega);rw[ew]at G;obtain⟨D,M,P⟩:=aaJ n true d C (by omega) (by omega);have v:=b.set s;unfold Le at y;obtain⟨e,o,q,E,J,T,U⟩:=S (σ.set id (gw s)) s D (by simpa using w) v (by rw[aD (Ne.symm z)];exact p) (by omega) (by omega) (by omega) (by omega);rw[ew]at E;refine⟨e,o,q,?_,J,by unfold Le at *;omega,by omega⟩;rw[←E,aZ];have A:=fun env=>cM (base:=L) (clr:=[4,6,7,8,9]) (env:=env) (σ:=σ.set id (gw s)) (by simpa using w);simp[zV,c,g,p,x,j,G,M,A]
theorem Rn(f N:Nat)(m:je f N)(b:Int){σ:aw}{id:Nat}{r:fV}(l:At σ id r)(a:Nat)(c:a≠id)(o:List (List UInt8×Int))(t:σ[a]?=some (.map (ji o)))(w:r.toks.length≤N)(s:r.toks.length≤600) :
  ∃n d,cC code I.qfb [aI id 0 0 0,ap b,.mp a,.fn f [aI id 0 0 0] []] σ=some (gK n,σ.set id (gw d))∧Le d r∧n.length+2*d.toks.length≤2*r.toks.length+1:=by
 obtain⟨k,e,v,i,u⟩:=m σ id r l w s;have h:=l.set e;unfold Le at i;obtain⟨j,d,q,g,p,x,y⟩:=RA f N m b id a c o σ.length e.toks.length (σ.set id (gw e)) e k (by simp) h (by rw[aD (Ne.symm c)];exact t) (aF _) (by omega) (by omega) (by omega);rw[ew]at g;refine⟨j,d,?_,by unfold Le at *;omega,by omega⟩;rw[cY am8 rfl];simp only[afU]at g;simp[atw,afP,v,g,p,fA]
theorem Ct(f N:Nat)(m:je f N)(a:Int)(e:List (List UInt8×Int)){σ:aw}{id:Nat}{r:fV}(i:At σ id r)(o:r.toks.length≤N)(l:r.toks.length≤600) :
  ∃d c,cC code I.qfb [aI id 0 0 0,ap a,.mp σ.length,.fn f [aI id 0 0 0] []] (σ++[.map (ji e)])=some (gK d,σ.set id (gw c)++[.map (ji e)])∧Le c r∧d.length+2*c.toks.length≤2*r.toks.length+1:=by
 have g:At (σ++[.map (ji e)]) id r:=i.app _ (fun τ b _=>by simp[Mq]);have n:=i.lt;obtain⟨d,c,h,j,k⟩:=Rn f N m a g σ.length (by omega) e (by simp) o l;rw[cF _ _ n]at h;exact⟨d,c,h,j,k⟩
theorem anM(N:Nat)(f:je I.qez N):je I.qfm N:=by
 intro σ id r a i e;obtain⟨j,b,h,c,d⟩:=Ct I.qez N f 1 [([79,82],23)] a i e;refine⟨j,b,?_,c,d⟩;rw[cY ak9 rfl];have g:=fun o t v=>dM a b o t v;simp only[ji,aW,bm]at h;simp[auz,afg,h,g,cr,dH]
theorem ajc(N:Nat)(f:je I.qfk N):je I.qez N:=by
 intro σ id r a i e;obtain⟨j,b,h,c,d⟩:=Ct I.qfk N f 1 [([65,78,68],22)] a i e;refine⟨j,b,?_,c,d⟩;rw[cY alZ rfl];have g:=fun o t v=>dM a b o t v;simp only[ji,aW,bm]at h;simp[aty,agm,h,g,cr,dH]
theorem ahq(N:Nat)(f:je I.qfp N):je I.qfu N:=by
 intro σ id r a i e;obtain⟨j,b,h,c,d⟩:=Ct I.qfp N f 5 [([43],12),([45],13)] a i e;refine⟨j,b,?_,c,d⟩;rw[cY amY rfl];have g:=fun o t v=>dM a b o t v;simp only[ji,aW,bm]at h;simp[atL,afV,h,g,cr,dH]
theorem Rl(N:Nat)(f:je I.qfs N):je I.qfp N:=by
 intro σ id r a i e;obtain⟨j,b,h,c,d⟩:=Ct I.qfs N f 5 [([42],14),([47],15)] a i e;refine⟨j,b,?_,c,d⟩;rw[cY alU rfl];have g:=fun o t v=>dM a b o t v;simp only[ji,aW,bm]at h;simp[atY,agx,h,g,cr,dH]
theorem Di{σ:aw}{id:Nat}{r:fV}(h:At σ id r)(a:Int)(s:List UInt8)(b:uQ r a [s]=false):cC code I.qfv [aI id 0 0 0,ap a,aO s] σ=some (aC false,σ):=by
 have:=Oo h a s;unfold ad1 at this;rw[b]at this;simp only[bq,cH]at this;rw[h.same]at this;exact this
theorem B6{σ:aw}{id:Nat}{r:fV}(h:At σ id r)(a:Int)(s:List UInt8)(b:uQ r a [s]=true):cC code I.qfv [aI id 0 0 0,ap a,aO s] σ=some (aC true,σ.set id (gw r.nx)):=by
 have:=Oo h a s;unfold ad1 at this;rw[b]at this;exact this
theorem BW{r:fV}{a:Int}{c:List (List UInt8)}(h:uQ r a c=true):r.nx.toks.length+1=r.toks.length:=by
 obtain⟨t,l,b⟩:=uH h;exact MV b
theorem vB(r:fV)(e a:Int):Le (nW r e a) r:=by
 unfold nW Le;split<;>simp
theorem HD(r:fV):Le r.nx r:=by unfold Le fV.nx;simp
theorem Ug(r:fV)(b:Bool):Le (Kt r b) r:=by
 unfold Kt;split
 ·exact HD r
 exact vB r _ _
theorem jw{σ:aw}{id:Nat}{r:fV}(h:At σ id r)(a:Int)(s:List UInt8):∃b c,cC code I.qfv [aI id 0 0 0,ap a,aO s] σ=some (aC b,σ.set id (gw c))∧(b=true→c.toks.length+1=r.toks.length)∧(b=false→c=r):=by
 cases hb:uQ r a [s] with
 |true=>exact⟨true,r.nx,B6 h a s hb,fun _=>BW hb,fun e=>by cases e⟩
 |false=>exact⟨false,r,by rw[h.same];exact Di h a s hb,fun e=>(by cases e),fun _=>rfl⟩
theorem D3{σ:aw}{id:Nat}{r:fV}(h:At σ id r)(a:Int):∃(t:vb) (b:fV),cC code I.qfh [aI id 0 0 0,ap a,.ai] σ=some (ru t.k t.at' t.t t.n,σ.set id (gw b))∧Le b r:=
 ⟨_,_,V3 h a,Ug r _⟩
theorem oH{σ:aw}{id:Nat}{r:fV}(h:At σ id r)(a:Int)(s:List UInt8):∃(t:vb) (b:fV),cC code I.qfh [aI id 0 0 0,ap a,.lst [aO s]] σ=some (ru t.k t.at' t.t t.n,σ.set id (gw b))∧Le b r:=
 ⟨_,_,Rf h a s,Ug r _⟩
structure uO where
 table:List UInt8
 name:List UInt8
def uO.a(n:uO):aq:=aH [aO n.table,aO n.name]
instance:Nc uO.a 2 true:=⟨fun _=>rfl,fun _=>rfl⟩
instance:Fx uO.a:=⟨fun fl top base σ m x=>by simp[uO.a]⟩
theorem KK{σ:aw}{id:Nat}{r:fV}(a:At σ id r):∃(n:uO) (w:fV),cC code I.qfi [aI id 0 0 0] σ=some (aH [aO n.table,aO n.name],σ.set id (gw w))∧Le w r:=by
 have l:=a.lt;have q:∀X Y,(σ++X).set id Y=σ.set id Y++X:=fun X Y=>by rw[cF _ _ l]
 have h:At (σ++[aB 2 0 [aH [aO [],aO []]]]) id r:=a.app _ (fun τ b _=>by simp[bA,cr,dH]);obtain⟨e,d,f,y⟩:=D3 h 2;rw[q]at f;have i:At (σ.set id (gw d)++[aB 2 0 [aH [aO [],aO []]],aB 2 0 [aH [aO [],aO e.t]]]) id d:=(a.set d).app _ (fun τ b _=>by simp[bA,cr,dH]);obtain⟨b,c,g,u,z⟩:=jw i 5 [46];have m:id<(σ.set id (gw d)).length:=by simpa using l
 rw[cF _ _ m,ew]at g;cases b with
 |false=>
  obtain rfl:=z rfl;refine⟨⟨[],e.t⟩,c,?_,y⟩;rw[cY agT rfl];have k:=fun o t v=>dM a c o t v;simp[asr,Xv,f,g,k,cr,dH]
 |true=>
  have j:At (σ.set id (gw c)++[aB 2 0 [aH [aO [],aO []]],aB 2 0 [aH [aO [],aO e.t]]]) id c:=(a.set c).app _ (fun τ b _=>by simp[bA,cr,dH]);obtain⟨A,x,s,B⟩:=D3 j 2;have p:id<(σ.set id (gw c)).length:=by simpa using l
  rw[cF _ _ p,ew]at s;have u:=u rfl;refine⟨⟨e.t,A.t⟩,x,?_,by unfold Le at *;omega⟩;rw[cY agT rfl];have k:=fun o t v=>dM a x o t v;simp[asr,Xv,f,g,s,k,cr,dH]
theorem ab1(N:Nat)(o:∀M,M<N→je I.qfs M)(n:je I.qfo N):je I.qfs N:=by
 intro σ id r a s m;obtain⟨b,c,d,l,t⟩:=jw a 5 [45];have f:=a.set c;cases b with
 |false=>
  obtain rfl:=t rfl;rw[a.same]at d;obtain⟨g,j,h,e,k⟩:=n σ id c a s m;refine⟨g,j,?_,e,k⟩;rw[cY ahh rfl];simp[asT,Yu,d,h,fA]
 |true=>
  have l:=l rfl;obtain⟨g,j,h,e,k⟩:=o c.toks.length (by omega) _ id c f (aF _) (by omega);rw[ew]at h;unfold Le at e;obtain⟨i,p,q⟩:=yC 4 true g (by omega);refine⟨i,j,?_,by unfold Le;omega,by omega⟩;rw[cY ahh rfl];simp[asT,Yu,d,h,p,fA]
theorem aiI(N:Nat)(o:∀M,M<N→je I.qfk M)(n:je I.qfw N):je I.qfk N:=by
 intro σ id r a s m;obtain⟨b,c,d,l,t⟩:=jw a 1 [78,79,84];have f:=a.set c;cases b with
 |false=>
  obtain rfl:=t rfl;rw[a.same]at d;obtain⟨g,j,h,e,k⟩:=n σ id c a s m;refine⟨g,j,?_,e,k⟩;rw[cY agA rfl];simp[as2,Yo,d,h,fA]
 |true=>
  have l:=l rfl;obtain⟨g,j,h,e,k⟩:=o c.toks.length (by omega) _ id c f (aF _) (by omega);rw[ew]at h;unfold Le at e;obtain⟨i,p,q⟩:=yC 5 true g (by omega);refine⟨i,j,?_,by unfold Le;omega,by omega⟩;rw[cY agA rfl];simp[as2,Yo,d,h,p,fA]
def jU:List (List UInt8×Int):=[([67,79,85,78,84],8),([83,85,77],9),([77,73,78],10),([77,65,88],11)]
theorem Wf(M:Nat)(O:je I.qfm M){σ:aw}{id:Nat}{r:fV}(q:At σ id r)(a:List UInt8)(T:r.toks.length≤M)(S:r.toks.length≤600) :
  ∃e g,cC code I.qfa [aI id 0 0 0,aO a] σ=some (gK e,σ.set id (gw g))∧Le g r∧e.length+2*g.toks.length≤2*r.toks.length+2:=by
 have C:∀τ b,σ.length+1≤b→[Obj.map (ji jU)].map (bA b τ)=[Obj.map (ji jU)]:=fun τ b _=>by simp[Mq]
 have G:At (σ++[.map (ji jU)]) id r:=q.app _ C;obtain⟨V,K,x,U⟩:=oH G 5 [40];rw[tC q]at x;have l:∀g,At (σ.set id (gw g)++[.map (ji jU)]) id g:=fun g=>(q.set g).app _ (by simpa using C);have A:=fun g o t v=>dM q g o t v;unfold Le at *;have w:∀u:fV,u.toks.length≤K.toks.length→∃(e:List eP) (j:fV) (p:vb) (i:fV) (E:List eP) (n:Int) (c:List eP),cC code I.qfm [aI id 0 0 0] (σ.set id (gw u)++[.map (ji jU)])=some (gK E,σ.set id (gw i)++[.map (ji jU)]) ∧
   cC code I.qfh [aI id 0 0 0,ap 5,.lst [aO [41]]] (σ.set id (gw i)++[.map (ji jU)])=some (ru p.k p.at' p.t p.n,σ.set id (gw j)++[.map (ji jU)]) ∧
   (dy [] (aO a) (ji jU)).map (·.getD (ap 0))=some (ap n)∧bw I.qet [ap n,.aa true [gK E]]=some (gK c)∧j.toks.length≤r.toks.length∧c.length+2*j.toks.length≤2*r.toks.length+2:=by
  intro u P;obtain⟨e,i,d,z,F⟩:=O _ id u (l u) (by omega) (by omega);rw[set_set q]at d;obtain⟨p,j,k,R⟩:=oH (l i) 5 [41];rw[set_set q]at k;unfold Le at z R;rcases En a jU with f|⟨n,f⟩
  ·obtain⟨c,y,J⟩:=yC 0 true e (by omega);exact⟨e,j,p,i,e,0,c,d,k,by rw[f];rfl,y,by omega,by omega⟩
  obtain⟨c,y,J⟩:=yC n true e (by omega);exact⟨e,j,p,i,e,n,c,d,k,by rw[f];rfl,y,by omega,by omega⟩
 have s:∀{n:Int},(dy [] (aO a) (ji jU)).map (·.getD (ap 0))=some (ap n)→∃o:Option aq,dy [] (aO a) [(aO [67,79,85,78,84],ap 8),(aO [83,85,77],ap 9),(aO [77,73,78],ap 10),(aO [77,65,88],ap 11)]=some o∧o.getD (ap 0)=ap n:=by
  intro n h;cases hl:dy [] (aO a) (ji jU) with
  |none=>rw[hl]at h;cases h
  |some o=>rw[hl]at h;exact⟨o,hl,dN h⟩
 by_cases L:a=[67,79,85,78,84]
 ·have m:(a==[67,79,85,78,84])=true:=by simpa using L
  obtain⟨b,u,B,N,Q⟩:=jw (l K) 5 [42];rw[set_set q]at B;cases b with
  |true=>
   have N:=N rfl;obtain⟨W,i,d,z⟩:=oH (l u) 5 [41];rw[set_set q]at d;unfold Le at z;have D:=RP 3 0 0 vZ [] [] Pi;simp only[Qr,vZ]at D;refine⟨[⟨3,-1,-1,⟨0,0,0,[]⟩,[],[],by decide⟩],i,?_,by omega,by simp;omega⟩;rw[cY YD rfl];simp only[ji,jU,aW,bm]at x B d A;simp[ar7,UG,x,B,d,m,D,A,cr,dH,eR]
  |false=>
   obtain rfl:=Q rfl;obtain⟨_,j,p,i,e,n,c,d,k,f,y,z,F⟩:=w u (aF _);obtain⟨o,f,H⟩:=s f;refine⟨c,j,?_,z,F⟩;rw[cY YD rfl];simp only[ji,jU,aW,bm]at x B d k A;simp[-dy,ar7,UG,x,B,d,k,m,f,H,y,A,cr,dH,eR]
 have m:(a==[67,79,85,78,84])=false:=by simpa using L
 obtain⟨_,j,p,i,e,n,c,d,k,f,y,z,F⟩:=w K (aF _);obtain⟨o,f,H⟩:=s f;refine⟨c,j,?_,z,F⟩;rw[cY YD rfl];simp only[ji,jU,aW,bm]at x d k A;simp[-dy,ar7,UG,x,d,k,m,f,H,y,A,cr,dH,eR]
theorem u0{σ:aw}{id:Nat}{r:fV}(c:At σ id r){a:Int}{e:List (List UInt8)}(d:uQ r a e=true):∃t:vb,cC code I.qfj [aI id 0 0 0] σ=some (ru t.k t.at' t.t t.n,σ.set id (gw r.nx))∧r.nx.toks.length+1=r.toks.length:=by
 obtain⟨t,l,b⟩:=uH d;exact⟨t,wi c t l b,MV b⟩
def Yr:List (List UInt8):=[[67,79,85,78,84],[83,85,77],[77,73,78],[77,65,88]]
theorem Rq(N:Nat)(w:∀M,M<N→je I.qfm M):je I.qfo N:=by
 intro σ id r b J H;have e:=b.get;have c:=NN r 3;have d:=NN r 4;have k:bw I.qfd [.cptr true r.v 0,ap 1,.aa true [aO [67,79,85,78,84],aO [83,85,77],aO [77,73,78],aO [77,65,88]]]=some (aC (uQ r 1 Yr)):=ad3 true r 1 Yr (by decide);rw[cY ak5 rfl];cases b3:uQ r 3 [] with
 |true=>
  rw[b3]at c;obtain⟨t,g,i⟩:=u0 b b3;have a:=wh 2 (IntKind.i64.wrap t.n) [] (by decide);refine⟨[⟨1,-1,-1,⟨2,IntKind.i64.wrap t.n,0,[]⟩,[],[],by simp⟩],r.nx,?_,HD r,by simp;omega⟩;simp[arA,CY,e,eE,c,g,a,fA]
 |false=>
 rw[b3]at c;cases b4:uQ r 4 [] with
 |true=>
  rw[b4]at d;obtain⟨t,g,i⟩:=u0 b b4;have a:=wh 3 0 t.t t.h;refine⟨[⟨1,-1,-1,⟨3,0,0,t.t⟩,[],[],t.h⟩],r.nx,?_,HD r,by simp;omega⟩;simp[arA,CY,e,eE,c,d,g,a,fA]
 |false=>
 rw[b4]at d;cases b5:uQ r 1 [[84,82,85,69]] with
 |true=>
  have h:=B6 b 1 _ b5;have i:=BW b5;have a:=wh 1 1 [] (by decide);refine⟨[⟨1,-1,-1,⟨1,1,0,[]⟩,[],[],by simp⟩],r.nx,?_,HD r,by simp;omega⟩;simp[arA,CY,e,eE,c,d,h,a,fA]
 |false=>
 have l:=Di b 1 _ b5;cases b6:uQ r 1 [[70,65,76,83,69]] with
 |true=>
  have h:=B6 b 1 _ b6;have i:=BW b6;have a:=wh 1 0 [] (by decide);refine⟨[⟨1,-1,-1,⟨1,0,0,[]⟩,[],[],by simp⟩],r.nx,?_,HD r,by simp;omega⟩;simp[arA,CY,e,eE,c,d,l,h,a,fA]
 |false=>
 have p:=Di b 1 _ b6;cases b7:uQ r 1 [[78,85,76,76]] with
 |true=>
  have h:=B6 b 1 _ b7;have i:=BW b7;have a:=wh 0 0 [] (by decide);refine⟨[⟨1,-1,-1,⟨0,0,0,[]⟩,[],[],by simp⟩],r.nx,?_,HD r,by simp;omega⟩;simp[arA,CY,e,eE,c,d,l,p,h,a,fA]
 |false=>
 have u:=Di b 1 _ b7;cases b8:uQ r 1 Yr with
 |true=>
  rw[b8]at k;obtain⟨t,g,i⟩:=u0 b b8;obtain⟨s,m,x,j,A⟩:=Wf r.nx.toks.length (w _ (by omega)) (b.set r.nx) t.t (aF _) (by omega);rw[ew]at x;refine⟨s,m,?_,j.trans (HD r),by omega⟩;simp[arA,CY,e,eE,c,d,l,p,u,k,g,x,fA]
 |false=>
 rw[b8]at k;cases b9:uQ r 5 [[40]] with
 |true=>
  have h:=B6 b 5 _ b9;have i:=BW b9;obtain⟨s,D,z,j,A⟩:=w r.nx.toks.length (by omega) _ id r.nx (b.set r.nx) (aF _) (by omega);rw[ew]at z;obtain⟨K,E,y,G⟩:=oH (b.set D) 5 [41];rw[ew]at y;unfold Le at *;refine⟨s,E,?_,by omega,by omega⟩;simp[arA,CY,e,eE,c,d,l,p,u,k,h,z,y,fA]
 |false=>
 have F:=Di b 5 _ b9;obtain⟨n,m,g,j⟩:=KK b;have f:=RP 2 0 0 vZ n.table n.name Pi;simp only[Qr,vZ]at f;have B:=fun o t v=>dM b m o t v;refine⟨[⟨2,-1,-1,vZ,n.table,n.name,Pi⟩],m,?_,j,by unfold Le at j;simp;omega⟩;have C:(gK [⟨2,-1,-1,⟨0,0,0,[]⟩,n.table,n.name,by simp⟩])=.aa false [aH [ap 2,ap (-1),ap (-1),ap 0,ap 0,.int .u64 0,aO [],aO n.table,aO n.name]]:=rfl;have q:(gK [⟨2,-1,-1,vZ,n.table,n.name,Pi⟩])=.aa false [aH [ap 2,ap (-1),ap (-1),ap 0,ap 0,.int .u64 0,aO [],aO n.table,aO n.name]]:=rfl;rw[C]at f;rw[q];simp[arA,CY,e,eE,c,d,l,p,u,k,F,g,f,B,cr,dH]
def O8:List (List UInt8×Int):=[([61],16),([60,62],17),([60],18),([60,61],19),([62],20),([62,61],21)]
abbrev Vv:Obj:=.map [(aO [61],ap 16),(aO [60,62],ap 17),(aO [60],ap 18),(aO [60,61],ap 19),(aO [62],ap 20),(aO [62,61],ap 21)]
theorem aav:Obj.map (ji O8)=Vv:=rfl
theorem aen(N:Nat)(O:je I.qfu N):je I.qfw N:=by
 intro σ id r g V S;obtain⟨e,d,p,B,R⟩:=O σ id r g V S;have C:∀τ b,σ.length+1≤b→[Vv].map (bA b τ)=[Vv]:=fun τ b _=>by rw[←aav];simp[Mq]
 have c:∀x,At (σ.set id (gw x)++[Vv]) id x:=fun x=>(g.set x).app _ (by simpa using C);have u:=fun x o t v=>dM g x o t v;have a:=oF g (gw d);have j:=NN d 5;rw[cY alG rfl];cases b5:uQ d 5 [] with
 |false=>
  rw[b5]at j;unfold Le at B;obtain⟨b,m,f,w,G⟩:=jw (c d) 1 [73,83];rw[set_set g]at f;cases b with
  |false=>
   obtain rfl:=G rfl;refine⟨e,m,?_,B,R⟩;simp[-dy,arE,Fs,p,a,eE,j,f,u,cr,dH]
  |true=>
   have w:=w rfl;obtain⟨y,z,q,H,J⟩:=jw (c m) 1 [78,79,84];rw[set_set g]at q
   have Y:z.toks.length≤m.toks.length:=by cases y with
    |true=>have:=H rfl;omega
    |false=>rw[J rfl];exact aF _
   obtain⟨Z,A,s,K⟩:=oH (c z) 1 [78,85,76,76];rw[set_set g]at s;unfold Le at K;obtain⟨h,j6,k6⟩:=yC 6 true e (by omega);obtain⟨i,j7,W⟩:=yC 7 true e (by omega);cases y with
   |false=>
    refine⟨h,A,?_,by unfold Le;omega,by omega⟩;simp[-dy,arE,Fs,p,a,eE,j,f,q,s,j6,u,cr,dH]
   |true=>
    refine⟨i,A,?_,by unfold Le;omega,by omega⟩;simp[-dy,arE,Fs,p,a,eE,j,f,q,s,j7,u,cr,dH]
 |true=>
  rw[b5]at j;obtain⟨t,l,E⟩:=uH b5;have P:=MV E;have Q:d.v=aH [.aa false (ru t.k t.at' t.t t.n::l.map vb.a),ap d.en,ap d.at',ap d.er]:=by rw[fV.v_is,E];rfl
  simp only[gw]at a;have a:∀X,(σ.set id (aB 4 0 [d.v])++X)[id]?=some (aB 4 0 [aH [.aa false (ru t.k t.at' t.t t.n::l.map vb.a),ap d.en,ap d.at',ap d.er]]):=fun X=>by rw[a,Q]
  rw[Q]at j;have D:=wi (c d) t l E;rw[set_set g]at D;have F:t.a=ru t.k t.at' t.t t.n:=rfl;rw[F]at D;unfold Le at B;rcases En t.t O8 with k|⟨n,k⟩
  ·have k:dy [] (aO t.t) [(aO [61],ap 16),(aO [60,62],ap 17),(aO [60],ap 18),(aO [60,61],ap 19),(aO [62],ap 20),(aO [62,61],ap 21)]=some none:=k;obtain⟨b,m,f,w,G⟩:=jw (c d) 1 [73,83];rw[set_set g]at f;cases b with
   |false=>
    obtain rfl:=G rfl;refine⟨e,m,?_,B,R⟩;simp[-dy,arE,Fs,p,a,j,k,f,u,cr,dH]
   |true=>
    have w:=w rfl;obtain⟨y,z,q,H,J⟩:=jw (c m) 1 [78,79,84];rw[set_set g]at q
    have Y:z.toks.length≤m.toks.length:=by cases y with
     |true=>have:=H rfl;omega
     |false=>rw[J rfl];exact aF _
    obtain⟨Z,A,s,K⟩:=oH (c z) 1 [78,85,76,76];rw[set_set g]at s;unfold Le at K;obtain⟨h,j6,k6⟩:=yC 6 true e (by omega);obtain⟨i,j7,W⟩:=yC 7 true e (by omega);cases y with
    |false=>
     refine⟨h,A,?_,by unfold Le;omega,by omega⟩;simp[-dy,arE,Fs,p,a,j,k,f,q,s,j6,u,cr,dH]
    |true=>
     refine⟨i,A,?_,by unfold Le;omega,by omega⟩;simp[-dy,arE,Fs,p,a,j,k,f,q,s,j7,u,cr,dH]
  have k:dy [] (aO t.t) [(aO [61],ap 16),(aO [60,62],ap 17),(aO [60],ap 18),(aO [60,61],ap 19),(aO [62],ap 20),(aO [62,61],ap 21)]=some (some (ap n)):=k;obtain⟨L,m,f,w,n2⟩:=O _ id d.nx (c d.nx) (by omega) (by omega);rw[set_set g]at f;unfold Le at w;obtain⟨M,T,U⟩:=aaJ n true e L (by omega) (by omega);refine⟨M,m,?_,by unfold Le;omega,by omega⟩;simp[-dy,arE,Fs,p,a,j,k,D,f,T,u,cr,dH]
theorem ahH:∀N,je I.qfm N∧je I.qfk N∧je I.qfs N:=by
 intro N;induction N using Nat.strongRecOn with
 |ind N b=>
  have e:=Rq N fun M a=>(b M a).1;have d:=ab1 N (fun M a=>(b M a).2.2) e;have f:=aen N (ahq N (Rl N d));have c:=aiI N (fun M a=>(b M a).2.1) f;exact⟨anM N (ajc N c),c,d⟩
theorem ap4{σ:aw}{id:Nat}{r:fV}(d:At σ id r)(c:r.toks.length≤600):∃b a,cC code I.qfm [aI id 0 0 0] σ=some (gK b,σ.set id (gw a))∧Le a r∧b.length+2*a.toks.length≤2*r.toks.length+1:=
 (ahH r.toks.length).1 σ id r d (aF _) c
def ahG(n:Int):wy:=⟨2,n,0,[]⟩
@[simp] theorem aej(k n u:Int)(s:List UInt8):bw I.qhm [aH [ap k,ap n,.int .u64 u,aO s]]=some (aC (wQ ⟨k,n,u,s⟩)):=I8 ⟨k,n,u,s⟩
def iD(t:Int):Int:=if t<1∨23<t then -1 else if t≤3 then 0 else if t≤11 then 1 else 2
theorem C0(t:Int):bw I.qh [ap t]=some (ap (iD t)):=by
 rw[aS apd rfl];unfold iD;by_cases a:t<1<;>by_cases b:23<t<;>by_cases c:t≤3<;>by_cases d:t≤11<;>simp[art,alO,a,b,c,d]
theorem WA(s:List UInt8)(n:s.length≤bC):∃t,bw I.qm [aO s]=some (aC t):=by
 rw[aS apa rfl];have key:∀m k,k+m=s.length→(∃q,bU code 0 [1,2,5,6] vR ⟨[aO s,am,am,ap s.length,ap k,am,am],[]⟩=some (.ret,q)∧q.env[1]?=some (aC false)) ∨
   bU code 0 [1,2,5,6] vR ⟨[aO s,am,am,ap s.length,ap k,am,am],[]⟩=some (.ext 0,⟨[aO s,am,am,ap s.length,ap s.length,aC false,am],[]⟩):=by
  intro m;induction m with
  |zero=>
   intro k j;obtain rfl:k=s.length:=by omega
   rw[aZ];exact .inr (by simp[vR])
  |succ m o=>
   intro k j;have d:k<s.length:=by omega
   have a:(k:Int)<(s.length:Int):=by omega
   have g:s[k]?=some s[k]:=au d;have b:∀h:k<s.length,s[k]'h=s[k]'d:=fun _=>rfl;have w:=cW d n;have hi:=o (k+1) (by omega);rw[aZ];generalize s[k]=c at *;by_cases f:(c.toNat:Int)<32
   ·exact .inl ⟨_,by simp[vR,a,g,b,f];rfl,rfl⟩
   by_cases i:(126:Int)<(c.toNat:Int)
   ·exact .inl ⟨_,by simp[vR,a,g,b,f,i];rfl,rfl⟩
   have e:dg 0 [1,2,5,6] vR (run code vR ⟨[aO s,am,am,ap s.length,ap k,am,am],[]⟩)=bU code 0 [1,2,5,6] vR ⟨[aO s,am,am,ap s.length,ap (k+1:Nat),am,am],[]⟩:=by
    simp[vR,a,g,b,f,i,w,cM]
   rw[e];exact hi
 rcases key s.length 0 (by omega) with⟨q,h,l⟩|h
 ·simp only[bd]at h;exact⟨false,by simp[as5,ah3,h,l]⟩
 simp only[bd]at h;exact⟨true,by simp[as5,ah3,h]⟩
theorem TS(s:List UInt8):bw I.qf [aO s]=some (aC (s==[] ||iy s)):=by
 rw[aS aly rfl];have h:=oe s;cases hs:(s==[])<;>cases hn:iy s<;>rw[hn]at h<;>simp[arl,aeg,eR,hs,h]
theorem ao6(a b c d e c':Int)(s s':List UInt8):∃t,eqa true [0,0,0,2] (aH [ap a,ap b,.int .u64 c,aO s]) (aH [ap d,ap e,.int .u64 c',aO s'])=some (aC t):=by
 unfold eqa;by_cases f:a=d<;>by_cases g:b=e<;>by_cases h:c=c'<;>by_cases i:s=s'<;>simp[eQ,sI,lA,f,g,h,i,neg,eW]
theorem aaF(n:eP):∃t,bw I.qd [n.a]=some (aC t):=by
 rw[aS ao5 rfl];obtain⟨x,h⟩:=ao6 n.v.k n.v.n n.v.u 0 0 0 n.v.s [];obtain⟨w,o⟩:=WA n.v.s (by have:=n.h;unfold bC;omega);have m:=aej n.v.k n.v.n n.v.u n.v.s;have hi:=oe n.name;have l:=TS n.table;have e:bw I.qch [aO []]=some (aC false):=oe [];have f:bw I.qf [aO []]=some (aC true):=TS [];have g:n.a=Qr n.tag n.l n.r n.v n.table n.name:=rfl;rw[g];generalize (n.table==[] ||iy n.table)=r at *;generalize iy n.name=p at *;generalize wQ ⟨n.v.k,n.v.n,n.v.u,n.v.s⟩=q at *;have b:(¬n.table=[]∧n.table.isEmpty=false)∨(n.table=[]∧n.table.isEmpty=true):=by cases n.table<;>simp
 have a:(¬n.name=[]∧n.name.isEmpty=false)∨(n.name=[]∧n.name.isEmpty=true):=by cases n.name<;>simp
 by_cases i:n.tag=1
 ·have c:(n.tag==1)=true:=by simpa using i
  rcases b with b|b<;>rcases a with a|a<;>cases q<;>by_cases k:0≤n.v.n <;>
   simp[arm,adJ,eR,b,a,-eqa,h,c,m,k,o]
 have c:(n.tag==1)=false:=by simpa using i
 by_cases j:n.tag=2
 ·have d:(n.tag==2)=true:=by simpa using j
  rcases b with b|b<;>rcases a with a|a<;>cases x<;>cases p <;>
   simp[arm,adJ,eR,b,a,-eqa,h,c,d,hi,l,e,f]
 have d:(n.tag==2)=false:=by simpa using j
 rcases b with b|b<;>rcases a with a|a <;>
  simp[arm,adJ,eR,b,a,-eqa,h,c,d]
def Ez(i:Nat)(n:eP):Prop:=(iD n.tag=0∧n.l=-1∧n.r=-1)∨(iD n.tag=1∧(∃p:Nat,n.l=p∧p<i)∧n.r=-1)∨(iD n.tag=2∧(∃p:Nat,n.l=p∧p<i)∧∃p:Nat,n.r=p∧p<i)
def wF(p:Nat×Nat):aq:=aH [ap p.1,ap p.2]
instance:Nc wF 2 true:=⟨fun _=>rfl,fun _=>rfl⟩
instance:Fx wF:=⟨fun fl top base σ m x=>by simp[wF]⟩
abbrev vt:List Nat:=[2,3,6,7,8,9,10,11,12,16,17,18,19,20,21,22]
abbrev rx(b:Bool)(ns:List eP)(k:Nat)(c:aq)(all:List (Nat×Nat))(opn:List Nat):St:=
 ⟨[aH [.aa b (ns.map eP.a)],aI 0 0 0 0,am,am,.sl 1 k 0 all.length,.sl 2 k 0 opn.length,am,am,am,am,am,am,am,.aa b (ns.map eP.a),ap ns.length,ap k,c,am,am,am,am,am,am],
  [aB 1 0 [aH [.aa b (ns.map eP.a)]],aB 2 k (all.map wF),aB 1 k (dS opn)]⟩
def Wr(r:Option (Ex×St)):Prop:=∃s,r=some (.ret,s)∧s.env[2]?=some .ai∧s.env[3]?=some (aC false)
theorem adq{b:Bool}{g:List eP}{k:Nat}{n:eP}(f:g[k]?=some n)(all:List (Nat×Nat))(e:List Nat)(c:Bool)(o:bw I.qd [n.a]=some (aC c))
  (h:iD n.tag<0∨(e.length:Int)<iD n.tag∨c=false):Wr (dg 3 vt fU (run code fU (rx b g k am all e))):=by
 have p:=(ak.1 f).1;have d:∀h:k<g.length,g[k]'h=n:=fun _=>(ak.1 f).2;have j:(k:Int)<(g.length:Int):=by omega
 have m:=C0 n.tag;have a:n.a=Qr n.tag n.l n.r n.v n.table n.name:=rfl;rw[a]at o;by_cases i:iD n.tag<0
 ·exact⟨_,by simp[fU,j,f,d,a,m,i];rfl,rfl,rfl⟩
 by_cases l:(e.length:Int)<iD n.tag
 ·exact⟨_,by simp[fU,j,f,d,a,m,i,l];rfl,rfl,rfl⟩
 obtain rfl:c=false:=h.elim (fun h=>absurd h i) fun h=>h.elim (fun h=>absurd h l) id;exact⟨_,by simp[fU,j,f,d,a,m,i,l,o];rfl,rfl,rfl⟩
theorem zT(l:List Nat)(base:Nat)(σ:aw):(dS l).map (cr base σ)=dS l:=by
 unfold dS;rw[bT];exact aT fun y _=>by simp[cr,dH]
theorem C6(l:List Nat)(base:Nat)(σ:aw):(∀a,a∈dS l→aM (fz false true base σ 20 a)=aM a)↔True:=by
 simp only[iff_true];exact DH l false true base σ 19
theorem ap8{b:Bool}{d:List eP}(G:d.length≤8000){k:Nat}{n:eP}(l:d[k]?=some n)(all:List (Nat×Nat))(a:List Nat)(i:all.length=k)(F:a.length≤k)(m:bw I.qd [n.a]=some (aC true))(D:iD n.tag=0) :
  (¬(n.l=-1∧n.r=-1)∧Wr (dg 3 vt fU (run code fU (rx b d k am all a)))) ∨
  ((n.l=-1∧n.r=-1)∧dg 3 vt fU (run code fU (rx b d k am all a))=bU code 3 vt fU (rx b d (k+1) am (all++[(k,1)]) (a++[k]))):=by
 have o:=(ak.1 l).1;have e:∀h:k<d.length,d[k]'h=n:=fun _=>(ak.1 l).2;have s:(k:Int)<(d.length:Int):=by omega
 have q:=C0 n.tag;rw[D]at q;have c:n.a=Qr n.tag n.l n.r n.v n.table n.name:=rfl;rw[c]at m;have f:¬((a.length:Int)<0):=by omega
 have g:IntKind.i64.wrap (a.length:Int)=a.length:=by rw[qL (by omega) (by omega)]
 by_cases p:n.l=-1
 ·have j:(n.l != -1)=false:=by simpa using p
  by_cases r:n.r=-1
  ·refine .inr ⟨⟨p,r⟩,?_⟩;have z:(n.r != -1)=false:=by simpa using r
   have u:k+1≤bC:=by unfold bC;omega
   have x:a.length+1≤bC:=by unfold bC;omega
   have A:List.take k (all.map wF)=all.map wF:=ay (by simp[i]);have B:List.take a.length (dS a)=dS a:=ay (by simp);have E:wF (k,1)=aH [ap k,ap 1]:=rfl;have C:=cW o (by unfold bC;omega:d.length≤bC);have t:(all++[(k,1)]).length=k+1:=by simp[i]
   have w:(all++[(k,1)]).map wF=all.map wF++[aH [ap k,ap 1]]:=by rw[df];rfl
   simp only[rx,t,w,i];simp[fU,s,o,l,e,c,q,f,m,g,j,z,aZ 6,IC,append,i,A,u,B,x,C,ei,bR,bA,zT,C6,cr,dH]
  refine .inl ⟨fun h=>r h.2,?_⟩;have y:(n.r != -1)=true:=by simpa using r
  exact⟨_,by simp[fU,s,o,l,e,c,q,f,m,g,j,y,i];rfl,rfl,rfl⟩
 refine .inl ⟨fun h=>p h.1,?_⟩;have v:(n.l != -1)=true:=by simpa using p
 exact⟨_,by simp[fU,s,o,l,e,c,q,f,m,g,v,i];rfl,rfl,rfl⟩
theorem Nb{all:List (Nat×Nat)}{p:Nat}(h:p<all.length):(all.map wF)[p]?=some (aH [ap (all[p].1:Int),ap (all[p].2:Int)]):=by simp[h,wF]
theorem ap5{b:Bool}{a:List eP}(hn:a.length≤8000){k:Nat}{n:eP}(s:a[k]?=some n)(all:List (Nat×Nat))(o:List Nat)(p:Nat)(e:all.length=k)(L:(o++[p]).length≤k)(N:p<k)(hd:all[p]?.map (·.2)=some 0∨∀x∈all,x.2≤k+1)(t:bw I.qd [n.a]=some (aC true))(X:iD n.tag=1) :
  (¬(n.l=p∧n.r=-1)∧Wr (dg 3 vt fU (run code fU (rx b a k am all (o++[p]))))) ∨
  ((n.l=p∧n.r=-1)∧∃x:Nat×Nat,x.2≤k+2∧dg 3 vt fU (run code fU (rx b a k am all (o++[p])))=bU code 3 vt fU (rx b a (k+1) am (all++[x]) (o++[k]))):=by
 have u:=(ak.1 s).1;have f:∀h:k<a.length,a[k]'h=n:=fun _=>(ak.1 s).2;have B:(k:Int)<(a.length:Int):=by omega
 have z:=C0 n.tag;rw[X]at z;have c:n.a=Qr n.tag n.l n.r n.v n.table n.name:=rfl;rw[c]at t;simp at L;have g:¬((o.length:Int)+1<1):=by omega
 have j:IntKind.i64.wrap ((o.length:Int)+1-1)=o.length:=by rw[qL (by omega) (by omega)];omega
 have i:IntKind.i64.wrap (o.length:Int)=o.length:=by rw[qL (by omega) (by omega)]
 have U:(dS o++[aq.int .i64 (p:Int)])[o.length]?=some (ap (p:Int)):=by rw[bE (by simp)];simp
 have V:List.drop o.length (dS o++[aq.int .i64 (p:Int)])=[ap (p:Int)]:=List.drop_left' (by simp);have d:p<all.length:=by omega
 have F:=Nb d;have Y:all[p].2≤k+1:=by
  rcases hd with h|h
  ·rw[au d]at h;simp at h;omega
  exact h _ (aJ d)
 generalize D:all[p]=x at *;have m:∀h:p<all.length,all[p]'h=x:=fun _=>D;have E:wF x=aH [ap x.1,ap x.2]:=rfl;have T:IntKind.i64.wrap ((x.2:Int)+1)=((x.2+1:Nat):Int):=by rw[qL (by omega) (by omega)];omega
 by_cases w:n.l=p
 ·have q:(n.l != (p:Int))=false:=by simpa using w
  by_cases A:n.r=-1
  ·have P:(n.r != -1)=false:=by simpa using A
   refine .inr ⟨⟨w,A⟩,?_⟩;have H:k+1≤bC:=by unfold bC;omega
   have M:o.length+1≤bC:=by unfold bC;omega
   have Q:List.take k (all.map wF)=all.map wF:=ay (by simp[e]);have R:List.take o.length (dS o++[aq.int .i64 (p:Int)])=dS o:=fY (by simp);have S:=cW u (by unfold bC;omega:a.length≤bC);have C:∀x,(all++[x]).length=k+1:=fun x=>by simp[e]
   have K:∀x:Nat×Nat,(all++[x]).map wF=all.map wF++[aH [ap x.1,ap x.2]]:=fun x=>by rw[df];rfl
   have l:dS (o++[p])=dS o++[aq.int .i64 (p:Int)]:=by simp[ei]
   have G:∀y:Nat×Nat,rx b a (k+1) am (all++[y]) (o++[k])=⟨[aH [.aa b (a.map eP.a)],aI 0 0 0 0,am,am,.sl 1 (k+1) 0 (k+1),.sl 2 (k+1) 0 (o.length+1),am,am,am,am,am,am,am,.aa b (a.map eP.a),ap a.length,ap ((k:Int)+1),am,am,am,am,am,am,am],
     [aB 1 0 [aH [.aa b (a.map eP.a)]],aB 2 (k+1) (all.map wF++[aH [ap y.1,ap y.2]]),aB 1 (k+1) (dS o++[ap k])]⟩:=fun y=>by simp[C,K,ei,e]
   have Z:IntKind.i64.wrap 1=1:=rfl;refine⟨(if x.1<k then x.1 else k,x.2+1),by dsimp;omega,?_⟩;rw[G];simp only[rx,e,l];have r:∀v:Nat,(if (1:Int)<(v:Int)+1 then (v:Int)+1 else 1)=(v:Int)+1:=fun v=>by split<;>omega
   by_cases W:x.1<k<;>simp[fU,B,u,s,f,c,z,g,t,j,i,q,P,aZ 6,IC,append,e,Q,H,R,M,S,T,U,V,N,d,F,m,E,W,r,Z,ei,bR,bA,zT,C6,cr,dH]
  refine .inl ⟨fun h=>A h.2,?_⟩;have O:(n.r != -1)=true:=by simpa using A
  have l:dS (o++[p])=dS o++[aq.int .i64 (p:Int)]:=by simp[ei]
  simp only[rx,l];exact⟨_,by simp[fU,B,u,s,f,c,z,g,t,j,i,q,O,e,U,V];rfl,rfl,rfl⟩
 refine .inl ⟨fun h=>w h.1,?_⟩;have J:(n.l != (p:Int))=true:=by simpa using w
 have l:dS (o++[p])=dS o++[aq.int .i64 (p:Int)]:=by simp[ei]
 simp only[rx,l];exact⟨_,by simp[fU,B,u,s,f,c,z,g,t,j,i,J,e,U,V];rfl,rfl,rfl⟩
theorem ao7{b:Bool}{c:List eP}(hn:c.length≤8000){k:Nat}{n:eP}(w:c[k]?=some n)(all:List (Nat×Nat))(o:List Nat)(p q:Nat)(m:all.length=k)(an:(o++[p,q]).length≤k)(J:p<k)(K:q<k)(hd:∀x∈all,x.2≤k+1)(D:bw I.qd [n.a]=some (aC true))(h0:iD n.tag=2) :
  (¬(n.l=p∧n.r=q)∧Wr (dg 3 vt fU (run code fU (rx b c k am all (o++[p,q]))))) ∨
  ((n.l=p∧n.r=q)∧∃x:Nat×Nat,x.2≤k+2∧dg 3 vt fU (run code fU (rx b c k am all (o++[p,q])))=bU code 3 vt fU (rx b c (k+1) am (all++[x]) (o++[k]))):=by
 have E:=(ak.1 w).1;have e:∀h:k<c.length,c[k]'h=n:=fun _=>(ak.1 w).2;have S:(k:Int)<(c.length:Int):=by omega
 have H:=C0 n.tag;rw[h0]at H;have d:n.a=Qr n.tag n.l n.r n.v n.table n.name:=rfl;rw[d]at D;simp at an;have f:¬((o.length:Int)+2<2):=by omega
 have a:¬((o.length:Int)+1+1<2):=by omega
 have l:IntKind.i64.wrap ((o.length:Int)+2-2)=o.length:=by rw[qL (by omega) (by omega)];omega
 have j:IntKind.i64.wrap (o.length:Int)=o.length:=by rw[qL (by omega) (by omega)]
 have hN:dS (o++[p,q])=dS o++([ap (p:Int),ap (q:Int)]:List aq):=by simp[ei]
 have W:(dS o++([ap (p:Int),ap (q:Int)]:List aq))[o.length]?=some (ap (p:Int)):=by rw[bE (by simp)];simp
 have X:(dS o++([ap (p:Int),ap (q:Int)]:List aq))[o.length+1]?=some (ap (q:Int)):=by rw[bE (by simp)];simp
 have Y:List.drop o.length (dS o++([ap (p:Int),ap (q:Int)]:List aq))=[ap (p:Int),ap (q:Int)]:=List.drop_left' (by simp);have g:p<all.length:=by omega
 have i:q<all.length:=by omega
 have B:=Nb g;have C:=Nb i;have ar:all[p].2≤k+1:=hd _ (aJ g);have av:all[q].2≤k+1:=hd _ (aJ i);generalize ae:all[p]=x at *;generalize af:all[q]=y at *;have r:∀h:p<all.length,all[p]'h=x:=fun _=>ae;have s:∀h:q<all.length,all[q]'h=y:=fun _=>af;have z:wF x=aH [ap x.1,ap x.2]:=rfl;have A:wF y=aH [ap y.1,ap y.2]:=rfl;have P:IntKind.i64.wrap ((x.2:Int)+1)=((x.2+1:Nat):Int):=by rw[qL (by omega) (by omega)];omega
 have Q:IntKind.i64.wrap ((y.2:Int)+1)=((y.2+1:Nat):Int):=by rw[qL (by omega) (by omega)];omega
 by_cases U:n.l=p
 ·have u:(n.l != (p:Int))=false:=by simpa using U
  by_cases V:n.r=q
  ·have L:(n.r != (q:Int))=false:=by simpa using V
   refine .inr ⟨⟨U,V⟩,?_⟩;have F:k+1≤bC:=by unfold bC;omega
   have G:o.length+1≤bC:=by unfold bC;omega
   have M:List.take k (all.map wF)=all.map wF:=ay (by simp[m]);have N:List.take o.length (dS o++([ap (p:Int),ap (q:Int)]:List aq))=dS o:=fY (by simp);have O:=cW E (by unfold bC;omega:c.length≤bC);have ad:∀x,(all++[x]).length=k+1:=fun x=>by simp[m]
   have al:∀x:Nat×Nat,(all++[x]).map wF=all.map wF++[aH [ap x.1,ap x.2]]:=fun x=>by rw[df];rfl
   have ag:∀y:Nat×Nat,rx b c (k+1) am (all++[y]) (o++[k])=⟨[aH [.aa b (c.map eP.a)],aI 0 0 0 0,am,am,.sl 1 (k+1) 0 (k+1),.sl 2 (k+1) 0 (o.length+1),am,am,am,am,am,am,am,.aa b (c.map eP.a),ap c.length,ap ((k:Int)+1),am,am,am,am,am,am,am],
     [aB 1 0 [aH [.aa b (c.map eP.a)]],aB 2 (k+1) (all.map wF++[aH [ap y.1,ap y.2]]),aB 1 (k+1) (dS o++[ap k])]⟩:=fun y=>by simp[ad,al,ei,m]
   have ww:IntKind.i64.wrap 1=1:=rfl;have R:IntKind.i64.wrap 2=2:=rfl;have t:∀v:Nat,(if (1:Int)<(v:Int)+1 then (v:Int)+1 else 1)=(v:Int)+1:=fun v=>by split<;>omega
   by_cases Z:x.1<k
   all_goals by_cases T:y.1<(if x.1<k then x.1 else k)
   all_goals by_cases c3:x.2<y.2
   all_goals refine⟨(if y.1<(if x.1<k then x.1 else k) then y.1 else (if x.1<k then x.1 else k),if x.2<y.2 then y.2+1 else x.2+1),by dsimp;split<;>omega,?_⟩
   all_goals rw[ag]
   all_goals simp only[rx,m,hN]
   all_goals simp[Z]at T
   all_goals first
    |(have ab:=Nat.not_lt.2 T;simp[fU,S,E,w,e,d,H,f,a,D,l,j,u,L,aZ 6,IC,append,m,M,F,N,G,O,P,Q,W,X,Y,J,K,g,i,B,C,r,s,z,A,Z,T,ab,c3,t,ww,R,ei,bR,bA,zT,C6,cr,dH])
    |simp[fU,S,E,w,e,d,H,f,a,D,l,j,u,L,aZ 6,IC,append,m,M,F,N,G,O,P,Q,W,X,Y,J,K,g,i,B,C,r,s,z,A,Z,T,c3,t,ww,R,ei,bR,bA,zT,C6,cr,dH]
  refine .inl ⟨fun h=>V h.2,?_⟩;have ao:(n.r != (q:Int))=true:=by simpa using V
  simp only[rx,hN];exact⟨_,by simp[fU,S,E,w,e,d,H,f,a,D,l,j,u,ao,m,W,X,Y];rfl,rfl,rfl⟩
 refine .inl ⟨fun h=>U h.1,?_⟩;have ah:(n.l != (p:Int))=true:=by simpa using U
 simp only[rx,hN];exact⟨_,by simp[fU,S,E,w,e,d,H,f,a,D,l,j,ah,m,W,X,Y];rfl,rfl,rfl⟩
theorem A0{l:List Nat}(h:1≤l.length):∃o p,l=o++[p]:=
 ⟨l.dropLast,l.getLast (by intro e;subst e;simp at h),(dQ _).symm⟩
theorem QY{l:List Nat}(h:2≤l.length):∃o p q,l=o++[p,q]:=by
 obtain⟨o',q,rfl⟩:=A0 (show 1≤l.length by omega);obtain⟨o,p,rfl⟩:=A0 (show 1≤o'.length by simp at h;omega);exact⟨o,p,q,by simp⟩
theorem adX(b:Bool)(f:List eP)(G:f.length≤8000):∀m k (all:List (Nat×Nat)) (a:List Nat),k+m=f.length→all.length=k→(∀p∈a,p<k)→a.length≤k→(∀x∈all,x.2≤k+1) →
  Wr (bU code 3 vt fU (rx b f k am all a))∨∃d e,bU code 3 vt fU (rx b f k am all a)=some (.ext 0,rx b f f.length (aC false) d e)∧d.length=f.length∧e.length≤f.length∧(∀i n,k≤i→f[i]?=some n→Ez i n):=by
 intro m;induction m with
 |zero=>
  intro k all a N z u g hd;obtain rfl:k=f.length:=by omega
  refine .inr ⟨all,a,?_,z,g,fun i n hi h=>by have:=(ak.1 h).1;omega⟩;rw[aZ];simp[fU]
 |succ m O=>
  intro k all a N z u g hd;have I:k<f.length:=by omega
  have r:f[k]?=some f[k]:=au I;generalize f[k]=n at r;obtain⟨c,C⟩:=aaF n;rw[aZ];by_cases M:iD n.tag<0∨(a.length:Int)<iD n.tag∨c=false
  ·exact .inl (adq r all a c C M)
  have E:c=true:=by cases c<;>simp_all
  subst E;have J:0≤iD n.tag:=by omega
  have Q:iD n.tag≤a.length:=by omega
  have K:iD n.tag=0∨iD n.tag=1∨iD n.tag=2:=by
   unfold iD at J ⊢
   repeat' split
   all_goals first|omega|simp_all
  have next:∀(x:Nat×Nat) (o:List Nat),x.2≤k+2→(∀p∈o,p<k)→o.length≤k→Ez k n →
    Wr (bU code 3 vt fU (rx b f (k+1) am (all++[x]) (o++[k])))∨∃d e,bU code 3 vt fU (rx b f (k+1) am (all++[x]) (o++[k]))=some (.ext 0,rx b f f.length (aC false) d e)∧d.length=f.length∧e.length≤f.length∧(∀i n,k≤i→f[i]?=some n→Ez i n):=by
   intro x o D u g L
   rcases O (k+1) (all++[x]) (o++[k]) (by omega) (by simp[z]) (fun p A=>by
    rcases aY.1 A with A|A
    ·have:=u p A;omega
    ·simp at A;omega) (by simp;omega) (fun y r=>by
    rcases aY.1 r with r|r
    ·have:=hd y r;omega
    rw[aP.1 r];omega) with h|⟨d,e,h,e1,e2,e3⟩
   ·exact .inl h
   refine .inr ⟨d,e,h,e1,e2,fun i P hi w=>?_⟩;by_cases F:i=k
   ·subst F;rw[r]at w;cases w;exact L
   exact e3 i P (by omega) w
  rcases K with v|v|v
  ·rcases ap8 (b:=b) G r all a z g C v with⟨_,h⟩|⟨j,h⟩
   ·exact .inl h
   rw[h];exact next (k,1) a (by simp) u g (.inl ⟨v,j⟩)
  ·obtain⟨o,p,rfl⟩:=A0 (l:=a) (by omega);have t:=u p (by simp);have s:o.length≤k:=by simp at g;omega
   rcases ap5 (b:=b) G r all o p z g t (.inr hd) C v with⟨_,h⟩|⟨j,x,D,h⟩
   ·exact .inl h
   rw[h];exact next x o D (fun q H=>u q (by simp[H])) s (.inr (.inl ⟨v,⟨p,j.1,t⟩,j.2⟩))
  obtain⟨o,p,q,rfl⟩:=QY (l:=a) (by omega);have t:=u p (by simp);have B:=u q (by simp);have s:o.length≤k:=by simp at g;omega
  rcases ao7 (b:=b) G r all o p q z g t B hd C v with⟨_,h⟩|⟨j,x,D,h⟩
  ·exact .inl h
  rw[h];exact next x o D (fun q H=>u q (by simp[H])) s (.inr (.inr ⟨v,⟨p,j.1,t⟩,⟨q,j.2,B⟩⟩))
structure ml (ns:List eP):Prop where
 pos:0<ns.length
 le:ns.length≤300
 node:∀i n,ns[i]?=some n→Ez i n
theorem T4(b:Bool)(c:List eP)(D:c.length≤8000):∃(R:aq) (t:Bool),bw I.qe [aH [.aa b (c.map eP.a)]]=some (fb [R,aC t])∧(t=true→ml c):=by
 rw[aS aps rfl];rcases adX b c D c.length 0 [] [] (by omega) rfl (by simp) (by simp) (by simp) with⟨s,h,z,A⟩|⟨all,k,h,l,G,v⟩
 ·simp[rx]at h;exact⟨.aa false [],false,by simp[arp,YZ,h,z,A],fun e=>by cases e⟩
 simp[rx]at h;by_cases o:k.length=1
 ·have E:((k.length:Int)==1)=true:=by rw[o];rfl
  have w:0<c.length:=by omega
  have B:((all.length:Nat):Int)=(c.length:Int):=by omega
  by_cases C:c.length≤300
  ·have g:((c.length:Int)≤300):=by omega
   have F:IntKind.i64.wrap ((c.length:Int)-1)=((c.length-1:Nat):Int):=by rw[qL (by omega) (by omega)];omega
   have j:c.length-1<all.length:=by omega
   have u:c.length-1<c.length:=by omega
   have q:=Nb j;have m:∀h:c.length-1<all.length,all[c.length-1]'h=all[c.length-1]'j:=fun _=>rfl;generalize all[c.length-1]=x at *;have p:wF x=aH [ap x.1,ap x.2]:=rfl;refine⟨.aa false (all.map wF),decide ((x.2:Int)≤20),?_,fun _=>⟨w,C,fun i n h=>v i n (cI _) h⟩⟩;have f:List.take c.length (all.map wF)=all.map wF:=ay (by simp[l]);have d:∀σ,(all.map wF).map (fz false false 0 σ 19)=all.map wF:=fun σ=>by
    rw[bT];exact aT fun y _=>Fx.fx false false 0 σ 16 y
   simp[arp,YZ,h,o,g,l,F,j,u,q,m,p,f,d];intro a x y _ h;subst h;exact congrArg aM (Fx.fx false false 0 _ 15 (x,y))
  have g:¬((c.length:Int)≤300):=by omega
  refine⟨.aa false (all.map wF),false,?_,fun e=>by cases e⟩;have f:List.take c.length (all.map wF)=all.map wF:=ay (by simp[l]);have d:∀σ,(all.map wF).map (fz false false 0 σ 19)=all.map wF:=fun σ=>by
   rw[bT];exact aT fun y _=>Fx.fx false false 0 σ 16 y
  simp[arp,YZ,h,o,g,l,f,d];intro a x y _ h;subst h;exact congrArg aM (Fx.fx false false 0 _ 15 (x,y))
 refine⟨.aa false (all.map wF),false,?_,fun e=>by cases e⟩;have f:List.take c.length (all.map wF)=all.map wF:=ay (by simp[l]);have d:∀σ,(all.map wF).map (fz false false 0 σ 19)=all.map wF:=fun σ=>by
  rw[bT];exact aT fun y _=>Fx.fx false false 0 σ 16 y
 have r:((k.length:Int)==1)=false:=by simp;omega
 simp[arp,YZ,h,o,r,l,f,d];intro a x y _ h;subst h;exact congrArg aM (Fx.fx false false 0 _ 15 (x,y))
theorem aaA(b:Bool)(a:List eP)(f:a.length≤8000):∃e:Int,bw I.qb [aH [.aa b (a.map eP.a)]]=some (ap e)∧(e=0→ml a):=by
 rw[aS apq rfl];obtain⟨R,t,h,g⟩:=T4 true a f;obtain⟨j,i,d,c⟩:=T4 false a f;cases b with
 |true=>cases t with
  |true=>exact⟨0,by simp[arq,Yd,h],fun _=>g rfl⟩
  |false=>exact⟨180,by simp[arq,Yd,h],fun e=>by cases e⟩
 |false=>cases i with
  |true=>exact⟨0,by simp[arq,Yd,d],fun _=>c rfl⟩
  |false=>exact⟨180,by simp[arq,Yd,d],fun e=>by cases e⟩
abbrev jh(x:List EN):aq:=aH [.aa false (x.map EN.a)]
def Qb(by':Int)(n:EN):EN:=⟨n.tag,if 0≤n.l then IntKind.i64.wrap (n.l+by') else n.l,if 0≤n.r then IntKind.i64.wrap (n.r+by') else n.r,n.col,n.v⟩
theorem aj0(a:Int)(n:EN):(Qb a n).a=aH [ap n.tag,ap (if 0≤n.l then IntKind.i64.wrap (n.l+a) else n.l),ap (if 0≤n.r then IntKind.i64.wrap (n.r+a) else n.r),ap n.col,ap n.v.k,ap n.v.n,.int .u64 n.v.u,aO n.v.s]:=rfl
abbrev aig(root:EN)(out:List EN)(l r:Int)(x:List EN):aw:=[aB 8 0 [root.a],aB 1 0 [aH [.ai]],aB 8 out.length (out.map EN.a),aB 2 0 [aH [ap l,ap r]],aB 1 0 [jh x]]
theorem VT(root:EN)(a:List EN)(l r:Int)(x:List EN)(w:a.length+x.length≤8000) :
  cC code I.qca [.sl 2 a.length 0 a.length,jh x] (aig root a l r x)=some (.sl 2 (a.length+x.length) 0 (a.length+x.length),aig root (a++x.map (Qb a.length)) l r x++[aB 1 0 [jh x]]):=by
 have u:x.length≤bC:=by unfold bC;omega
 have key:=cX (base:=6) (clr:=[5,9,10,11]) (b:=Ga)
  (fun k=>⟨[.sl 2 (a.length+k) 0 (a.length+k),jh x,aI 5 0 0 0,.ai,ap a.length,am,.aa false (x.map EN.a),ap x.length,ap k,am,am,am],[aB 8 0 [root.a],aB 1 0 [aH [.ai]],aB 8 (a.length+k) ((a++(x.take k).map (Qb a.length)).map EN.a),aB 2 0 [aH [ap l,ap r]],aB 1 0 [jh x],aB 1 0 [jh x]]⟩) x.length
  (.ext 0,⟨[.sl 2 (a.length+x.length) 0 (a.length+x.length),jh x,aI 5 0 0 0,.ai,ap a.length,am,.aa false (x.map EN.a),ap x.length,ap x.length,aC false,am,am],[aB 8 0 [root.a],aB 1 0 [aH [.ai]],aB 8 (a.length+x.length) ((a++x.map (Qb a.length)).map EN.a),aB 2 0 [aH [ap l,ap r]],aB 1 0 [jh x],aB 1 0 [jh x]]⟩)
  (fun k g=>by
   have q:x[k]?=some x[k]:=au g;have f:∀h:k<x.length,x[k]'h=x[k]'g:=fun _=>rfl;have i:(k:Int)<(x.length:Int):=by omega
   have v:=cW g u;have p:a++(x.take (k+1)).map (Qb a.length)=(a++(x.take k).map (Qb a.length))++[Qb a.length x[k]]:=by
    rw[eY,q,Option.toList_some,df,dv];rfl
   have e:(a++(x.take k).map (Qb a.length)).length=a.length+k:=by simp;omega
   rw[p];generalize a++(x.take k).map (Qb a.length)=c at *;generalize x[k]=n at *;have j:a.length+k+1≤bC:=by unfold bC;omega
   have o:List.take (a.length+k) (c.map EN.a)=c.map EN.a:=ay (by simp[e]);have m:n.a=aH [ap n.tag,ap n.l,ap n.r,ap n.col,ap n.v.k,ap n.v.n,.int .u64 n.v.u,aO n.v.s]:=rfl;rw[df,aW,bm,aj0];have d:a.length+(k+1)=a.length+k+1:=by omega
   rw[d];by_cases s:0≤n.l<;>by_cases t:0≤n.r <;>
    simp[Ga,i,q,f,m,s,t,append,j,o,e,v,bR,bA,cr,dH])
  (by
   rw[du];simp[Ga])
 rw[cw akN rfl];simp at key;simp[auk,ae6,key]
abbrev On(ps:aq)(np i m:Nat)(c:aq)(root:EN):List aq:=[root.a,ps,aI 0 0 0 0,aI 1 0 0 0,.sl 2 m 0 m,aI 3 0 0 0,am,am,ps,ap np,ap i,c]
abbrev aco(root:EN)(out:List EN)(l r:Int):aw:=[aB 8 0 [root.a],aB 1 0 [aH [.ai]],aB 8 out.length (out.map EN.a),aB 2 0 [aH [ap l,ap r]]]
noncomputable abbrev goE(root:EN)(ps:aq)(np i:Nat)(out:List EN)(l r:Int):Option (Ex×St):=
 bU code 4 [6,7,11] Cw ⟨On ps np i out.length am root,aco root out l r⟩
theorem zk(root:EN)(o:Bool)(xs:List (List EN))(i:Nat)(p:List EN)(hi:xs[i]?=some p)(z:xs.length≤2)(a:List EN)(x:a.length+p.length≤8000)(l r:Int) :
  goE root (.aa o (xs.map jh)) xs.length i a l r=goE root (.aa o (xs.map jh)) xs.length (i+1) (a++p.map (Qb a.length)) (if i=0 then ((a.length+p.length:Nat):Int)-1 else l) (if i=0 then r else ((a.length+p.length:Nat):Int)-1):=by
 have f:=(ak.1 hi).1;have d:=VT root a l r p x;have w:(i:Int)<(xs.length:Int):=by omega
 have e:∀h:i<xs.length,xs[i]'h=p:=fun _=>(ak.1 hi).2;have A:IntKind.i64.wrap ((i:Int)+1)=(i:Int)+1:=qL (by omega) (by omega);have q:IntKind.i64.wrap (((a.length:Int)+(p.length:Int))-1)=((a.length:Int)+(p.length:Int))-1:=qL (by omega) (by omega);have b:(a++p.map (Qb a.length)).length=a.length+p.length:=by simp
 have s:((a.length+p.length:Nat):Int)=(a.length:Int)+(p.length:Int):=by omega
 have y:∀base σ m,(List.map (fz false true base σ (m+3)) ((a++p.map (Qb a.length)).map EN.a))=(a++p.map (Qb a.length)).map EN.a:=fun base σ m=>aci _ false true base σ (m+1);unfold goE;rw[aZ,b,s];simp only[aig,b]at d;generalize a++p.map (Qb a.length)=c at *;simp only[aco,b];have g:∀base σ,List.map (cr base σ∘EN.a) c=List.map EN.a c:=fun base σ=>by
  have:=y base σ 17;rw[bT]at this;exact this
 by_cases t:i=0
 ·subst t;have n:IntKind.i64.wrap 1=1:=rfl;have j:(0:Int)<(xs.length:Int):=by omega
  simp[n,Cw,On,f,hi,j,e,d,q,b,g,bR,bA,cr,dH]
 have u:¬(i:Int)=0:=by omega
 have v:i=1:=by omega
 subst v;have k:(1:Int)<(xs.length:Int):=by omega
 have n:IntKind.i64.wrap 2=2:=rfl;simp[n,Cw,On,f,hi,k,e,d,q,b,g,bR,bA,cr,dH]
theorem aiV(k n u:Int)(s:List UInt8):okV ⟨k,n,u,s⟩=if k=0 then (decide (n=0)&&decide (u=0)&&decide (s=[])) else if k=1 then (decide (u=0)&&decide (s=[])&&(decide (n=0) ||decide (n=1)))
  else if k=2 then (decide (u=0)&&decide (s=[])) else if k=3 then (decide (n=0)&&decide (u=0)&&decide (s.length≤40)) else (decide (k=4)&&decide (s=[])):=by
 rw[eK];simp only[okV,Hy,aX];by_cases c:k=0
 ·subst c;simp[and_assoc]
 by_cases d:k=1
 ·subst d;by_cases a:n=0
  ·simp[a]
  by_cases b:n=1
  ·simp[b]
  simp[a,b]
 by_cases e:k=2
 ·subst e;simp
 by_cases f:k=3
 ·subst f;by_cases a:s.length≤40<;>simp[a]
 by_cases g:k=4
 ·subst g;simp
 simp[c,d,e,f,g]
def kh(e:List EN):Nat→Nat
 |0=>0
 |m+1=>
  match e[m]? with
  |none=>0
  |some n=>
   if dt n.tag<0∨iq n=false then 0
   else if dt n.tag=0 then (if n.l=-1∧n.r=-1 then 1 else 0)
   else if kh e m=0 then 0
   else if dt n.tag=1 then (if n.l=(m:Int)-1∧n.r=-1 then kh e m+1 else 0)
   else if kh e (m-kh e m)=0∨n.r≠(m:Int)-1∨n.l≠(m:Int)-1-kh e m then 0
   else kh e (m-kh e m)+kh e m+1
termination_by m=>m
decreasing_by all_goals omega
end Go.AM
namespace Go.AM
open P
set_option maxHeartbeats 64000000
set_option maxRecDepth 40000
def UP(e:List EN):Nat→List Nat→Prop
 |k,[]=>k=0
 |k,p::r=>k=p+1∧0<kh e k∧UP e (k-kh e k) r
theorem Wh{e:List EN}{m:Nat}{n:EN}(a:e[m]?=some n):kh e (m+1) =
   if dt n.tag<0∨iq n=false then 0
   else if dt n.tag=0 then (if n.l=-1∧n.r=-1 then 1 else 0)
   else if kh e m=0 then 0
   else if dt n.tag=1 then (if n.l=(m:Int)-1∧n.r=-1 then kh e m+1 else 0)
   else if kh e (m-kh e m)=0∨n.r≠(m:Int)-1∨n.l≠(m:Int)-1-kh e m then 0
   else kh e (m-kh e m)+kh e m+1:=by
 rw[kh,a]
theorem Vx{e:List EN}{k:Nat}{n:EN}(x:e[k]?=some n){a o v o':List Nat}(m:UP e k o.reverse)(c:sJ k n a o=some (v,o')):UP e (k+1) o'.reverse∧v.length=a.length+1:=by
 have d:=Wh x;unfold sJ at c;split at c
 ·cases c
 rename_i u;have i:¬(dt n.tag<0∨iq n=false):=fun h=>u (h.elim .inl fun h=>.inr (.inr h));have f:dt n.tag≤o.length:=by
  have:¬((o.length:Int)<dt n.tag):=fun h=>u (.inr (.inl h));omega
 have z:=wA n.tag;rw[if_neg i]at d;have y:0≤dt n.tag:=by
  have:¬(dt n.tag<0):=fun h=>i (.inl h);omega
 clear u i;rcases (by omega:dt n.tag=0∨dt n.tag=1∨dt n.tag=2) with l|l|l
 ·rw[l]at c d;simp only[Int.toNat_zero,FO,List.drop_length]at c;split at c
  ·rename_i g;cases c;rw[if_pos rfl,if_pos g]at d;refine⟨?_,by simp⟩;rw[gV];refine⟨rfl,by rw[d];decide,?_⟩;rw[d];simpa using m
  cases c
 ·rw[l]at c d f;obtain⟨b,p,rfl⟩:∃b p,o=b++[p]:=by
   rcases kT o with h|⟨b,p,h⟩
   ·subst h;simp at f
   exact⟨b,p,by simpa using h⟩
  have r:(b++[p]).drop ((b++[p]).length-(1:Int).toNat)=[p]:=by
   have:(b++[p]).length-(1:Int).toNat=b.length:=by simp
   rw[this,p8]
  rw[r]at c;simp only at c;rw[gV]at m;obtain⟨B,C,w⟩:=m;split at c
  ·rename_i g;cases c;have j:kh e k≠0:=by omega
   rw[if_neg (by decide),if_neg j,if_pos rfl,if_pos ⟨by omega,g.2⟩]at d;refine⟨?_,by simp⟩;have s:(b++[p]).take ((b++[p]).length-1)=b:=by
    have:(b++[p]).length-1=b.length:=by simp
    rw[this,List.take_left]
   rw[s,gV];refine⟨rfl,by rw[d];omega,?_⟩;rw[d,show k+1-(kh e k+1)=k-kh e k by omega];exact w
  cases c
 rw[l]at c d f;obtain⟨b,p,q,rfl⟩:∃b p q,o=b++[p,q]:=by
  rcases kT o with h|⟨A,q,h⟩
  ·subst h;simp at f
  rcases kT A with t|⟨b,p,t⟩
  ·subst t h;simp at f
  exact⟨b,p,q,by rw[h,t];simp⟩
 have r:(b++[p,q]).drop ((b++[p,q]).length-(2:Int).toNat)=[p,q]:=by
  have:(b++[p,q]).length-(2:Int).toNat=b.length:=by simp
  rw[this,p8]
 rw[r]at c;simp only at c;rw[gV]at m;obtain⟨B,C,w,E,D⟩:=m;split at c
 ·rename_i g;cases c;have j:kh e k≠0:=by omega
  rw[if_neg (by decide),if_neg j,if_neg (by decide),if_neg (by
   rintro (h|h|h)
   ·omega
   ·exact h (by omega)
   exact h (by omega))]at d
  refine⟨?_,by simp⟩;have s:(b++[p,q]).take ((b++[p,q]).length-2)=b:=by
   have:(b++[p,q]).length-2=b.length:=by simp
   rw[this,List.take_left]
  rw[s,gV];refine⟨rfl,by rw[d];omega,?_⟩;rw[d,show k+1-(kh e (k-kh e k)+kh e k+1)=k-kh e k-kh e (k-kh e k) by omega];exact D
 cases c
theorem Nz(e:List EN):∀k,k≤e.length→∀a o,ir (e.take k) 0 [] []=some (a,o)→UP e k o.reverse∧a.length=k:=by
 intro k;induction k with
 |zero=>
  intro _ a o h;simp[ir]at h;obtain⟨rfl,rfl⟩:=h;exact⟨rfl,rfl⟩
 |succ k f=>
  intro i a o h;have b:k<e.length:=by omega
  rw[dq b,ti]at h;cases hf:ir (e.take k) 0 [] [] with
  |none=>rw[hf]at h;cases h
  |some q=>
   obtain⟨c,g⟩:=q;rw[hf]at h;simp only[cG,cD,dd]at h;rw[eM (by omega)]at h;obtain⟨d,j⟩:=f (by omega) c g hf;obtain⟨j1,j2⟩:=Vx (au b) d h;exact⟨j1,by omega⟩
end Go.AM
namespace Go.AM
open P
set_option maxHeartbeats 64000000
set_option maxRecDepth 40000
attribute [local simp] aG bj
theorem zJ(root:EN)(c:Bool)(xs:List (List EN))(b:List EN)(l r:Int)(o:b.length≤8000)
  (h:goE root (.aa c (xs.map jh)) xs.length 0 [] (-1) (-1)=goE root (.aa c (xs.map jh)) xs.length xs.length b l r) :
  bw I.qbz [root.a,.aa c (xs.map jh)]=some (jh (b++[⟨root.tag,l,r,root.col,root.v⟩])):=by
 have k:goE root (.aa c (xs.map jh)) xs.length xs.length b l r=some (.ext 0,⟨(On (.aa c (xs.map jh)) xs.length xs.length b.length am root).set 11 (aC false),aco root b l r⟩):=by
  unfold goE;rw[aZ];simp[Cw]
 rw[k]at h;have m:root.a=aH [ap root.tag,ap root.l,ap root.r,ap root.col,ap root.v.k,ap root.v.n,.int .u64 root.v.u,aO root.v.s]:=rfl;have e:b.length+1≤bC:=by unfold bC;omega
 have f:List.take b.length (b.map EN.a)=b.map EN.a:=ay (by simp);have d:List.take (b.length+1) (b.map EN.a++[aq.agg [ap root.tag,ap l,ap r,ap root.col,ap root.v.k,ap root.v.n,.int .u64 root.v.u,aO root.v.s]])=b.map EN.a++[aq.agg [ap root.tag,ap l,ap r,ap root.col,ap root.v.k,ap root.v.n,.int .u64 root.v.u,aO root.v.s]]:=ay (by simp);have i:∀σ,List.map (fz false false 0 σ 18∘EN.a) b=List.map EN.a b:=fun σ=>aT fun y _=>Fx.fx false false 0 σ 15 y;have j:∀σ (a:EN),fz false false 0 σ 18 a.a=a.a:=fun σ a=>Fx.fx false false 0 σ 15 a;unfold goE at h;simp only[On,aco,bD,bm,List.set,bd]at h;have n:jh (b++[⟨root.tag,l,r,root.col,root.v⟩])=aH [.aa false (b.map EN.a++[aH [ap root.tag,ap l,ap r,ap root.col,ap root.v.k,ap root.v.n,.int .u64 root.v.u,aO root.v.s]])]:=by
  simp[jh];rfl
 rw[aS akP rfl,n];rw[m]at h ⊢;have g:(xs.map jh).length=xs.length:=dm _;generalize xs.map jh=vs at *;rw[←g]at h;simp[auw,agt,h,append,f,e,d,i,j]
theorem Xx(root:EN)(d:Bool)(xs:List (List EN))(f:xs.length≤2)(e:∀x∈xs,x.length≤1000):∃es:List EN,es.length≤2001∧bw I.qbz [root.a,.aa d (xs.map jh)]=some (jh es):=by
 match xs,f,e with
 |[],_,_=>exact⟨_,by simp,zJ root d [] [] (-1) (-1) (by simp) rfl⟩
 |[a],_,e=>
  have la:=e a (by simp);refine⟨_,?_,zJ root d [a] _ _ _ ?_ (zk root d [a] 0 a rfl (by simp) [] (by simp;omega) (-1) (-1))⟩
  ·simp;omega
  simp;omega
 |[a,b],_,e=>
  have la:=e a (by simp);have i:=e b (by simp);have g:=zk root d [a,b] 0 a rfl (by simp) [] (by simp;omega) (-1) (-1);have h:=zk root d [a,b] 1 b rfl (by simp) ([]++a.map (Qb (([]:List EN).length))) (by simp;omega) (((([]:List EN).length+a.length:Nat):Int)-1) (-1);refine⟨_,?_,zJ root d [a,b] _ _ _ ?_ (g.trans h)⟩
  ·simp;omega
  simp;omega
 |a::b::c::r,f,_=>simp at f
theorem aiz{e:List EN}(h:wa e=true):e.length≤1000:=by
 unfold wa at h;split at h
 ·cases h
 rename_i all a b;have:=(Nz e e.length (aF _) all a (by rw[du];exact b)).2;simp at h;omega
theorem Uf(x:List EN)(h:x.length≤8000):bw I.qbo [aH [.aa false (x.map EN.a)]]=some (ap (if wa x then 0 else 200)):=zf false x (by unfold bC;omega)
theorem Rb(root:EN)(f:Bool)(xs:List (List EN))(y:xs.length≤2)(l:∀x∈xs,x.length≤1000):∃(es:List EN) (t:Int),bw I.qcb [root.a,.aa f (xs.map jh)]=some (fb [jh es,ap t])∧es.length≤1000∧(t=0→wa es=true):=by
 have r:root.a=aH [ap root.tag,ap root.l,ap root.r,ap root.col,ap root.v.k,ap root.v.n,.int .u64 root.v.u,aO root.v.s]:=rfl;have z:∀fl top base σ m,fz fl top base σ (m+3) root.a=root.a:=fun fl top base σ m=>Fx.fx fl top base σ m root;have s:∀fl top base σ m (x:List EN),fz fl top base σ (m+3) (jh x)=jh x:=fun fl top base σ m x=>by simp[jh]
 have loop:=nT (base:=2) (clr:=[4,5,6,12,13]) (b:=w9) xs (fun k=>⟨[root.a,.aa f (xs.map jh),aI 0 0 0 0,aI 1 0 0 0,am,am,am,am,am,.aa f (xs.map jh),ap xs.length,ap k,am,am,am],[aB 8 0 [root.a],aB 1 0 [aH [.ai]]]⟩) (fun x=>!wa x)
  (.ext 0,⟨[root.a,.aa f (xs.map jh),aI 0 0 0 0,aI 1 0 0 0,am,am,am,am,am,.aa f (xs.map jh),ap xs.length,ap xs.length,aC false,am,am],[aB 8 0 [root.a],aB 1 0 [aH [.ai]]]⟩) (fun o=>∃q,o=(.ret,q)∧q.env[4]?=some (ap 200)∧q.env[3]?=some (aI 1 0 0 0)∧q.st[1]?=some (aB 1 0 [aH [.ai]]))
  (fun k x i d p=>by
   have j:∀h:k<xs.length,xs[k]'h=x:=fun h=>(ak.1 d).2;have c:wa x=true:=by simpa using p
   have a:=Uf x (by have:=l x (aN d);omega);rw[c]at a;have v:xs.length≤bC:=by unfold bC;omega
   have D:=cW i v;simp[w9,i,d,j,a,D,z,s,bR,bA,cr,dH])
  (fun k x i d p=>by
   have j:∀h:k<xs.length,xs[k]'h=x:=fun h=>(ak.1 d).2;have c:wa x=false:=by simpa using p
   have a:=Uf x (by have:=l x (aN d);omega);rw[c]at a;exact⟨_,by simp[w9,i,d,j,a];rfl,_,rfl,rfl,rfl,rfl⟩)
  (by simp[w9])
 rw[aS af7 rfl];obtain⟨es,u,g⟩:=Xx root f xs y l;have a:=Uf es (by omega);have w:(xs.map jh).length=xs.length:=dm _;simp only[bd]at loop;rcases loop with⟨_,loop⟩|⟨_,o,loop,q,rfl,C,B,A⟩
 ·cases ho:wa es with
  |true=>
   rw[ho]at a;have n:es.length≤1000:=aiz ho;refine⟨es,0,?_,n,fun _=>ho⟩;rw[r]at g loop ⊢;simp[arU,JK,loop,g,a]
  |false=>
   rw[ho]at a;refine⟨[],200,?_,by simp,fun e=>by cases e⟩;rw[r]at g loop ⊢;simp[arU,JK,loop,g,a]
 refine⟨[],200,?_,by simp,fun e=>by cases e⟩;rw[r]at loop ⊢;simp[arU,JK,loop,C,B,A]
abbrev zE:wy:=⟨0,0,0,[]⟩
theorem ajn(root:EN):∃(es:List EN) (a:Int),bw I.qbs [root.a]=some (fb [jh es,ap a])∧es.length≤1000∧(a=0→wa es=true):=by
 obtain⟨es,a,h,b,c⟩:=Rb root false [] (by simp) (by simp);refine⟨es,a,?_,b,c⟩;have d:root.a=aH [ap root.tag,ap root.l,ap root.r,ap root.col,ap root.v.k,ap root.v.n,.int .u64 root.v.u,aO root.v.s]:=rfl;rw[aS afL rfl];rw[d]at h ⊢;simp only[bm]at h;simp[asL,Y0,h]
theorem aeN(b:Int)(a:List EN)(f:a.length≤1000):∃(es:List EN) (c:Int),bw I.qbt [ap b,jh a]=some (fb [jh es,ap c])∧es.length≤1000∧(c=0→wa es=true):=by
 obtain⟨es,c,h,d,e⟩:=Rb ⟨b,0,0,0,zE⟩ true [a] (by simp) (by simp[f]);refine⟨es,c,?_,d,e⟩;have g:(⟨b,0,0,0,zE⟩:EN).a=aH [ap b,ap 0,ap 0,ap 0,ap 0,ap 0,.int .u64 0,aO []]:=rfl;rw[aS alr rfl];rw[g]at h;simp only[aW,bm]at h;simp[atV,afX,h]
theorem am6(c:Int)(a b:List EN)(g:a.length≤1000)(i:b.length≤1000):∃(es:List EN) (d:Int),bw I.qbv [ap c,jh a,jh b]=some (fb [jh es,ap d])∧es.length≤1000∧(d=0→wa es=true):=by
 obtain⟨es,d,h,e,f⟩:=Rb ⟨c,0,0,0,zE⟩ true [a,b] (by simp) (by simp[g,i]);refine⟨es,d,?_,e,f⟩;have j:(⟨c,0,0,0,zE⟩:EN).a=aH [ap c,ap 0,ap 0,ap 0,ap 0,ap 0,.int .u64 0,aO []]:=rfl;rw[aS ale rfl];rw[j]at h;simp only[aW,bm]at h;simp[auD,agd,h]
theorem PF{c:Type}[DecidableEq c]:∀(a b:List c),a.length=b.length→(a.zip b).any (fun p=>!decide (p.1=p.2))=!decide (a=b)
 |[],[],_=>rfl
 |[],_::_,h=>by simp at h
 |_::_,[],h=>by simp at h
 |x::a,y::b,h=>by
  rw[fS,iz,PF a b (by simpa using h)];by_cases e:x=y
  ·subst e;simp
  simp[e]
theorem aaZ(x y:EN):eqa true [0,0,0,0,0,0,0,2] x.a y.a=some (aC (!decide (x=y))):=by
 obtain⟨t,l,r,c,k,n,u,s⟩:=x;obtain⟨f,b,e,c',a,d,g,s'⟩:=y;simp[EN.a,eqa,wy.mk.injEq,EN.mk.injEq]
 repeat (split<;>simp_all)
theorem VO(n r:Bool)(a c:List EN)(z:a.length≤bC):bw I.qgr [.aa n (a.map EN.a),.aa r (c.map EN.a)]=some (aC (decide (a=c))):=by
 rw[aS ama rfl];by_cases d:a.length=c.length
 rotate_left
 ·have m:((a.length:Int) != (c.length:Int))=true:=by simp;omega
  have j:decide (a=c)=false:=by simp;intro e;exact d (by rw[e])
  rw[j];simp[ase,Ti,m]
 have B:(a.zip c).length=a.length:=by simp;omega
 have loop:=nT (base:=0) (clr:=[2,3,7,8]) (b:=CM) (a.zip c) (fun k=>⟨[.aa n (a.map EN.a),.aa r (c.map EN.a),am,am,aC false,ap a.length,ap k,am,am],[]⟩) (fun p=>!decide (p.1=p.2))
  (.ext 0,⟨[.aa n (a.map EN.a),.aa r (c.map EN.a),am,am,aC false,ap a.length,ap a.length,aC false,am],[]⟩) (fun o=>∃q,o=(.ret,q)∧q.env[2]?=some (aC false))
  (fun k p w v l=>by
   obtain⟨x,y⟩:=p;obtain⟨g,i⟩:=eT.1 v;have k1:k<a.length:=by omega
   have k2:k<c.length:=by omega
   have s:∀h:k<a.length,a[k]'h=x:=fun h=>(ak.1 g).2;have t:∀h:k<c.length,c[k]'h=y:=fun h=>(ak.1 i).2;have C:=cW k1 z;simp only at l;have f:=aaZ x y;rw[l]at f;unfold eqa at f;simp[CM,k1,k2,g,i,s,t,C,f,bR])
  (fun k p w v l=>by
   obtain⟨x,y⟩:=p;obtain⟨g,i⟩:=eT.1 v;have k1:k<a.length:=by omega
   have k2:k<c.length:=by omega
   have s:∀h:k<a.length,a[k]'h=x:=fun h=>(ak.1 g).2;have t:∀h:k<c.length,c[k]'h=y:=fun h=>(ak.1 i).2;simp only at l;have f:=aaZ x y;rw[l]at f;unfold eqa at f;exact⟨_,by simp[CM,k1,k2,g,i,s,t,f];rfl,_,rfl,rfl⟩)
  (by rw[B];simp[CM])
 have m:((a.length:Int) != (c.length:Int))=false:=by simp;omega
 rw[PF a c d]at loop;rcases loop with⟨u,loop⟩|⟨u,o,loop,q,rfl,A⟩
 ·have j:decide (a=c)=true:=by simpa using u
  rw[j];simp only[bd]at loop;simp[ase,Ti,m,loop]
 have j:decide (a=c)=false:=by simpa using u
 rw[j];simp only[bd]at loop;simp[ase,Ti,m,loop,A]
theorem C5(c d:Bool)(a b:List EN)(e:a.length≤bC):bw I.qbu [aH [.aa c (a.map EN.a)],aH [.aa d (b.map EN.a)]]=some (aC (decide (a=b))):=by
 rw[aS aom rfl];have k1:=VO c d a b e;simp[atI,ag0,k1]
theorem UC(c d:Bool)(a b:List EN)(e:a.length≤8000):bw I.qbu [aH [.aa c (a.map EN.a)],aH [.aa d (b.map EN.a)]]=some (aC (decide (a=b))):=C5 c d a b (by unfold bC;omega)
def KY{α:Type}(enc:α→aq)(P:α→Prop)(f:Nat):Prop:=∀σ id r,At σ id r→r.toks.length≤600→∃x r',cC code f [aI id 0 0 0] σ=some (enc x,σ.set id (gw r'))∧Le r' r∧P x
theorem yS{a:Type}{enc:a→aq}{m:Nat}{g:Bool}[Nc enc m g][Fx enc](ep:Nat)(xs:List a)(b:Nat)(τ:aw):bA b τ (aB m ep (xs.map enc))=aB m ep (xs.map enc):=by
 have h:(xs.map enc).map (cr b τ)=xs.map enc:=by
  rw[bT];exact aT fun y _=>Fx.fx false true b τ 17 y
 simp only[bA,JN,h];simp
theorem Js{B:Type}{enc:B→aq}{P:B→Prop}[Nc enc 2 true][Fx enc](E:∀x,∃cs,enc x=aH cs∧cs.length=2)(f:Nat)(W:KY enc P f)(i:Nat)(ab:1≤i)(hm:i≤100){σ:aw}{id:Nat}{r:fV}(k:At σ id r)(h6:r.toks.length≤600) :
  ∃(xs:List B) (j:fV),cC code I.qev [aI id 0 0 0,ap i,.fn f [aI id 0 0 0] []] σ=some (.aa false (xs.map enc),σ.set id (gw j))∧Le j r∧xs.length≤i∧∀x∈xs,P x:=by
 have key:∀m (e:fV) (xs:List B) (ep:Nat),e.toks.length≤m→m≤600→1≤xs.length→xs.length≤i→(∀x∈xs,P x) →
   ∃(g:List B) (j:fV) (h:Nat) (c d:aq),bU code (σ.length+1) [5,6] zx ⟨[aI id 0 0 0,ap i,.fn f [aI id 0 0 0] [],.ai,.sl σ.length ep 0 xs.length,am,am],σ.set id (gw e)++[aB 2 ep (xs.map enc)]⟩ =
    some (.ext 0,⟨[aI id 0 0 0,ap i,.fn f [aI id 0 0 0] [],.ai,.sl σ.length h 0 g.length,c,d],σ.set id (gw j)++[aB 2 h (g.map enc)]⟩)∧Le j e∧g.length≤i∧∀x∈g,P x:=by
  intro m;induction m with
  |zero=>
   intro e xs ep hr _ _ L D;have Z:e.toks=[]:=da.1 (by omega);have l:=Jp e 5 [44];have F:uQ e 5 [[44]]=false:=by unfold uQ;rw[Z]
   rw[F]at l;have H:=oF k (gw e);refine⟨xs,e,ep,aC false,am,?_,Le.rfl' e,L,D⟩;rw[aZ];simp[zx,H,eE,l]
  |succ m ih=>
   intro e xs ep hr ad af L D;have l:=Jp e 5 [44];have H:=oF k (gw e);have C:At (σ.set id (gw e)++[aB 2 ep (xs.map enc)]) id e:=(k.set e).app _ (fun τ b _=>by rw[aW,bm,yS]);cases F:uQ e 5 [[44]] with
   |false=>
    rw[F]at l;refine⟨xs,e,ep,aC false,am,?_,Le.rfl' e,L,D⟩;rw[aZ];simp[zx,H,eE,l]
   |true=>
    rw[F]at l;by_cases R:xs.length=i
    ·have s:((xs.length:Int)==(i:Int))=true:=by simp[R]
     have hp:=sS e;have G:=oI C 191 (gT e);rw[set_set k]at G;refine⟨xs,nW e 191 (gT e),ep,aC true,aC true,?_,vB e _ _,L,D⟩;rw[aZ];simp[zx,H,eE,l,s,hp,G]
    have s:((xs.length:Int)==(i:Int))=false:=by simp;omega
    obtain⟨t,X,hl⟩:=u0 C F;rw[set_set k]at X;have M:At (σ.set id (gw e.nx)++[aB 2 ep (xs.map enc)]) id e.nx:=(k.set e.nx).app _ (fun τ b _=>by rw[aW,bm,yS]);obtain⟨x,Y,z,Q,N⟩:=W _ id e.nx M (by omega);rw[set_set k]at z;unfold Le at Q
    obtain⟨g,j,h,c,d,J,K,h3,h4⟩:=ih Y (xs++[x]) (ep+1) (by omega) (by omega) (by simp) (by simp;omega) (fun y A=>by
     rcases aY.1 A with A|A
     ·exact D y A
     rw[aP.1 A];exact N)
    refine⟨g,j,h,c,d,?_,by unfold Le at *;omega,h3,h4⟩;rw[←J,aZ];have u:aM (enc x)=2:=Nc.nc x;have w:List.take xs.length (xs.map enc)=xs.map enc:=ay (by simp);have O:xs.length+1≤bC:=by unfold bC;omega
    have S:(xs++[x]).map enc=xs.map enc++[enc x]:=by simp
    have V:=fun env=>cM (base:=σ.length+1) (clr:=[5,6]) (env:=env) (σ:=σ.set id (gw Y)++[aB 2 (ep+1) (xs.map enc++[enc x])]) (by simp);rw[S];obtain⟨cs,q,p⟩:=E x;have n:=V;rw[q]at z n u ⊢;simp[zx,H,eE,l,s,X,z,p,u,append,w,O,n]
 obtain⟨x,e,J,l1,p1⟩:=W σ id r k h6;unfold Le at l1;obtain⟨g,j,h,c,d,K,l2,l3,p2⟩:=key e.toks.length e [x] 0 (aF _) (by omega) (by simp) (by simp;omega) (fun y A=>by rw[aP.1 A];exact p1);refine⟨g,j,?_,by unfold Le at *;omega,l3,p2⟩;rw[cY aln rfl];have hT:=fun o t v=>dM k j o t v;have u:aM (enc x)=2:=Nc.nc x;have w:List.take g.length (g.map enc)=g.map enc:=ay (by simp);have ae:∀σ,(g.map enc).map (fz false false 0 σ 19)=g.map enc:=fun σ=>by
  rw[bT];exact aT fun y _=>Fx.fx false false 0 σ 16 y
 have T:∀b σ,(g.map enc).map (fz false false b σ 19)=g.map enc:=fun b σ=>by
  rw[bT];exact aT fun y _=>Fx.fx false false b σ 16 y
 have U:∀b σ (a:B),fz false false b σ 19 (enc a)=enc a:=fun b σ a=>Fx.fx false false b σ 16 a;obtain⟨cs,q,p⟩:=E x;simp only[aW,bm,bB,bD]at K;rw[q]at J K;simp[aup,aeZ,J,p,K,hT,cr,dH,w,T,U]
theorem JC{B:Type}{enc:B→aq}{P:B→Prop}[Nc enc 2 true][Fx enc](E:∀x,∃cs,enc x=aH cs∧cs.length=2)(f:Nat)(W:KY enc P f)(i:Nat)(ab:1≤i)(hm:i≤100){σ:aw}{id:Nat}{r:fV}(k:At σ id r)(h6:r.toks.length≤600) :
  ∃(xs:List B) (j:fV),cC code I.qex [aI id 0 0 0,ap i,.fn f [aI id 0 0 0] []] σ=some (.aa false (xs.map enc),σ.set id (gw j))∧Le j r∧xs.length≤i∧∀x∈xs,P x:=by
 have key:∀m (e:fV) (xs:List B) (ep:Nat),e.toks.length≤m→m≤600→1≤xs.length→xs.length≤i→(∀x∈xs,P x) →
   ∃(g:List B) (j:fV) (h:Nat) (c d:aq),bU code (σ.length+1) [5,6] zR ⟨[aI id 0 0 0,ap i,.fn f [aI id 0 0 0] [],.ai,.sl σ.length ep 0 xs.length,am,am],σ.set id (gw e)++[aB 2 ep (xs.map enc)]⟩ =
    some (.ext 0,⟨[aI id 0 0 0,ap i,.fn f [aI id 0 0 0] [],.ai,.sl σ.length h 0 g.length,c,d],σ.set id (gw j)++[aB 2 h (g.map enc)]⟩)∧Le j e∧g.length≤i∧∀x∈g,P x:=by
  intro m;induction m with
  |zero=>
   intro e xs ep hr _ _ L D;have Z:e.toks=[]:=da.1 (by omega);have l:=Jp e 5 [44];have F:uQ e 5 [[44]]=false:=by unfold uQ;rw[Z]
   rw[F]at l;have H:=oF k (gw e);refine⟨xs,e,ep,aC false,am,?_,Le.rfl' e,L,D⟩;rw[aZ];simp[zR,H,eE,l]
  |succ m ih=>
   intro e xs ep hr ad af L D;have l:=Jp e 5 [44];have H:=oF k (gw e);have C:At (σ.set id (gw e)++[aB 2 ep (xs.map enc)]) id e:=(k.set e).app _ (fun τ b _=>by rw[aW,bm,yS]);cases F:uQ e 5 [[44]] with
   |false=>
    rw[F]at l;refine⟨xs,e,ep,aC false,am,?_,Le.rfl' e,L,D⟩;rw[aZ];simp[zR,H,eE,l]
   |true=>
    rw[F]at l;by_cases R:xs.length=i
    ·have s:((xs.length:Int)==(i:Int))=true:=by simp[R]
     have hp:=sS e;have G:=oI C 191 (gT e);rw[set_set k]at G;refine⟨xs,nW e 191 (gT e),ep,aC true,aC true,?_,vB e _ _,L,D⟩;rw[aZ];simp[zR,H,eE,l,s,hp,G]
    have s:((xs.length:Int)==(i:Int))=false:=by simp;omega
    obtain⟨t,X,hl⟩:=u0 C F;rw[set_set k]at X;have M:At (σ.set id (gw e.nx)++[aB 2 ep (xs.map enc)]) id e.nx:=(k.set e.nx).app _ (fun τ b _=>by rw[aW,bm,yS]);obtain⟨x,Y,z,Q,N⟩:=W _ id e.nx M (by omega);rw[set_set k]at z;unfold Le at Q
    obtain⟨g,j,h,c,d,J,K,h3,h4⟩:=ih Y (xs++[x]) (ep+1) (by omega) (by omega) (by simp) (by simp;omega) (fun y A=>by
     rcases aY.1 A with A|A
     ·exact D y A
     rw[aP.1 A];exact N)
    refine⟨g,j,h,c,d,?_,by unfold Le at *;omega,h3,h4⟩;rw[←J,aZ];have u:aM (enc x)=2:=Nc.nc x;have w:List.take xs.length (xs.map enc)=xs.map enc:=ay (by simp);have O:xs.length+1≤bC:=by unfold bC;omega
    have S:(xs++[x]).map enc=xs.map enc++[enc x]:=by simp
    have V:=fun env=>cM (base:=σ.length+1) (clr:=[5,6]) (env:=env) (σ:=σ.set id (gw Y)++[aB 2 (ep+1) (xs.map enc++[enc x])]) (by simp);rw[S];obtain⟨cs,q,p⟩:=E x;have n:=V;rw[q]at z n u ⊢;simp[zR,H,eE,l,s,X,z,p,u,append,w,O,n]
 obtain⟨x,e,J,l1,p1⟩:=W σ id r k h6;unfold Le at l1;obtain⟨g,j,h,c,d,K,l2,l3,p2⟩:=key e.toks.length e [x] 0 (aF _) (by omega) (by simp) (by simp;omega) (fun y A=>by rw[aP.1 A];exact p1);refine⟨g,j,?_,by unfold Le at *;omega,l3,p2⟩;rw[cY aj8 rfl];have hT:=fun o t v=>dM k j o t v;have u:aM (enc x)=2:=Nc.nc x;have w:List.take g.length (g.map enc)=g.map enc:=ay (by simp);have ae:∀σ,(g.map enc).map (fz false false 0 σ 19)=g.map enc:=fun σ=>by
  rw[bT];exact aT fun y _=>Fx.fx false false 0 σ 16 y
 have T:∀b σ,(g.map enc).map (fz false false b σ 19)=g.map enc:=fun b σ=>by
  rw[bT];exact aT fun y _=>Fx.fx false false b σ 16 y
 have U:∀b σ (a:B),fz false false b σ 19 (enc a)=enc a:=fun b σ a=>Fx.fx false false b σ 16 a;obtain⟨cs,q,p⟩:=E x;simp only[aW,bm,bB,bD]at K;rw[q]at J K;simp[atM,aeC,J,p,K,hT,cr,dH,w,T,U]
theorem Nf{B:Type}{enc:B→aq}{P:B→Prop}[Nc enc 3 true][Fx enc](E:∀x,∃cs,enc x=aH cs∧cs.length=3)(f:Nat)(W:KY enc P f)(i:Nat)(ab:1≤i)(hm:i≤100){σ:aw}{id:Nat}{r:fV}(k:At σ id r)(h6:r.toks.length≤600) :
  ∃(xs:List B) (j:fV),cC code I.qew [aI id 0 0 0,ap i,.fn f [aI id 0 0 0] []] σ=some (.aa false (xs.map enc),σ.set id (gw j))∧Le j r∧xs.length≤i∧∀x∈xs,P x:=by
 have key:∀m (e:fV) (xs:List B) (ep:Nat),e.toks.length≤m→m≤600→1≤xs.length→xs.length≤i→(∀x∈xs,P x) →
   ∃(g:List B) (j:fV) (h:Nat) (c d:aq),bU code (σ.length+1) [5,6] As ⟨[aI id 0 0 0,ap i,.fn f [aI id 0 0 0] [],.ai,.sl σ.length ep 0 xs.length,am,am],σ.set id (gw e)++[aB 3 ep (xs.map enc)]⟩ =
    some (.ext 0,⟨[aI id 0 0 0,ap i,.fn f [aI id 0 0 0] [],.ai,.sl σ.length h 0 g.length,c,d],σ.set id (gw j)++[aB 3 h (g.map enc)]⟩)∧Le j e∧g.length≤i∧∀x∈g,P x:=by
  intro m;induction m with
  |zero=>
   intro e xs ep hr _ _ L D;have Z:e.toks=[]:=da.1 (by omega);have l:=Jp e 5 [44];have F:uQ e 5 [[44]]=false:=by unfold uQ;rw[Z]
   rw[F]at l;have H:=oF k (gw e);refine⟨xs,e,ep,aC false,am,?_,Le.rfl' e,L,D⟩;rw[aZ];simp[As,H,eE,l]
  |succ m ih=>
   intro e xs ep hr ad af L D;have l:=Jp e 5 [44];have H:=oF k (gw e);have C:At (σ.set id (gw e)++[aB 3 ep (xs.map enc)]) id e:=(k.set e).app _ (fun τ b _=>by rw[aW,bm,yS]);cases F:uQ e 5 [[44]] with
   |false=>
    rw[F]at l;refine⟨xs,e,ep,aC false,am,?_,Le.rfl' e,L,D⟩;rw[aZ];simp[As,H,eE,l]
   |true=>
    rw[F]at l;by_cases R:xs.length=i
    ·have s:((xs.length:Int)==(i:Int))=true:=by simp[R]
     have hp:=sS e;have G:=oI C 191 (gT e);rw[set_set k]at G;refine⟨xs,nW e 191 (gT e),ep,aC true,aC true,?_,vB e _ _,L,D⟩;rw[aZ];simp[As,H,eE,l,s,hp,G]
    have s:((xs.length:Int)==(i:Int))=false:=by simp;omega
    obtain⟨t,X,hl⟩:=u0 C F;rw[set_set k]at X;have M:At (σ.set id (gw e.nx)++[aB 3 ep (xs.map enc)]) id e.nx:=(k.set e.nx).app _ (fun τ b _=>by rw[aW,bm,yS]);obtain⟨x,Y,z,Q,N⟩:=W _ id e.nx M (by omega);rw[set_set k]at z;unfold Le at Q
    obtain⟨g,j,h,c,d,J,K,h3,h4⟩:=ih Y (xs++[x]) (ep+1) (by omega) (by omega) (by simp) (by simp;omega) (fun y A=>by
     rcases aY.1 A with A|A
     ·exact D y A
     rw[aP.1 A];exact N)
    refine⟨g,j,h,c,d,?_,by unfold Le at *;omega,h3,h4⟩;rw[←J,aZ];have u:aM (enc x)=3:=Nc.nc x;have w:List.take xs.length (xs.map enc)=xs.map enc:=ay (by simp);have O:xs.length+1≤bC:=by unfold bC;omega
    have S:(xs++[x]).map enc=xs.map enc++[enc x]:=by simp
    have V:=fun env=>cM (base:=σ.length+1) (clr:=[5,6]) (env:=env) (σ:=σ.set id (gw Y)++[aB 3 (ep+1) (xs.map enc++[enc x])]) (by simp);rw[S];obtain⟨cs,q,p⟩:=E x;have n:=V;rw[q]at z n u ⊢;simp[As,H,eE,l,s,X,z,p,u,append,w,O,n]
 obtain⟨x,e,J,l1,p1⟩:=W σ id r k h6;unfold Le at l1;obtain⟨g,j,h,c,d,K,l2,l3,p2⟩:=key e.toks.length e [x] 0 (aF _) (by omega) (by simp) (by simp;omega) (fun y A=>by rw[aP.1 A];exact p1);refine⟨g,j,?_,by unfold Le at *;omega,l3,p2⟩;rw[cY anz rfl];have hT:=fun o t v=>dM k j o t v;have u:aM (enc x)=3:=Nc.nc x;have w:List.take g.length (g.map enc)=g.map enc:=ay (by simp);have ae:∀σ,(g.map enc).map (fz false false 0 σ 19)=g.map enc:=fun σ=>by
  rw[bT];exact aT fun y _=>Fx.fx false false 0 σ 16 y
 have T:∀b σ,(g.map enc).map (fz false false b σ 19)=g.map enc:=fun b σ=>by
  rw[bT];exact aT fun y _=>Fx.fx false false b σ 16 y
 have U:∀b σ (a:B),fz false false b σ 19 (enc a)=enc a:=fun b σ a=>Fx.fx false false b σ 16 a;obtain⟨cs,q,p⟩:=E x;simp only[aW,bm,bB,bD]at K;rw[q]at J K;simp[atJ,afu,J,p,K,hT,cr,dH,w,T,U]
abbrev RC(ns:List eP):aq:=aH [gK ns]
theorem zQ{σ:aw}{id:Nat}{r:fV}(c:At σ id r)(z:r.toks.length≤600):∃d y,cC code I.qfx [aI id 0 0 0] σ=some (RC d,σ.set id (gw y))∧Le y r∧d.length≤1300:=by
 have n:At (σ++[aB 1 0 [aH [.ai]]]) id r:=c.app _ (fun τ b _=>by simp[bA,cr,dH]);obtain⟨d,a,l,w,A⟩:=ap4 n z;rw[tC c]at l;have s:=sS r;have h:=LG c;have g:=oF c (gw a);obtain⟨e,x,_⟩:=aaA false d (by omega);have p:At (σ.set id (gw a)++[aB 1 0 [aH [.ai]],aB 1 0 [RC d]]) id a:=(c.set a).app _ (fun τ b _=>by simp[bA,cr,dH]);have k:=oI p 192 (gT r);rw[set_set c]at k;have i:=fun o t v=>dM c a o t v;have q:=fun o t v=>dM c (nW a 192 (gT r)) o t v;have u:a.v=aH [.aa false (a.toks.map vb.a),ap a.en,ap a.at',ap a.er]:=rfl;by_cases m:a.er=0
 ·by_cases j:e=0
  ·have f:(e != 0)=false:=by simpa using j
   refine⟨d,a,?_,w,by omega⟩;rw[cY Zy rfl];simp[ash,TT,h,eE,s,l,g,u,m,x,f,i,cr,dH]
  have f:(e != 0)=true:=by simpa using j
  refine⟨d,nW a 192 (gT r),?_,(vB a _ _).trans w,by omega⟩;rw[cY Zy rfl];simp[ash,TT,h,eE,s,l,g,u,m,x,f,k,q,cr,dH]
 refine⟨d,a,?_,w,by omega⟩;rw[cY Zy rfl];simp[ash,TT,h,eE,s,l,g,u,m,i,cr,dH]
structure pM where
 ns:List eP
 as':List UInt8
 h:ns.length≤1300
def pM.a(x:pM):aq:=aH [gK x.ns,aO x.as']
instance:Nc pM.a 2 true:=⟨fun _=>rfl,fun _=>rfl⟩
instance:Fx pM.a:=⟨fun fl top base σ m x=>by simp[pM.a]⟩
structure BU where
 name:List UInt8
 number:Int
 desc:Bool
def BU.a(x:BU):aq:=aH [aO x.name,ap x.number,aC x.desc]
instance:Nc BU.a 3 true:=⟨fun _=>rfl,fun _=>rfl⟩
instance:Fx BU.a:=⟨fun fl top base σ m x=>by simp[BU.a]⟩
theorem QC:KY pM.a (fun _=>True) I.qfe:=by
 intro σ id r a s;have g:At (σ++[aB 2 0 [aH [.ai,aO []]]]) id r:=a.app _ (fun τ b _=>by simp[bA,cr,dH]);obtain⟨d,k,e,m,p⟩:=zQ g s;rw[tC a]at e;have h:At (σ.set id (gw k)++[aB 2 0 [aH [.ai,aO []]],aB 2 0 [aH [gK d,aO []]]]) id k:=(a.set k).app _ (fun τ b _=>by simp[bA,cr,dH]);obtain⟨b,c,f,n,u⟩:=jw h 1 [65,83];rw[set_set a]at f;unfold Le at m;cases b with
 |false=>
  obtain rfl:=u rfl;refine⟨⟨d,[],p⟩,c,?_,m,trivial⟩;have j:=fun o t v=>dM a c o t v;rw[cY aev rfl];simp[ass,YB,e,f,j,cr,dH,pM.a]
 |true=>
  have n:=n rfl;have i:At (σ.set id (gw c)++[aB 2 0 [aH [.ai,aO []]],aB 2 0 [aH [gK d,aO []]]]) id c:=(a.set c).app _ (fun τ b _=>by simp[bA,cr,dH]);obtain⟨t,q,l,w⟩:=D3 i 2;rw[set_set a]at l;unfold Le at w;refine⟨⟨d,t.t,p⟩,q,?_,by unfold Le;omega,trivial⟩;have j:=fun o t v=>dM a q o t v;rw[cY aev rfl];simp[ass,YB,e,f,l,j,cr,dH,pM.a]
theorem Si:KY uO.a (fun _=>True) I.qfi:=by
 intro σ id r a c;obtain⟨n,b,h,l⟩:=KK a;exact⟨n,b,h,l,trivial⟩
theorem EY{σ:aw}{id:Nat}{r:fV}(d:At σ id r):∃(t a:List UInt8) (m:fV),cC code I.qft [aI id 0 0 0] σ=some (aH [aO t,aO a],σ.set id (gw m))∧Le m r:=by
 have h:At (σ++[aB 2 0 [aH [aO [],aO []]]]) id r:=d.app _ (fun τ b _=>by simp[bA,cr,dH]);obtain⟨k,c,g,n⟩:=D3 h 2;rw[tC d]at g;have i:At (σ.set id (gw c)++[aB 2 0 [aH [aO [],aO []]],aB 2 0 [aH [aO k.t,aO []]]]) id c:=(d.set c).app _ (fun τ b _=>by simp[bA,cr,dH]);have e:=oF d (gw c);have f:=NN c 2;unfold Le at *;cases b2:uQ c 2 [] with
 |false=>
  rw[b2]at f;refine⟨k.t,[],c,?_,n⟩;have j:=fun o t v=>dM d c o t v;rw[cY aga rfl];simp[asF,Zv,g,e,eE,f,j,cr,dH]
 |true=>
  rw[b2]at f;obtain⟨t,l,p⟩:=u0 i b2;rw[set_set d]at l;refine⟨k.t,t.t,c.nx,?_,by omega⟩;have j:=fun o t v=>dM d c.nx o t v;rw[cY aga rfl];simp[asF,Zv,g,e,eE,f,l,j,cr,dH]
theorem FH{σ:aw}{id:Nat}{r:fV}(c:At σ id r):∃(n:Int) (j:fV),cC code I.qfl [aI id 0 0 0] σ=some (ap n,σ.set id (gw j))∧Le j r:=by
 have h:=sS r;have f:=c.get;obtain⟨d,b,e,i⟩:=D3 c 3;have a:=oI (c.set b) 190 (gT r);rw[ew]at a;by_cases g:(2147483647:Int)<d.n
 ·refine⟨IntKind.i64.wrap d.n,nW b 190 (gT r),?_,(vB b _ _).trans i⟩;rw[cY afI rfl];simp[as4,Zi,f,eE,h,e,g,a,fA]
 refine⟨IntKind.i64.wrap d.n,b,?_,i⟩;rw[cY afI rfl];simp[as4,Zi,f,eE,h,e,g,fA]
theorem Fp{base:Nat}{clr:List Nat}{env:List aq}{σ:aw}{o:Obj}{t:aw}(h:σ.length=base)(c:aiv σ)(b:clr.head?≠some 9999):bR base clr ⟨env,σ++o::t⟩=⟨(clear env clr).map (cr base (σ++o::t)),σ⟩:=by
 unfold bR;rw[if_neg (by simp[h];exact b)];have a:(σ++o::t).take base=σ:=fY h;simp only[a,c _ base (by omega)]
structure oW where
 left:Bool
 table:List UInt8
 as':List UInt8
 on:List eP
 h:on.length≤1300
def oW.a(x:oW):aq:=aH [aC x.left,aO x.table,aO x.as',gK x.on]
instance:Nc oW.a 4 true:=⟨fun _=>rfl,fun _=>rfl⟩
instance:Fx oW.a:=⟨fun fl top base σ m x=>by simp[oW.a]⟩
theorem akK(r:fV)(a:Int)(s t:List UInt8):bw I.qfd [.cptr true r.v 0,ap a,.aa true [aO s,aO t]]=some (aC (uQ r a [s,t])):=ad3 true r a [s,t] (by simp)
theorem RV{σ:aw}{id:Nat}{r:fV}(f:At σ id r)(A:r.toks.length≤600):∃(P:List oW) (i:fV),cC code I.qff [aI id 0 0 0] σ=some (.aa false (P.map oW.a),σ.set id (gw i))∧Le i r∧P.length≤2:=by
 have n:∀(e:fV) (ep:Nat) (xs:List oW),At (σ.set id (gw e)++[aB 4 ep (xs.map oW.a)]) id e:=fun e ep xs=>(f.set e).app _ (fun τ b _=>by rw[aW,bm,yS]);have key:∀m (e:fV) (xs:List oW) (ep:Nat),xs.length+m=2→e.toks.length≤600 →
   ∃(g:List oW) (i:fV) (h:Nat) (c d:aq),bU code (σ.length+1) [3,4,5] zZ ⟨[aI id 0 0 0,.ai,.sl σ.length ep 0 xs.length,am,am,am],σ.set id (gw e)++[aB 4 ep (xs.map oW.a)]⟩ =
    some (.ext 0,⟨[aI id 0 0 0,.ai,.sl σ.length h 0 g.length,am,c,d],σ.set id (gw i)++[aB 4 h (g.map oW.a)]⟩)∧Le i e∧g.length≤2:=by
  intro m;induction m with
  |zero=>
   intro e xs ep X A;have k:=akK e 1 [76,69,70,84] [74,79,73,78];have x:=oF f (gw e);cases hb:uQ e 1 [[76,69,70,84],[74,79,73,78]] with
   |false=>
    rw[hb]at k;refine⟨xs,e,ep,aC false,am,?_,Le.rfl' e,by omega⟩;rw[aZ];simp[zZ,x,eE,k]
   |true=>
    rw[hb]at k;have p:((xs.length:Int)==2)=true:=by simp;omega
    have W:=sS e;have w:=oI (n e ep xs) 191 (gT e);rw[set_set f]at w;refine⟨xs,nW e 191 (gT e),ep,aC true,aC true,?_,vB e _ _,by omega⟩;rw[aZ];simp[zZ,x,eE,k,p,W,w]
  |succ m Y=>
   intro e xs ep X A;have k:=akK e 1 [76,69,70,84] [74,79,73,78];have x:=oF f (gw e);cases hb:uQ e 1 [[76,69,70,84],[74,79,73,78]] with
   |false=>
    rw[hb]at k;refine⟨xs,e,ep,aC false,am,?_,Le.rfl' e,by omega⟩;rw[aZ];simp[zZ,x,eE,k]
   |true=>
    rw[hb]at k;have p:((xs.length:Int)==2)=false:=by simp;omega
    have j:∀(e:fV) (l:Bool) (t a:List UInt8) (o:aq) (O:∀b τ m,fz false true b τ (m+3) o=o),At (σ.set id (gw e)++[aB 4 ep (xs.map oW.a),aB 4 0 [aH [aC l,aO t,aO a,o]]]) id e:=fun e l t a o O=>(f.set e).app _ (fun τ b _=>by
     rw[aW,aW,bm,yS];simp[bA,cr,dH,O])
    obtain⟨b,Q,u,G,H⟩:=jw (n e ep xs) 1 [76,69,70,84];rw[set_set f]at u
    have Z:Q.toks.length≤e.toks.length:=by cases b with
     |true=>have:=G rfl;omega
     |false=>rw[H rfl];exact aF _
    obtain⟨t3,r3,K,l4⟩:=oH (j Q b [] [] .ai (fun b τ m=>by simp)) 1 [74,79,73,78];rw[set_set f]at K;unfold Le at l4;obtain⟨t,a,r4,L,l5⟩:=EY (j r3 b [] [] .ai (fun b τ m=>by simp));rw[set_set f]at L;unfold Le at l5;obtain⟨t5,r5,M,l6⟩:=oH (j r4 b t a .ai (fun b τ m=>by simp)) 1 [79,78];rw[set_set f]at M;unfold Le at l6;obtain⟨z,R,N,l7,J⟩:=zQ (j r5 b t a .ai (fun b τ m=>by simp)) (by omega);rw[set_set f]at N;unfold Le at l7;obtain⟨g,i,h,c,d,S,e2,T⟩:=Y R (xs++[⟨b,t,a,z,J⟩]) (ep+1) (by simp;omega) (by omega);refine⟨g,i,h,c,d,?_,by unfold Le at *;omega,T⟩;rw[←S,aZ];have s:List.take xs.length (xs.map oW.a)=xs.map oW.a:=ay (by simp);have C:xs.length+1≤bC:=by unfold bC;omega
    have D:(xs++[(⟨b,t,a,z,J⟩:oW)]).map oW.a=xs.map oW.a++[aH [aC b,aO t,aO a,gK z]]:=by simp[oW.a]
    have U:=(n R (ep+1) (xs++[⟨b,t,a,z,J⟩])).firm;have q:=fun env o=>Fp (base:=σ.length+1) (clr:=[3,4,5]) (env:=env) (o:=o) (t:=[]) (by simp) U (by simp);rw[D]at q ⊢;simp only[dv,bY,bX]at q;have B:∀y:aq,(if id<σ.length+1 then aq.ptr id 0 0 0 else y)=aq.ptr id 0 0 0:=fun y=>if_pos (by have:=f.lt;omega);simp[zZ,x,eE,k,p,u,K,L,M,N,append,s,C,q,cr,dH,B]
 obtain⟨g,i,h,c,d,u,G,H⟩:=key 2 r [] 0 rfl A;rw[f.same]at u;refine⟨g,i,?_,G,H⟩;rw[cY akz rfl];have V:=fun o t v=>dM f i o t v;have s:List.take g.length (g.map oW.a)=g.map oW.a:=ay (by simp);have E:∀b σ,(g.map oW.a).map (fz false false b σ 19)=g.map oW.a:=fun b σ=>by
  rw[bT];exact aT fun y _=>Fx.fx false false b σ 16 y
 have F:∀b σ (a:oW),fz false false b σ 19 a.a=a.a:=fun b σ a=>Fx.fx false false b σ 16 a;simp only[bm,bD]at u;simp[atX,aft,u,V,cr,dH,s,E,F]
def sv(o:Option (List aq)):aq:=match o with
 |none=>.ai
 |some l=>.aa false l
theorem Kj(o:Option (List aq))(b:Nat)(τ:aw)(m:Nat):fz false true b τ (m+3) (sv o)=sv o:=by cases o<;>simp[sv]
theorem vg(o:Option (List aq)):aM (sv o)=1∧isAgg (sv o)=false:=by cases o<;>exact⟨rfl,rfl⟩
theorem RW(o:Option (List aq))(b:Nat)(τ:aw)(m:Nat):fz false false b τ (m+3) (sv o)=.aa false (o.getD []):=by cases o<;>simp[sv]
theorem MB(l:List aq):aq.aa false l=sv (some l):=rfl
abbrev ro(d s:Bool)(i:Option (List aq))(t a:List UInt8)(j w h g:Option (List aq)):aq:=aH [aC d,aC s,sv i,aO t,aO a,sv j,sv w,sv h,sv g]
abbrev RE:aq:=aH [aC false,aC false,.ai,aO [],aO [],.ai,.ai,.ai,.ai]
abbrev qR(σ:aw)(id:Nat)(x3 x4 x5 x6:aq):List aq:=[aI id 0 0 0,aI σ.length 0 0 0,aI (σ.length+1) 0 0 0,x3,x4,x5,x6]
abbrev LK(v:aq):aw:=[aB 9 0 [RE],aB 9 0 [v]]
theorem ajj(d s:Bool)(i:Option (List aq))(t a:List UInt8)(j w h g:Option (List aq))(b:Nat)(τ:aw):(LK (ro d s i t a j w h g)).map (bA b τ)=LK (ro d s i t a j w h g):=by
 simp[bA,cr,dH,Kj]
theorem xK{σ:aw}{id:Nat}{e:fV}(c:At σ id e)(r:fV)(d s:Bool)(i:Option (List aq))(t a:List UInt8)(j w h g:Option (List aq)):At (σ.set id (gw r)++LK (ro d s i t a j w h g)) id r:=(c.set r).app _ (fun τ b _=>ajj d s i t a j w h g b τ)
theorem ac9{σ:aw}{id:Nat}{o:fV}(c:At σ id o)(r:fV)(d s:Bool)(i:Option (List aq))(t a:List UInt8)(j w h g:Option (List aq))(f k l m:aq):∃e,run code jG ⟨qR σ id f k l m,σ.set id (gw r)++LK (ro d s i t a j w h g)⟩=some (.nrm,⟨qR σ id f k l m,σ.set id (gw e)++LK (ro d s i t a j w h g)⟩)∧Le e r:=by
 obtain⟨q,p,b,n⟩:=oH (xK c r d s i t a j w h g) 1 [70,82,79,77];rw[set_set c]at b;exact⟨p,by simp[jG,b],n⟩
theorem adh{σ:aw}{id:Nat}{q:fV}(c:At σ id q)(r:fV)(d s:Bool)(i:Option (List aq))(t a:List UInt8)(j w h g:Option (List aq))(f k l m:aq):∃v n e,run code jO ⟨qR σ id f k l m,σ.set id (gw r)++LK (ro d s i t a j w h g)⟩=some (.nrm,⟨qR σ id f k l m,σ.set id (gw e)++LK (ro d s i v n j w h g)⟩)∧Le e r:=by
 obtain⟨x,o,u,b,p⟩:=EY (xK c r d s i t a j w h g);rw[set_set c]at b;exact⟨x,o,u,by simp[jO,b],p⟩
theorem aal{σ:aw}{id:Nat}{u:fV}(e:At σ id u)(r:fV)(o:r.toks.length≤600)(d s:Bool)(i:Option (List aq))(t a:List UInt8)(j w h g:Option (List aq))(k l m n:aq):∃(b:List oW) (f:fV),run code jP ⟨qR σ id k l m n,σ.set id (gw r)++LK (ro d s i t a j w h g)⟩=some (.nrm,⟨qR σ id k l m n,σ.set id (gw f)++LK (ro d s i t a (some (b.map oW.a)) w h g)⟩)∧Le f r∧b.length≤2:=by
 obtain⟨b,v,c,p,q⟩:=RV (xK e r d s i t a j w h g) o;rw[set_set e]at c;refine⟨b,v,?_,p,q⟩;have x:=vg j;simp[jP,c,←MB]
theorem Xz{σ:aw}{id:Nat}{y:fV}(c:At σ id y)(r:fV)(B:r.toks.length≤600)(d s:Bool)(i:Option (List aq))(t a:List UInt8)(j h g:Option (List aq))(n A p q:aq):∃(b:Bool) (o:Option (List eP)) (m:fV),run code gP ⟨qR σ id n A p q,σ.set id (gw r)++LK (ro d s i t a j none h g)⟩=some (.nrm,⟨qR σ id n (aC b) p q,σ.set id (gw m)++LK (ro d s i t a j (o.map (·.map eP.a)) h g)⟩)∧Le m r∧(o.getD []).length≤1300:=by
 obtain⟨b,f,e,l,u⟩:=jw (xK c r d s i t a j none h g) 1 [87,72,69,82,69];rw[set_set c]at e;cases b with
 |false=>
  obtain rfl:=u rfl;exact⟨false,none,f,by simp[gP,e],Le.rfl' f,by simp⟩
 |true=>
  have l:=l rfl;obtain⟨x,z,k,v,w⟩:=zQ (xK c f d s i t a j none h g) (by omega);rw[set_set c]at k;unfold Le at v;refine⟨true,some x,z,?_,by unfold Le;omega,w⟩;simp[gP,e,k,sv]
theorem Y3{σ:aw}{id:Nat}{A:fV}(c:At σ id A)(r:fV)(E:r.toks.length≤600)(d s:Bool)(i:Option (List aq))(t a:List UInt8)(j w h:Option (List aq))(p q D u:aq):∃(b:Bool) (o:Option (List uO)) (m:fV),run code gU ⟨qR σ id p q D u,σ.set id (gw r)++LK (ro d s i t a j w h none)⟩=some (.nrm,⟨qR σ id p q (aC b) u,σ.set id (gw m)++LK (ro d s i t a j w h (o.map (·.map uO.a)))⟩)∧Le m r∧(o.getD []).length≤3:=by
 obtain⟨b,g,e,l,v⟩:=jw (xK c r d s i t a j w h none) 1 [71,82,79,85,80];rw[set_set c]at e;cases b with
 |false=>
  obtain rfl:=v rfl;exact⟨false,none,g,by simp[gU,e],Le.rfl' g,by simp⟩
 |true=>
  have l:=l rfl;obtain⟨F,B,k,x⟩:=oH (xK c g d s i t a j w h none) 1 [66,89];rw[set_set c]at k;unfold Le at x;obtain⟨z,C,f,y,n3,_⟩:=JC (enc:=uO.a) (fun n=>⟨_,rfl,rfl⟩) I.qfi Si 3 (by omega) (by omega) (xK c B d s i t a j w h none) (by omega);rw[set_set c]at f;unfold Le at y;refine⟨true,some z,C,?_,by unfold Le;omega,n3⟩;rw[show ((3:Nat):Int)=3 from rfl]at f;simp[gU,e,k,f,sv]
theorem VX{σ:aw}{id:Nat}{y:fV}(c:At σ id y)(r:fV)(B:r.toks.length≤600)(d s:Bool)(i:Option (List aq))(t a:List UInt8)(j w g:Option (List aq))(m n p A:aq):∃(b:Bool) (o:Option (List eP)) (l:fV),run code gY ⟨qR σ id m n p A,σ.set id (gw r)++LK (ro d s i t a j w none g)⟩=some (.nrm,⟨qR σ id m n p (aC b),σ.set id (gw l)++LK (ro d s i t a j w (o.map (·.map eP.a)) g)⟩)∧Le l r∧(o.getD []).length≤1300:=by
 obtain⟨b,f,e,k,q⟩:=jw (xK c r d s i t a j w none g) 1 [72,65,86,73,78,71];rw[set_set c]at e;cases b with
 |false=>
  obtain rfl:=q rfl;exact⟨false,none,f,by simp[gY,e],Le.rfl' f,by simp⟩
 |true=>
  have k:=k rfl;obtain⟨x,z,h,u,v⟩:=zQ (xK c f d s i t a j w none g) (by omega);rw[set_set c]at h;unfold Le at u;refine⟨true,some x,z,?_,by unfold Le;omega,v⟩;simp[gY,e,h,sv]
theorem Zo{σ:aw}{id:Nat}{z:fV}(c:At σ id z)(r:fV)(u:r.toks.length≤600)(d s:Bool)(t a:List UInt8)(j w h g:Option (List aq))(B m p q:aq):∃(b st:Bool) (o:Option (List pM)) (k:fV),run code gW ⟨qR σ id B m p q,σ.set id (gw r)++LK (ro d s none t a j w h g)⟩=some (.nrm,⟨qR σ id (aC b) m p q,σ.set id (gw k)++LK (ro d st (o.map (·.map pM.a)) t a j w h g)⟩)∧Le k r∧(o.getD []).length≤6:=by
 obtain⟨b,l,e,i,v⟩:=jw (xK c r d s none t a j w h g) 5 [42];rw[set_set c]at e;cases b with
 |true=>
  have i:=i rfl;exact⟨false,true,none,l,by simp[gW,e],by unfold Le;omega,by simp⟩
 |false=>
  obtain rfl:=v rfl;obtain⟨y,A,f,x,n3,_⟩:=Js (enc:=pM.a) (fun n=>⟨_,rfl,rfl⟩) I.qfe QC 6 (by omega) (by omega) (xK c l d false none t a j w h g) u;rw[set_set c]at f;refine⟨true,false,some y,A,?_,x,n3⟩;rw[show ((6:Nat):Int)=6 from rfl]at f;simp[gW,e,f,←MB]
structure mC where
 distinct:Bool
 star:Bool
 items:Option (List pM)
 table:List UInt8
 as':List UInt8
 joins:List oW
 whr:Option (List eP)
 having:Option (List eP)
 group:Option (List uO)
 hi:(items.getD []).length≤6
 hj:joins.length≤2
 hw:(whr.getD []).length≤1300
 hh:(having.getD []).length≤1300
 hg:(group.getD []).length≤3
def mC.r(x:mC):aq:=ro x.distinct x.star (x.items.map (·.map pM.a)) x.table x.as' (some (x.joins.map oW.a)) (x.whr.map (·.map eP.a)) (x.having.map (·.map eP.a)) (x.group.map (·.map uO.a))
def mC.a(x:mC):aq:=aH [aC x.distinct,aC x.star,.aa false ((x.items.getD []).map pM.a),aO x.table,aO x.as',.aa false (x.joins.map oW.a),gK (x.whr.getD []),gK (x.having.getD []),.aa false ((x.group.getD []).map uO.a)]
instance:Nc mC.a 9 true:=⟨fun _=>rfl,fun _=>rfl⟩
instance:Fx mC.a:=⟨fun fl top base σ m x=>by simp[mC.a]⟩
theorem mC.r_top(x:mC)(b:Nat)(τ:aw)(m:Nat):fz false true b τ (m+4) x.r=x.r:=by simp[mC.r,Kj]
theorem Ic{a b:Type}(f:a→b)(o:Option (List a)):(o.map (·.map f)).getD []=(o.getD []).map f:=by cases o<;>rfl
theorem mC.r_fz(x:mC)(b:Nat)(τ:aw)(m:Nat):fz false false b τ (m+4) x.r=x.a:=by simp[mC.r,mC.a,RW,Ic]
theorem De{σ:aw}{id:Nat}{r:fV}(e:At σ id r)(h6:r.toks.length≤600):∃(s:mC) (M:fV),cC code I.qfr [aI id 0 0 0] σ=some (s.r,σ.set id (gw M))∧Le M r:=by
 have y:At (σ++[aB 9 0 [RE]]) id r:=e.app _ (fun τ b _=>by simp[bA,cr,dH]);obtain⟨t1,l,F,l1⟩:=oH y 1 [83,69,76,69,67,84];rw[tC e]at F;have z:At (σ.set id (gw l)++[aB 9 0 [RE]]) id l:=(e.set l).app _ (fun τ b _=>by simp[bA,cr,dH]);obtain⟨d,E,G,Z,D⟩:=jw z 1 [68,73,83,84,73,78,67,84];rw[set_set e]at G;unfold Le at *
 have ab:E.toks.length≤l.toks.length:=by cases d with
  |true=>have:=Z rfl;omega
  |false=>rw[D rfl];exact aF _
 obtain⟨j,st,a,r3,O,l3,n3⟩:=Zo e E (by omega) d false [] [] none none none none am am am am;unfold Le at *;obtain⟨r4,P,l4⟩:=ac9 e r3 d st (a.map (·.map pM.a)) [] [] none none none none (aC j) am am am;unfold Le at *;obtain⟨g,c,r5,Q,l5⟩:=adh e r4 d st (a.map (·.map pM.a)) [] [] none none none none (aC j) am am am;unfold Le at *;obtain⟨f,r6,x,l6,H⟩:=aal e r5 (by omega) d st (a.map (·.map pM.a)) g c none none none none (aC j) am am am;unfold Le at *;obtain⟨m,h,r7,R,l7,J⟩:=Xz e r6 (by omega) d st (a.map (·.map pM.a)) g c (some (f.map oW.a)) none none (aC j) am am am;unfold Le at *;obtain⟨u,i,r8,S,l8,K⟩:=Y3 e r7 (by omega) d st (a.map (·.map pM.a)) g c (some (f.map oW.a)) (h.map (·.map eP.a)) none (aC j) (aC m) am am;unfold Le at *;obtain⟨w,k,q,T,l9,L⟩:=VX e r8 (by omega) d st (a.map (·.map pM.a)) g c (some (f.map oW.a)) (h.map (·.map eP.a)) (i.map (·.map uO.a)) (aC j) (aC m) (aC u) am;unfold Le at *;refine⟨⟨d,st,a,g,c,f,h,k,i,n3,H,J,L,K⟩,q,?_,by omega⟩;have V:=fun o t v=>dM e q o t v;rw[cY aks rfl];have A:run code jL ⟨[aI id 0 0 0,am,am,am,am,am,am],σ⟩=some (.nrm,⟨[aI id 0 0 0,aI σ.length 0 0 0,am,am,am,am,am],σ++[aB 9 0 [RE]]⟩):=by
  simp[jL]
 have B:run code jM ⟨[aI id 0 0 0,aI σ.length 0 0 0,am,am,am,am,am],σ++[aB 9 0 [RE]]⟩=some (.nrm,⟨[aI id 0 0 0,aI σ.length 0 0 0,am,am,am,am,am],σ.set id (gw l)++[aB 9 0 [RE]]⟩):=by
  simp[jM,F]
 have C:run code jS ⟨[aI id 0 0 0,aI σ.length 0 0 0,am,am,am,am,am],σ.set id (gw l)++[aB 9 0 [RE]]⟩=some (.nrm,⟨qR σ id am am am am,σ.set id (gw E)++LK (ro d false none [] [] none none none none)⟩):=by
  simp[jS,G,sv]
 have p:run code (.seq jn jv) ⟨qR σ id (aC j) (aC m) (aC u) (aC w),σ.set id (gw q)++LK (ro d st (a.map (·.map pM.a)) g c (some (f.map oW.a)) (h.map (·.map eP.a)) (k.map (·.map eP.a)) (i.map (·.map uO.a)))⟩ =
   some (.ret,⟨qR σ id (aC j) (aC m) (aC u) (aC w),σ.set id (gw q)++[aB 9 0 [ro d st (a.map (·.map pM.a)) g c (some (f.map oW.a)) (h.map (·.map eP.a)) (k.map (·.map eP.a)) (i.map (·.map uO.a))],aB 9 0 [ro d st (a.map (·.map pM.a)) g c (some (f.map oW.a)) (h.map (·.map eP.a)) (k.map (·.map eP.a)) (i.map (·.map uO.a))]]⟩):=by
  simp[jn,jv]
 have X:(mC.mk d st a g c f h k i n3 H J L K).r=ro d st (a.map (·.map pM.a)) g c (some (f.map oW.a)) (h.map (·.map eP.a)) (k.map (·.map eP.a)) (i.map (·.map uO.a)):=rfl;rw[X];have N:UU=.seq jL (.seq jM (.seq jS (.seq gW (.seq jG (.seq jO (.seq jP (.seq gP (.seq gU (.seq gY (.seq jn jv)))))))))):=rfl;have n:run code UU ⟨[aI id 0 0 0,am,am,am,am,am,am],σ⟩=some (.ret,⟨qR σ id (aC j) (aC m) (aC u) (aC w),σ.set id (gw q)++[aB 9 0 [ro d st (a.map (·.map pM.a)) g c (some (f.map oW.a)) (h.map (·.map eP.a)) (k.map (·.map eP.a)) (i.map (·.map uO.a))],aB 9 0 [ro d st (a.map (·.map pM.a)) g c (some (f.map oW.a)) (h.map (·.map eP.a)) (k.map (·.map eP.a)) (i.map (·.map uO.a))]]⟩):=by
  rw[N,fy,A,bW,fy,B,bW,fy,C,bW,fy,O,bW,fy,P,bW,fy,Q,bW,fy,x,bW,fy,R,bW,fy,S,bW,fy,T,bW,p]
 have U:arP.body=UU:=rfl;have W:[aq.ptr id 0 0 0].take arP.np++List.replicate (arP.nenv-arP.np) aq.any=[aI id 0 0 0,am,am,am,am,am,am]:=rfl;rw[U,W,n];generalize a.map (·.map pM.a)=Y at *;generalize h.map (·.map eP.a)=w' at *;generalize k.map (·.map eP.a)=v' at *;generalize i.map (·.map uO.a)=g' at *;generalize f.map oW.a=j' at *;simp[arP,V,cr,dH,Kj]
abbrev ah9:aq:=aH [aO [],ap 0,aC false]
abbrev kyX(n:List UInt8)(k:Int)(d:Bool):aw:=[aB 3 0 [ah9],aB 3 0 [aH [aO n,ap k,aC d]]]
theorem abr{σ:aw}{id:Nat}{c:fV}(a:At σ id c)(r:fV)(n:List UInt8)(k:Int)(d:Bool):At (σ.set id (gw r)++kyX n k d) id r:=(a.set r).app _ (fun τ b _=>by simp[bA,cr,dH])
theorem an3:Tw=.seq (.reg [i (.box 3 (v (aH [aO [],ap 0,aC false])))] [(1,l 0)])
 (.seq (.reg [i (.box 3 (v (aH [aO [],ap 0,aC false])))] [(2,l 0)]) (.seq An zz)):=rfl
abbrev Tx(σ:aw)(id:Nat)(x3 x4:aq):List aq:=[aI id 0 0 0,aI σ.length 0 0 0,aI (σ.length+1) 0 0 0,x3,x4]
theorem aj9{σ:aw}{id:Nat}{r:fV}(d:At σ id r):∃(n:List UInt8) (k:Int) (l:aq) (j:fV),run code An ⟨Tx σ id am am,σ++kyX [] 0 false⟩=some (.nrm,⟨Tx σ id l am,σ.set id (gw j)++kyX n k false⟩)∧Le j r:=by
 have a:=abr d r [] 0 false;have f:=d.same;rw[f]at a;have e:=NN r 3;have i:=LG d;cases b:uQ r 3 [] with
 |true=>
  rw[b]at e;obtain⟨n,h,c,g⟩:=FH a;rw[tC d]at c;exact⟨[],n,aC true,h,by simp[An,i,eE,e,c],g⟩
 |false=>
  rw[b]at e;obtain⟨t,h,c,g⟩:=D3 a 2;rw[tC d]at c;exact⟨t.t,0,aC false,h,by simp[An,i,eE,e,c],g⟩
theorem WU:KY BU.a (fun _=>True) I.qfg:=by
 intro σ id r a F;obtain⟨n,k,E,h,y,z⟩:=aj9 a;obtain⟨d,b,c,A,f⟩:=jw (abr a h n k false) 1 [68,69,83,67];rw[set_set a]at c;unfold Le at z
 have B:b.toks.length≤h.toks.length:=by cases d with
  |true=>have:=A rfl;omega
  |false=>rw[f rfl];exact aF _
 have q:run code Tw ⟨[aI id 0 0 0,am,am,am,am],σ⟩=run code zz ⟨Tx σ id E am,σ.set id (gw h)++kyX n k false⟩:=by
  rw[an3,fy];have u:run code (.reg [i (.box 3 (v (aH [aO [],ap 0,aC false])))] [(1,l 0)]) ⟨[aI id 0 0 0,am,am,am,am],σ⟩=some (.nrm,⟨[aI id 0 0 0,aI σ.length 0 0 0,am,am,am],σ++[aB 3 0 [ah9]]⟩):=by simp
  have w:run code (.reg [i (.box 3 (v (aH [aO [],ap 0,aC false])))] [(2,l 0)]) ⟨[aI id 0 0 0,aI σ.length 0 0 0,am,am,am],σ++[aB 3 0 [ah9]]⟩=some (.nrm,⟨Tx σ id am am,σ++kyX [] 0 false⟩):=by simp
  rw[u,bW,fy,w,bW,fy,y,bW]
 have p:arK.body=Tw:=rfl;have s:[aq.ptr id 0 0 0].take arK.np++List.replicate (arK.nenv-arK.np) aq.any=[aI id 0 0 0,am,am,am,am]:=rfl;cases d with
 |true=>
  refine⟨⟨n,k,true⟩,b,?_,by unfold Le;omega,trivial⟩;have e:=fun o t v=>dM a b o t v;rw[cY agX rfl,p,s,q];simp[arK,zz,c,e,cr,dH,BU.a]
 |false=>
  obtain⟨x,j,m,C,g⟩:=jw (abr a b n k false) 1 [65,83,67];rw[set_set a]at m
  have D:j.toks.length≤b.toks.length:=by cases x with
   |true=>have:=C rfl;omega
   |false=>rw[g rfl];exact aF _
  refine⟨⟨n,k,false⟩,j,?_,by unfold Le;omega,trivial⟩;have e:=fun o t v=>dM a j o t v;rw[cY agX rfl,p,s,q];simp[arK,zz,c,m,e,cr,dH,BU.a]
end Go.AM
