/- Part of the proof. -/
import Derived.Test.YtmpmbfpkpannjaaGreatDoorAm20
set_option linter.unusedVariables false
set_option linter.unusedSimpArgs false
set_option linter.unusedSectionVars false
namespace Go.AM
open P
set_option maxHeartbeats 64000000
set_option maxRecDepth 40000
attribute [local simp] aG bd
abbrev quZ:aq:=aI [.ai,.ai,ap 0]
abbrev quV(σ:aw)(ep n:Nat)(k:Option (List aq))(l:Int):aq:=aI [.sl (σ.length+1) ep 0 n,sv k,ap l]
abbrev W5(σ:aw)(ep:Nat)(xs:List mI)(k:Option (List aq))(l:Int):aw:=[aB 3 0 [quZ],aB 9 ep (xs.map mI.r),aB 3 0 [quV σ ep xs.length k l]]
theorem acf(ep:Nat)(xs:List mI)(b:Nat)(τ:aw):bw b τ (aB 9 ep (xs.map mI.r))=aB 9 ep (xs.map mI.r):=by
 have h:(xs.map mI.r).map (cn b τ)=xs.map mI.r:=by
  rw[bY];exact aW fun y _=>mI.r_top y b τ 16
 simp only[bw,Kp,h];simp
theorem AK{σ:aw}{id:Nat}{c:gf}(d:At σ id c)(r:gf)(ep:Nat)(xs:List mI)(k:Option (List aq))(l:Int):At (σ.set id (gC r)++W5 σ ep xs k l) id r:=(d.set r).app _ (fun τ b e=>by
 have a:σ.length+1<b:=by simp at e;omega
 rw[aV,aV,aV,bm,acf];simp[bw,cn,dE,Kn,a])
theorem SO{σ:aw}{id:Nat}{r:gf}(b:At σ id r):∀m (a:gf) (xs:List mI) (ep:Nat),xs.length+m=3→1≤xs.length→a.toks.length≤600 →
   ∃(j:List mI) (l:gf) (h:Nat) (c d:aq),bU code (σ.length+3) [3,4] vh ⟨[aH id 0 0 0,aH σ.length 0 0 0,aH (σ.length+2) 0 0 0,am,am,am,am],σ.set id (gC a)++W5 σ ep xs none (-1)⟩ =
    some (.ext 0,⟨[aH id 0 0 0,aH σ.length 0 0 0,aH (σ.length+2) 0 0 0,c,d,am,am],σ.set id (gC l)++W5 σ h j none (-1)⟩)∧Le l a∧j.length≤3∧1≤j.length:=by
 intro m;induction m with
 |zero=>
  intro a xs ep K C E;have e:=Jw a 1 [85,78,73,79,78];have i:=oT b (gC a);cases hb:uU a 1 [[85,78,73,79,78]] with
  |false=>
   rw[hb]at e;refine⟨xs,a,ep,aC false,am,?_,Le.rfl' a,by omega,C⟩;rw[aZ];simp[vh,i,eD,e]
  |true=>
   rw[hb]at e;have g:((xs.length:Int)==3)=true:=by simp;omega
   have G:=tq a;have k:=oJ (AK b a ep xs none (-1)) 191 (g7 a);rw[set_set b]at k;refine⟨xs,oz a 191 (g7 a),ep,aC true,aC true,?_,va a _ _,by omega,C⟩;rw[aZ];simp[vh,i,eD,e,g,G,k]
 |succ m F=>
  intro a xs ep K u E;have e:=Jw a 1 [85,78,73,79,78];have i:=oT b (gC a);cases hb:uU a 1 [[85,78,73,79,78]] with
  |false=>
   rw[hb]at e;refine⟨xs,a,ep,aC false,am,?_,Le.rfl' a,by omega,u⟩;rw[aZ];simp[vh,i,eD,e]
  |true=>
   rw[hb]at e;have g:((xs.length:Int)==3)=false:=by simp;omega
   obtain⟨t,z,P⟩:=vb (AK b a ep xs none (-1)) hb;rw[set_set b]at z;obtain⟨O,I,A,J⟩:=oQ (AK b a.nx ep xs none (-1)) 1 [65,76,76];rw[set_set b]at A;unfold Le at J;obtain⟨s,B,v,L⟩:=Ce (AK b I ep xs none (-1)) (by omega);rw[set_set b]at v;unfold Le at L;obtain⟨j,l,h,c,d,H,N,D⟩:=F B (xs++[s]) (ep+1) (by simp;omega) (by simp) (by omega);refine⟨j,l,h,c,d,?_,by unfold Le at *;omega,D⟩;rw[←H,aZ];have p:List.take xs.length (xs.map mI.r)=xs.map mI.r:=ay (by simp);have n:xs.length+1≤bC:=by unfold bC;omega
   have x:(xs++[s]).map mI.r=xs.map mI.r++[s.r]:=by simp
   have M:=(AK b B (ep+1) (xs++[s]) none (-1)).firm;have f:=fun env o=>FX (base:=σ.length+3) (clr:=[3,4]) (env:=env) (o:=o) (t:=[]) (by simp) M (by simp);simp only[W5,x]at f ⊢;have q:s.r=rx s.distinct s.star (s.items.map (·.map pY.a)) s.table s.as' (some (s.joins.map pb.a)) (s.whr.map (·.map eP.a)) (s.having.map (·.map eP.a)) (s.group.map (·.map uV.a)):=rfl;rw[q]at f v ⊢;simp only[dG,bX,bT,bZ,bA,bD,cE]at f;have w:∀y:aq,(if id<σ.length+3 then aq.ptr id 0 0 0 else y)=aq.ptr id 0 0 0:=fun y=>if_pos (by have:=b.lt;omega);simp[vh,i,eD,e,g,z,A,v,append,p,n,f,cn,dE,w]
structure tG where
 sels:List mI
 keys:Option (List B3)
 limit:Int
 h1:1≤sels.length
 h3:sels.length≤3
 hk:(keys.getD []).length≤3
def tG.r(q:tG):aq:=aI [.aa false (q.sels.map mI.a),sv (q.keys.map (·.map B3.a)),ap q.limit]
def tG.a(q:tG):aq:=aI [.aa false (q.sels.map mI.a),.aa false ((q.keys.getD []).map B3.a),ap q.limit]
theorem acw:Xz=.seq yx (.seq yD (.seq (.blk 0 (.loop [3,4] vh)) (.seq vG (.seq vj Fm)))):=rfl
theorem adD{σ:aw}{id:Nat}{q:gf}(a:At σ id q)(r:gf)(u:r.toks.length≤600)(ep:Nat)(xs:List mI)(c d:aq):∃(b:Bool) (o:Option (List B3)) (i:gf),run code vG ⟨[aH id 0 0 0,aH σ.length 0 0 0,aH (σ.length+2) 0 0 0,c,d,am,am],σ.set id (gC r)++W5 σ ep xs none (-1)⟩=some (.nrm,⟨[aH id 0 0 0,aH σ.length 0 0 0,aH (σ.length+2) 0 0 0,c,d,aC b,am],σ.set id (gC i)++W5 σ ep xs (o.map (·.map B3.a)) (-1)⟩)∧Le i r∧(o.getD []).length≤3:=by
 obtain⟨b,f,e,h,k⟩:=jB (AK a r ep xs none (-1)) 1 [79,82,68,69,82];rw[set_set a]at e;cases b with
 |false=>
  obtain rfl:=k rfl;exact⟨false,none,f,by simp[vG,e],Le.rfl' f,by simp⟩
 |true=>
  have h:=h rfl;obtain⟨v,l,j,p⟩:=oQ (AK a f ep xs none (-1)) 1 [66,89];rw[set_set a]at j;unfold Le at p;obtain⟨m,s,g,t,n3,_⟩:=LH (enc:=B3.a) (fun n=>⟨_,rfl,rfl⟩) I.qfg VY 3 (by omega) (by omega) (AK a l ep xs none (-1)) (by omega);rw[set_set a]at g;unfold Le at t;refine⟨true,some m,s,?_,by unfold Le;omega,n3⟩;rw[show ((3:Nat):Int)=3 from rfl]at g;simp[vG,e,j,g,←Na]
theorem adi{σ:aw}{id:Nat}{o:gf}(a:At σ id o)(r:gf)(ep:Nat)(xs:List mI)(k:Option (List aq))(c d x:aq):∃(b:Bool) (n:Int) (h:gf),run code vj ⟨[aH id 0 0 0,aH σ.length 0 0 0,aH (σ.length+2) 0 0 0,c,d,x,am],σ.set id (gC r)++W5 σ ep xs k (-1)⟩=some (.nrm,⟨[aH id 0 0 0,aH σ.length 0 0 0,aH (σ.length+2) 0 0 0,c,d,x,aC b],σ.set id (gC h)++W5 σ ep xs k n⟩)∧Le h r:=by
 obtain⟨b,f,e,g,j⟩:=jB (AK a r ep xs k (-1)) 1 [76,73,77,73,84];rw[set_set a]at e;cases b with
 |false=>
  obtain rfl:=j rfl;exact⟨false,-1,f,by simp[vj,e],Le.rfl' f⟩
 |true=>
  have g:=g rfl;obtain⟨n,l,i,m⟩:=Fe (AK a f ep xs k (-1));rw[set_set a]at i;unfold Le at m;exact⟨true,n,l,by simp[vj,e,i],by unfold Le;omega⟩
theorem SI{σ:aw}{id:Nat}{r:gf}(f:At σ id r)(z:r.toks.length≤600):∃(q:tG) (s:gf),cC code I.qfq [aH id 0 0 0] σ=some (q.r,σ.set id (gC s))∧Le s r:=by
 have g:At (σ++[aB 3 0 [quZ]]) id r:=f.app _ (fun τ b _=>by simp[bw,cn,dE]);obtain⟨e,i,n,H⟩:=Ce g z;rw[tu f]at n;unfold Le at H;obtain⟨xs,w,ep,c,d,Q,B,G,k⟩:=SO f 2 i [e] 0 (by simp) (by simp) (by omega);unfold Le at B;obtain⟨J,p,M,F,N,n3⟩:=adD f w (by omega) ep xs c d;unfold Le at N;obtain⟨R,K,u,L,P⟩:=adi f M ep xs (p.map (·.map B3.a)) c d (aC J);unfold Le at P;refine⟨⟨xs,p,K,k,G,n3⟩,u,?_,by unfold Le;omega⟩;have E:=fun o t v=>dM f u o t v;have O:arU.body=Xz:=rfl;have A:[aq.ptr id 0 0 0].take arU.np++List.replicate (arU.nenv-arU.np) aq.any=[aH id 0 0 0,am,am,am,am,am,am]:=rfl;have D:run code yx ⟨[aH id 0 0 0,am,am,am,am,am,am],σ⟩=some (.nrm,⟨[aH id 0 0 0,aH σ.length 0 0 0,am,am,am,am,am],σ++[aB 3 0 [quZ]]⟩):=by simp[yx]
 have C:run code yD ⟨[aH id 0 0 0,aH σ.length 0 0 0,am,am,am,am,am],σ++[aB 3 0 [quZ]]⟩=some (.nrm,⟨[aH id 0 0 0,aH σ.length 0 0 0,aH (σ.length+2) 0 0 0,am,am,am,am],σ.set id (gC i)++W5 σ 0 [e] none (-1)⟩):=by
  have m:e.r=rx e.distinct e.star (e.items.map (·.map pY.a)) e.table e.as' (some (e.joins.map pb.a)) (e.whr.map (·.map eP.a)) (e.having.map (·.map eP.a)) (e.group.map (·.map uV.a)):=rfl;simp only[W5,aV,bm];rw[m]at n ⊢;simp[yD,n,sv]
 rw[cX al8 rfl,O,A,acw,fA,D,bW,fA,C,bW,fA];have x:run code (.blk 0 (.loop [3,4] vh)) ⟨[aH id 0 0 0,aH σ.length 0 0 0,aH (σ.length+2) 0 0 0,am,am,am,am],σ.set id (gC i)++W5 σ 0 [e] none (-1)⟩=some (.nrm,⟨[aH id 0 0 0,aH σ.length 0 0 0,aH (σ.length+2) 0 0 0,c,d,am,am],σ.set id (gC w)++W5 σ ep xs none (-1)⟩):=by
  simp[Q]
 rw[x,bW,fA,F,bW,fA,L,bW];have j:List.take xs.length (xs.map mI.r)=xs.map mI.r:=ay (by simp);have l:∀b σ,(xs.map mI.r).map (fz false false b σ 18)=xs.map mI.a:=fun b σ=>by
  rw[bY];exact aW fun y _=>mI.r_fz y b σ 14
 have h:∀b σ (a:mI),aM (fz false false b σ 18 a.r)=aM a.r:=fun b σ a=>by rw[mI.r_fz a b σ 14];rfl
 simp[arU,Fm,E,cn,dE,j,l,h,Kn,tG.r]
abbrev quE:aq:=aI [.aa false [],.aa false [],ap 0]
def PI(v:aq):Prop:=(∃a e:Int,e≠0∧v=fy [quE,ap a,ap e])∨∃q:tG,v=fy [q.a,ap 0,ap 0]
theorem apy(q:tG)(τ:aw):fz false false 0 τ 20 q.r=q.a:=by
 simp[tG.r,tG.a,RZ,IB]
theorem ab3(text:List UInt8)(A:text.length≤600):∃v,bB I.qfy [aO text,.fn I.qfq [] []]=some v∧PI v:=by
 obtain⟨c,a,e,B,h⟩:=abp text A;rw[aT alb rfl];by_cases t:e=0
 ·subst t;have y:At [aB 3 0 [quZ],aB 3 0 [quZ],gC ⟨c,text.length,0,0⟩] 2 ⟨c,text.length,0,0⟩:=⟨rfl,fun τ b _=>by
   rw[aV,aV,aV,HZ];simp[bw,cn,dE]⟩
  obtain⟨q,r,d,D⟩:=SI y B;have o:At [aB 3 0 [quZ],aB 3 0 [quZ],gC r,aB 3 0 [q.r]] 2 r:=⟨rfl,fun τ b _=>by
   rw[aV,aV,aV,aV,HZ];have:fz false true b τ 20 q.r=q.r:=by simp[tG.r,Kn]
   simp[bw,cn,dE,this]⟩
  have g:q.r=aI [.aa false (q.sels.map mI.a),sv (q.keys.map (·.map B3.a)),ap q.limit]:=rfl;have w:=tq r;have f:=oJ o 190 (g7 r);simp only[List.set,gC]at d f;have j:r.v=aI [.aa false (r.toks.map vd.a),ap r.en,ap r.at',ap r.er]:=rfl;have z:=eD r;have p:(⟨c,text.length,0,0⟩:gf).v=aI [.aa false (c.map vd.a),ap text.length,ap 0,ap 0]:=rfl;have l:=apy q;rw[p]at d;by_cases x:r.toks=[]
  ·have k:r.v=aI [.aa false [],ap r.en,ap r.at',ap r.er]:=by rw[j,x];rfl
   by_cases i:r.er=0
   ·refine⟨_,?_,.inr ⟨q,rfl⟩⟩;rw[k]at d;rw[g]at d l;simp[ar4,NH,h,d,i,RZ,IB,tG.a]
   refine⟨fy [quE,ap r.at',ap r.er],?_,.inl ⟨r.at',r.er,i,rfl⟩⟩;rw[k]at d;rw[g]at d l;simp[ar4,NH,h,d,i]
  have m:0<r.toks.length:=eY.2 x;have s:(0:Int)<(r.toks.length:Int):=by omega
  have u:(oz r 190 (g7 r)).v=aI [.aa false (r.toks.map vd.a),ap r.en,ap (oz r 190 (g7 r)).at',ap (oz r 190 (g7 r)).er]:=by
   unfold oz;split<;>rfl
  have n:(oz r 190 (g7 r)).er≠0:=by unfold oz;split<;>simp_all
  refine⟨fy [quE,ap (oz r 190 (g7 r)).at',ap (oz r 190 (g7 r)).er],?_,.inl ⟨_,_,n,rfl⟩⟩;rw[u]at f;rw[j]at d f w;rw[g]at d f;generalize oz r 190 (g7 r)=E at *;generalize g7 r=C at *;simp[ar4,NH,h,d,m,s,w,f,n]
 refine⟨fy [quE,ap a,ap e],?_,.inl ⟨a,e,t,rfl⟩⟩;simp[ar4,NH,h,t]
theorem acR(text:List UInt8)(d:text.length≤600):∃v,bB I.qes [aO text]=some v∧PI v:=by
 obtain⟨v,h,c⟩:=ab3 text d;refine⟨v,?_,c⟩;rw[aT anr rfl];rcases c with⟨a,e,f,rfl⟩|⟨q,rfl⟩
 ·simp[asA,Z2,h]
 have b:q.a=aI [.aa false (q.sels.map mI.a),.aa false ((q.keys.getD []).map B3.a),ap q.limit]:=rfl;rw[b]at h ⊢;simp[asA,Z2,h]
theorem kH{q:Type}{enc:q→aq}{b:Bool}{l:List q}{f:aq}{p:q→Bool}(u:l.length≤bC)(t:∀y,aM (enc y)=3∧isAgg (enc y)=true)(x:sq f)
  (h:∀y∈l,jp code f [enc y] []=some (aC (p y),[])):bB I.qhb [.aa b (l.map enc),f]=some (ap (wd p l)):=by
 rw[aT alC rfl];have e:=x [];have c:∀k,k<l.length→∀y,l[k]?=some y→p y=false→dh 0 [2,3,6,7] ti (run code ti ⟨[.aa b (l.map enc),f,am,am,ap l.length,ap k,am,am],[]⟩) =
   bU code 0 [2,3,6,7] ti ⟨[.aa b (l.map enc),f,am,am,ap l.length,ap (k+1:Nat),am,am],[]⟩:=fun k d y n r=>by
  have s:=t y;have i:=h y (aN n);rw[r]at i;have m:((k:Int)<(l.length:Int)):=by omega
  simp[ti,n,s,i,m,cW d u,cN]
 unfold wd;by_cases o:l.any p=true
 ·have m:=bM (cB.1 o);have r:p l[l.findIdx p]=true:=du (w:=m);have a:=dl (base:=0) (clr:=[2,3,6,7]) (b:=ti) (fun k=>⟨[.aa b (l.map enc),f,am,am,ap l.length,ap k,am,am],[]⟩) (l.findIdx p)
   (.ret,⟨[.aa b (l.map enc),f,ap (l.findIdx p),ap (l.findIdx p),ap l.length,ap (l.findIdx p),aC true,aC true],[]⟩)
   (fun k d=>c k (by omega) _ (au (by omega)) (by simpa using cU d))
   (by
    have v:l[l.findIdx p]?=some l[l.findIdx p]:=au m;have s:=t l[l.findIdx p];have i:=h _ (aJ m);rw[r]at i;have j:((l.findIdx p:Int)<(l.length:Int)):=by omega
    simp[ti,v,s,i,j])
  simp at a;simp[asu,Xa,e,a,o]
 have g:∀y∈l,p y=false:=fun y n=>by simpa using cQ.1 (eB _▸o) y n
 have a:=dl (base:=0) (clr:=[2,3,6,7]) (b:=ti) (fun k=>⟨[.aa b (l.map enc),f,am,am,ap l.length,ap k,am,am],[]⟩) l.length
  (.ext 0,⟨[.aa b (l.map enc),f,am,am,ap l.length,ap l.length,aC false,am],[]⟩)
  (fun k d=>c k d _ (au d) (g _ (aJ d)))
  (by simp[ti])
 simp at a;simp[asu,Xa,e,a,o]
theorem tH{q:Type}{enc:q→aq}{b:Bool}{l:List q}{f:aq}{p:q→Bool}(u:l.length≤bC)(t:∀y,aM (enc y)=2∧isAgg (enc y)=true)(x:sq f)
  (h:∀y∈l,jp code f [enc y] []=some (aC (p y),[])):bB I.qgw [.aa b (l.map enc),f]=some (ap (wd p l)):=by
 rw[aT anW rfl];have e:=x [];have c:∀k,k<l.length→∀y,l[k]?=some y→p y=false→dh 0 [2,3,6,7] ta (run code ta ⟨[.aa b (l.map enc),f,am,am,ap l.length,ap k,am,am],[]⟩) =
   bU code 0 [2,3,6,7] ta ⟨[.aa b (l.map enc),f,am,am,ap l.length,ap (k+1:Nat),am,am],[]⟩:=fun k d y n r=>by
  have s:=t y;have i:=h y (aN n);rw[r]at i;have m:((k:Int)<(l.length:Int)):=by omega
  simp[ta,n,s,i,m,cW d u,cN]
 unfold wd;by_cases o:l.any p=true
 ·have m:=bM (cB.1 o);have r:p l[l.findIdx p]=true:=du (w:=m);have a:=dl (base:=0) (clr:=[2,3,6,7]) (b:=ta) (fun k=>⟨[.aa b (l.map enc),f,am,am,ap l.length,ap k,am,am],[]⟩) (l.findIdx p)
   (.ret,⟨[.aa b (l.map enc),f,ap (l.findIdx p),ap (l.findIdx p),ap l.length,ap (l.findIdx p),aC true,aC true],[]⟩)
   (fun k d=>c k (by omega) _ (au (by omega)) (by simpa using cU d))
   (by
    have v:l[l.findIdx p]?=some l[l.findIdx p]:=au m;have s:=t l[l.findIdx p];have i:=h _ (aJ m);rw[r]at i;have j:((l.findIdx p:Int)<(l.length:Int)):=by omega
    simp[ta,v,s,i,j])
  simp at a;simp[asH,Xr,e,a,o]
 have g:∀y∈l,p y=false:=fun y n=>by simpa using cQ.1 (eB _▸o) y n
 have a:=dl (base:=0) (clr:=[2,3,6,7]) (b:=ta) (fun k=>⟨[.aa b (l.map enc),f,am,am,ap l.length,ap k,am,am],[]⟩) l.length
  (.ext 0,⟨[.aa b (l.map enc),f,am,am,ap l.length,ap l.length,aC false,am],[]⟩)
  (fun k d=>c k d _ (au d) (g _ (aJ d)))
  (by simp[ta])
 simp at a;simp[asH,Xr,e,a,o]
theorem sz{a:Type}{enc:a→aq}{b:Bool}{l:List a}{f:aq}{p:a→Bool}(e:l.length≤bC)(g:∀y,aM (enc y)=3∧isAgg (enc y)=true)(d:sq f)
  (h:∀y∈l,jp code f [enc y] []=some (aC (p y),[])):bB I.qgk [.aa b (l.map enc),f]=some (aC (l.any p)):=by
 rw[aT anc rfl];have h:=kH (b:=b) e g d h;have c:=d [];unfold wd at h;cases ha:l.any p<;>rw[ha]at h<;>simp[aty,ae6,c,h]
theorem FG(t:cL):bB I.qbm [t.a]=some (aO t.name):=by
 rw[aT ajX rfl];have a:t.a=aI [aO t.name,.aa false (t.af.map fG.a),.aa false (t.keys.map (.int .i64))]:=rfl;rw[a];simp[auI,agN]
theorem CK(c:fG):bB I.qbf [c.a]=some (aO c.name):=by
 rw[aT akl rfl];have a:c.a=aI [aO c.name,ap c.kind]:=rfl;rw[a];simp[aue,ag9]
theorem Vl(t:cL)(n:List UInt8)(b a:Bool):bB I.qbj [t.a,.cptr b (.fn I.qbm [] []) 0,.cptr a (aO n) 0]=some (aC (t.name==n)):=by
 rw[aT aj7 rfl];have c:=FG t;have n3:aM t.a=3∧isAgg t.a=true:=⟨rfl,rfl⟩;have d:∀fl top base σ m,fz fl top base σ (m+3) t.a=t.a:=fun fl top base σ m=>Fx.fx fl top base σ m t;cases b<;>cases a<;>simp[auK,agf,c,d,n3,eS]
theorem adY(t:fG)(n:List UInt8)(b a:Bool):bB I.qbh [t.a,.cptr b (.fn I.qbf [] []) 0,.cptr a (aO n) 0]=some (aC (t.name==n)):=by
 rw[aT ak6 rfl];have c:=CK t;have n3:aM t.a=2∧isAgg t.a=true:=⟨rfl,rfl⟩;have d:∀fl top base σ m,fz fl top base σ (m+3) t.a=t.a:=fun fl top base σ m=>Fx.fx fl top base σ m t;cases b<;>cases a<;>simp[atr,afN,c,d,n3,eS]
theorem ai2(b:Bool)(l:List cL)(d:l.length≤8000)(n:List UInt8):∃k ok,bB I.qbi [.aa b (l.map cL.a),.fn I.qbm [] [],aO n]=some (fy [ap k,aC ok])∧k=max (wd (fun t=>t.name==n) l) 0:=by
 have a:=kH (enc:=cL.a) (b:=b) (l:=l) (f:=snap [aB 1 0 [.fn I.qbm [] []],aB 1 0 [aO n]] (.fn I.qbj [] [aH 0 0 0 0,aH 1 0 0 0])) (p:=fun t=>t.name==n) (by unfold bC;omega) (fun _=>⟨rfl,rfl⟩) (fun σ=>pK _ _ _) (fun t _=>by
  have c:∀fl top base σ m,fz fl top base σ (m+3) t.a=t.a:=fun fl top base σ m=>Fx.fx fl top base σ m t;simp[Vl,c])
 rw[aT agz rfl];simp at a;generalize wd (fun t=>t.name==n) l=ix at *;refine⟨max ix 0,decide (0≤ix),?_,rfl⟩;simp[asp,Z0,a];split<;>omega
theorem aiJ(b:Bool)(l:List fG)(d:l.length≤8000)(n:List UInt8):∃k ok,bB I.qbg [.aa b (l.map fG.a),.fn I.qbf [] [],aO n]=some (fy [ap k,aC ok])∧k=max (wd (fun t=>t.name==n) l) 0:=by
 have a:=tH (enc:=fG.a) (b:=b) (l:=l) (f:=snap [aB 1 0 [.fn I.qbf [] []],aB 1 0 [aO n]] (.fn I.qbh [] [aH 0 0 0 0,aH 1 0 0 0])) (p:=fun t=>t.name==n) (by unfold bC;omega) (fun _=>⟨rfl,rfl⟩) (fun σ=>pK _ _ _) (fun t _=>by
  have c:∀fl top base σ m,fz fl top base σ (m+3) t.a=t.a:=fun fl top base σ m=>Fx.fx fl top base σ m t;simp[adY,c])
 rw[aT anh rfl];simp at a;generalize wd (fun t=>t.name==n) l=ix at *;refine⟨max ix 0,decide (0≤ix),?_,rfl⟩;simp[auU,afd,a];split<;>omega
def xu{α:Type}(g:Nat→α→Bool):List α→Nat→Bool
 |[],_=>true
 |x::l,k=>g k x&&xu g l (k+1)
theorem BY{a:Type}(g:Nat→a→Bool):∀(l:List a) (k:Nat),dp (fun k y (_:Unit)=>if g k y then (.inl ():Unit⊕Unit) else .inr ()) l k ()=if xu g l k then .inl () else .inr ()
 |[],k=>rfl
 |x::l,k=>by
  rw[dp,xu];cases g k x with
  |true=>simpa using BY g l (k+1)
  |false=>rfl
def B6{α:Type}(of:α→List UInt8)(l:List α)(k:Nat)(x:α):Bool:=!((l.take k).any fun y=>of y==of x)
theorem Zh{c:Type}(of:c→List UInt8){l:List c}{k:Nat}{x:c}(d:l[k]?=some x):(max (wd (fun t=>of t==of x) l) 0 != (k:Int))=!B6 of l k x:=by
 have r:=(ak.1 d).1;have o:=(ak.1 d).2;have a:l.any (fun t=>of t==of x)=true:=cB.2 ⟨x,aN d,by simp⟩;unfold wd B6;rw[if_pos a,Bool.not_not];have j:l.findIdx (fun t=>of t==of x)≤k:=by
  apply fT;intro h;have:=cU (p:=fun t=>of t==of x) (xs:=l) (i:=k) (by omega);rw[o]at this;simp at this
 have g:=bM (cB.1 a);cases hq:(l.take k).any (fun y=>of y==of x) with
 |true=>
  obtain⟨y,n,b⟩:=cB.1 hq;obtain⟨i,hi,rfl⟩:=cM.1 n;have e:i<k:=by simp at hi;omega
  have m:i<l.length:=by omega
  have:l.findIdx (fun t=>of t==of x)≤i:=by
   apply fT;intro h;have:=cU (p:=fun t=>of t==of x) (xs:=l) (i:=i) (by omega);rw[dP]at b;rw[b]at this;simp at this
  simp;omega
 |false=>
  have f:k≤l.findIdx (fun t=>of t==of x):=by
   apply fT;intro h;have b:(fun t=>of t==of x) l[l.findIdx (fun t=>of t==of x)]=true:=du (w:=g);have q:l[l.findIdx (fun t=>of t==of x)]∈l.take k:=by
    rw[cM];exact⟨l.findIdx (fun t=>of t==of x),by simp;omega,by rw[dP]⟩
   have:=cQ.1 hq _ q;exact this b
  simp;omega
theorem ajg(b:Bool)(l:List cL)(r:l.length≤8000):bB I.qbl [.aa b (l.map cL.a),.fn I.qbm [] []]=some (aC (xu (fun k t=>B6 cL.name l k t&&iF t.name) l 0)):=by
 rw[aT amb rfl];have u:l.length≤bC:=by unfold bC;omega
 have key:=iQ (base:=0) (clr:=[2,3,4,5,9,10]) (b:=zG) l (fun k (_:Unit)=>⟨[.aa b (l.map cL.a),.fn I.qbm [] [],am,am,am,am,.aa b (l.map cL.a),ap l.length,ap k,am,am],[]⟩) (fun _ _=>True)
  (fun k t (_:Unit)=>if (B6 cL.name l k t&&iF t.name) then (.inl ():Unit⊕Unit) else .inr ())
  (fun _=>(.ext 0,⟨[.aa b (l.map cL.a),.fn I.qbm [] [],am,am,am,am,.aa b (l.map cL.a),ap l.length,ap l.length,aC false,am],[]⟩)) (fun _ o=>∃q,o=(.ret,q)∧q.env[2]?=some (aC false))
  (fun k t _ e d _=>by
   have g:∀h:k<l.length,l[k]'h=t:=fun h=>(ak.1 d).2;have s:=cW e u;have f:=FG t;have n3:aM t.a=3∧isAgg t.a=true:=⟨rfl,rfl⟩;have i:∀fl top base σ m,fz fl top base σ (m+3) t.a=t.a:=fun fl top base σ m=>Fx.fx fl top base σ m t;obtain⟨v,ok,n,p⟩:=ai2 b l r t.name;have a:=Zh cL.name d;rw[←p]at a;have c:=nO t.name;cases hA:B6 cL.name l k t with
   |false=>
    rw[hA]at a;simp only[iU,bq,cI];exact⟨_,by simp[zG,e,d,g,f,i,n3,n,a];rfl,_,rfl,rfl⟩
   |true=>
    rw[hA]at a;simp only[eu];cases hB:iF t.name with
    |false=>
     rw[hB]at c;simp only[bq,cI];exact⟨_,by simp[zG,e,d,g,f,i,n3,n,a,c];rfl,_,rfl,rfl⟩
    |true=>
     rw[hB]at c;simp only[cw];refine⟨?_,trivial⟩;simp[zG,e,d,g,f,i,n3,n,a,c,s,bQ,cn,dE])
  (fun _ _=>by simp[zG]) () trivial
 rw[BY]at key;cases hq:xu (fun k t=>B6 cL.name l k t&&iF t.name) l 0 with
 |true=>
  rw[hq]at key;have key:=key.2;simp only[bj]at key;simp[asG,YF,key]
 |false=>
  rw[hq]at key;obtain⟨o,key,q,rfl,j⟩:=key;simp only[bj]at key;simp[asG,YF,key,j]
theorem ahD(b:Bool)(l:List fG)(r:l.length≤8000):bB I.qbk [.aa b (l.map fG.a),.fn I.qbf [] []]=some (aC (xu (fun k t=>B6 fG.name l k t&&iF t.name) l 0)):=by
 rw[aT anx rfl];have u:l.length≤bC:=by unfold bC;omega
 have key:=iQ (base:=0) (clr:=[2,3,4,5,9,10]) (b:=Af) l (fun k (_:Unit)=>⟨[.aa b (l.map fG.a),.fn I.qbf [] [],am,am,am,am,.aa b (l.map fG.a),ap l.length,ap k,am,am],[]⟩) (fun _ _=>True)
  (fun k t (_:Unit)=>if (B6 fG.name l k t&&iF t.name) then (.inl ():Unit⊕Unit) else .inr ())
  (fun _=>(.ext 0,⟨[.aa b (l.map fG.a),.fn I.qbf [] [],am,am,am,am,.aa b (l.map fG.a),ap l.length,ap l.length,aC false,am],[]⟩)) (fun _ o=>∃q,o=(.ret,q)∧q.env[2]?=some (aC false))
  (fun k t _ e d _=>by
   have g:∀h:k<l.length,l[k]'h=t:=fun h=>(ak.1 d).2;have s:=cW e u;have f:=CK t;have n3:aM t.a=2∧isAgg t.a=true:=⟨rfl,rfl⟩;have i:∀fl top base σ m,fz fl top base σ (m+3) t.a=t.a:=fun fl top base σ m=>Fx.fx fl top base σ m t;obtain⟨v,ok,n,p⟩:=aiJ b l r t.name;have a:=Zh fG.name d;rw[←p]at a;have c:=nO t.name;cases hA:B6 fG.name l k t with
   |false=>
    rw[hA]at a;simp only[iU,bq,cI];exact⟨_,by simp[Af,e,d,g,f,i,n3,n,a];rfl,_,rfl,rfl⟩
   |true=>
    rw[hA]at a;simp only[eu];cases hB:iF t.name with
    |false=>
     rw[hB]at c;simp only[bq,cI];exact⟨_,by simp[Af,e,d,g,f,i,n3,n,a,c];rfl,_,rfl,rfl⟩
    |true=>
     rw[hB]at c;simp only[cw];refine⟨?_,trivial⟩;simp[Af,e,d,g,f,i,n3,n,a,c,s,bQ,cn,dE])
  (fun _ _=>by simp[Af]) () trivial
 rw[BY]at key;cases hq:xu (fun k t=>B6 fG.name l k t&&iF t.name) l 0 with
 |true=>
  rw[hq]at key;have key:=key.2;simp only[bj]at key;simp[as8,abm,key]
 |false=>
  rw[hq]at key;obtain⟨o,key,q,rfl,j⟩:=key;simp only[bj]at key;simp[as8,abm,key,j]
def AO(k:Int):Bool:=k==1 ||k==2 ||k==3
theorem aib(k:Int):∃w,bB I.qbn [ap k]=some (aO w)∧(w==[])=!AO k:=by
 by_cases e:k=1
 ·subst e;exact⟨[98,111,111,108],kV (n:=20) (σ:=[]) (by kernel_rfl),rfl⟩
 by_cases g:k=2
 ·subst g;exact⟨[105,110,116],kV (n:=20) (σ:=[]) (by kernel_rfl),rfl⟩
 by_cases f:k=3
 ·subst f;exact⟨[116,101,120,116],kV (n:=20) (σ:=[]) (by kernel_rfl),rfl⟩
 refine⟨[],?_,by simp[AO,e,g,f]⟩;have o:((1:Int)==k)=false:=by rw[gn];omega
 have m:((2:Int)==k)=false:=by rw[gn];omega
 have l:((3:Int)==k)=false:=by rw[gn];omega
 have c:¬((1:Int)=k):=by omega
 have a:¬((2:Int)=k):=by omega
 have d:¬((3:Int)=k):=by omega
 rw[aT aog rfl];have p:IntKind.i64.wrap 1=1:=rfl;have h:IntKind.i64.wrap 2=2:=rfl;have j:IntKind.i64.wrap 3=3:=rfl;have loop:=dl (base:=0) (clr:=[1,2,5,6]) (b:=An) (fun i=>⟨[ap k,am,am,gl0,ap i,am,am],[]⟩) 3
  (.ext 0,⟨[ap k,am,am,gl0,ap 3,aC false,am],[]⟩)
  (fun i hi=>by
   match i,hi with
   |0,_=>simp[An,o,c,p,bQ,cn,dE]
   |1,_=>simp[An,m,a,h,bQ,cn,dE]
   |2,_=>simp[An,l,d,j,bQ,cn,dE])
  (by simp[An])
 simp only[bj]at loop;simp[atZ,ag8,loop]
def O7(n:Nat)(keys:List Int)(i:Nat)(k:Int):Bool:=decide (0≤k)&&decide (k<n)&&(i==0 ||decide (keys.getD (i-1) 0<k))
def ahY(af:List fG)(k:Nat)(c:fG):Bool:=B6 fG.name af k c&&iF c.name
def DB(t:cL):Bool:=iF t.name&&decide (1≤t.af.length)&&decide (t.af.length≤4)&&xu (ahY t.af) t.af 0&&(t.af.all fun c=>AO c.kind)&&xu (O7 t.af.length t.keys) t.keys 0
theorem tV{a:Type}(p:a→Bool):∀(l:List a) (b:Bool),l.foldl (fun b x=>b&&p x) b=(b&&l.all p)
 |[],b=>by simp
 |x::l,b=>by rw[dX,tV p l,lJ,kT]
abbrev AJ(t:cL)(ok:Bool)(a4 a7 a8 a9 a10 a11 a12 a13 a14:aq):List aq:=[t.a,aH 0 0 0 0,ap 0,aC ok,a4,am,am,a7,a8,a9,a10,a11,a12,a13,a14,am]
theorem adu(t:cL)(p:t.af.length≤8000)(ok:Bool) :
  bU code 1 [4,10] CD ⟨AJ t ok am (.aa false (t.af.map fG.a)) (ap t.af.length) (ap 0) am am am am am,[aB 3 0 [t.a]]⟩ =
   some (.ext 0,⟨AJ t (ok&&t.af.all fun c=>AO c.kind) am (.aa false (t.af.map fG.a)) (ap t.af.length) (ap t.af.length) (aC false) am am am am,[aB 3 0 [t.a]]⟩):=by
 have o:t.af.length≤bC:=by unfold bC;omega
 have key:=(gL (base:=1) (clr:=[4,10]) (b:=CD) t.af (fun k ok=>⟨AJ t ok am (.aa false (t.af.map fG.a)) (ap t.af.length) (ap k) am am am am am,[aB 3 0 [t.a]]⟩) (fun _ _=>True) (fun b c=>b&&AO c.kind)
  (fun ok=>(.ext 0,⟨AJ t ok am (.aa false (t.af.map fG.a)) (ap t.af.length) (ap t.af.length) (aC false) am am am am,[aB 3 0 [t.a]]⟩))
  (fun k c ok g f _=>by
   refine⟨?_,trivial⟩;have j:∀h:k<t.af.length,t.af[k]'h=c:=fun h=>(ak.1 f).2;have i:=cW g o;obtain⟨w,n,a⟩:=aib c.kind;have e:c.a=aI [aO c.name,ap c.kind]:=rfl;have l:∀fl top base σ m,fz fl top base σ (m+3) t.a=t.a:=fun fl top base σ m=>Fx.fx fl top base σ m t;have n3:aM t.a=3:=rfl;have d:(w != [])=AO c.kind:=by show (!(w==[]))=_;rw[a,Bool.not_not]
   cases ok<;>cases hkb:AO c.kind<;>rw[hkb]at a d<;>simp[CD,g,f,j,e,n,a,d,eS,i,l,n3,bQ,bw,cn,dE])
  (fun ok _=>by simp[CD]) ok trivial).1
 rw[tV (fun c:fG=>AO c.kind)]at key;simpa using key
theorem agR{a:Type}(g:Nat→a→Bool):∀(l:List a) (k:Nat) (b:Bool),dp (ρ:=Empty) (fun k y b=>.inl (b&&g k y)) l k b=.inl (b&&xu g l k)
 |[],k,b=>by rw[dp,xu,lM]
 |x::l,k,b=>by
  rw[dp,xu];simp only;rw[agR g l (k+1),kT]
theorem adf(t:cL)(H:t.keys.length≤8000)(E:t.af.length≤8000)(ok:Bool)(f:aq)(G:∀base σ m,fz false true base σ (m+3) f=f) :
  bU code 1 [5,6,14] tJ ⟨AJ t ok am (.aa false (t.af.map fG.a)) (ap t.af.length) f (aC false) (.aa false (t.keys.map (.int .i64))) (ap t.keys.length) (ap 0) am,[aB 3 0 [t.a]]⟩ =
   some (.ext 2,⟨AJ t (ok&&xu (O7 t.af.length t.keys) t.keys 0) am (.aa false (t.af.map fG.a)) (ap t.af.length) f (aC false) (.aa false (t.keys.map (.int .i64))) (ap t.keys.length) (ap t.keys.length) (aC false),[aB 3 0 [t.a]]⟩):=by
 have F:t.keys.length≤bC:=by unfold bC;omega
 have q:t.a=aI [aO t.name,.aa false (t.af.map fG.a),.aa false (t.keys.map (.int .i64))]:=rfl;have key:=iQ (ρ:=Empty) (base:=1) (clr:=[5,6,14]) (b:=tJ) t.keys (fun k ok=>⟨AJ t ok am (.aa false (t.af.map fG.a)) (ap t.af.length) f (aC false) (.aa false (t.keys.map (.int .i64))) (ap t.keys.length) (ap k) am,[aB 3 0 [t.a]]⟩) (fun _ _=>True)
  (fun k y b=>.inl (b&&O7 t.af.length t.keys k y))
  (fun ok=>(.ext 2,⟨AJ t ok am (.aa false (t.af.map fG.a)) (ap t.af.length) f (aC false) (.aa false (t.keys.map (.int .i64))) (ap t.keys.length) (ap t.keys.length) (aC false),[aB 3 0 [t.a]]⟩)) (fun r _=>r.elim)
  (fun k y ok e d _=>by
   refine⟨?_,trivial⟩;have g:∀h:k<t.keys.length,t.keys[k]'h=y:=fun h=>(ak.1 d).2;have i:=cW e F;have w:IntKind.i64.wrap 1=1:=rfl;unfold O7;simp only[AJ,q];by_cases l:0≤y
   ·by_cases o:y<(t.af.length:Int)
    ·by_cases p:k=0
     ·subst p;cases ok<;>simp[tJ,e,d,g,w,i,l,o,bQ]
     have v:((k:Int)==0)=false:=by simp;omega
     have n:(k==0)=false:=by simp[p]
     have c:k-1<t.keys.length:=by omega
     have a:t.keys[k-1]?=some (t.keys.getD (k-1) 0):=by rw[aR,au c];rfl
     have j:∀h:k-1<t.keys.length,t.keys[k-1]'h=t.keys.getD (k-1) 0:=fun h=>(ak.1 a).2;have B:IntKind.i64.wrap ((k:Int)-1)=(k:Int)-1:=rJ (by omega) (by omega);have x:((k:Int)-1).toNat=k-1:=by omega
     have u:(0:Int)≤(k:Int)-1:=by omega
     have A:(1:Int)≤(k:Int):=by omega
     have C:(1:Nat)≤k:=by omega
     have s:(k:Int)-1<(t.keys.length:Int):=by omega
     generalize t.keys.getD (k-1) 0=z at *;by_cases D:z<y
     ·cases ok<;>simp[tJ,e,d,g,i,l,o,p,v,n,c,a,j,B,x,u,A,C,s,D,bQ]
     cases ok<;>simp[tJ,e,d,g,i,l,o,p,v,n,c,a,j,B,x,u,A,C,s,D,bQ]
    cases ok<;>simp[tJ,e,d,g,w,i,l,o,bQ]
   cases ok<;>simp[tJ,e,d,g,i,l,bQ])
  (fun ok _=>by simp[tJ]) ok trivial
 rw[agR]at key;exact key.2
theorem KY(t:cL)(x:t.keys.length≤8000)(f:t.af.length≤8000):bB I.qbc [t.a]=some (ap (if DB t then 0 else 211)):=by
 rw[aT akq rfl];have p:t.a=aI [aO t.name,.aa false (t.af.map fG.a),.aa false (t.keys.map (.int .i64))]:=rfl;have i:=nO t.name;have r:=ahD false t.af f;have n:=adu t f;have l:=fun ok=>adf t x f ok (ap t.af.length) (by simp);unfold DB;have o:xu (fun k u=>B6 fG.name t.af k u&&iF u.name) t.af 0=xu (ahY t.af) t.af 0:=rfl;rw[o]at r;simp only[AJ,p]at n l ⊢;generalize xu (ahY t.af) t.af 0=v at *;generalize (t.af.all fun c=>AO c.kind)=m at *;generalize xu (O7 t.af.length t.keys) t.keys 0=j at *;generalize iF t.name=w at *;have b:=n false;have h:=n true;have a:=l false;have g:=l true;clear n l;cases w with
 |false=>cases m<;>cases j<;>simp at b a<;>simp[ar1,Pe,i,b,a]
 |true=>
  by_cases q:1≤t.af.length
  ·have d:(1:Int)≤(t.af.length:Int):=by omega
   by_cases s:t.af.length≤4
   ·have e:(t.af.length:Int)≤4:=by omega
    cases v<;>cases m<;>cases j<;>simp at b a h g<;>simp[ar1,Pe,i,r,q,d,s,e,b,a,h,g]
   have e:¬(t.af.length:Int)≤4:=by omega
   cases m<;>cases j<;>simp at b a<;>simp[ar1,Pe,i,q,d,s,e,b,a]
  have d:¬(1:Int)≤(t.af.length:Int):=by omega
  cases m<;>cases j<;>simp at b a<;>simp[ar1,Pe,i,q,d,b,a]
def QQ(c:List cL):Bool:=decide (c.length≤4)&&c.all DB&&xu (fun k t=>B6 cL.name c k t&&iF t.name) c 0
structure Tq (t:cL):Prop where
 keys:t.keys.length≤8000
 af:t.af.length≤8000
theorem ZL(t:cL)(h:Tq t):bB I.qbd [t.a]=some (aC (!DB t)):=by
 rw[aT anA rfl];have a:=KY t h.keys h.af;have n3:aM t.a=3∧isAgg t.a=true:=⟨rfl,rfl⟩;have b:∀fl top base σ m,fz fl top base σ (m+3) t.a=t.a:=fun fl top base σ m=>Fx.fx fl top base σ m t;cases hb:DB t<;>rw[hb]at a<;>simp at a<;>simp[aus,aeO,a,b,n3]
theorem Rr(c:List cL)(s:c.length≤8000)(h:∀t∈c,Tq t):bB I.qbb [mN c]=some (ap (if QQ c then 0 else 210)):=by
 rw[aT akw rfl]
 have e:=sz (enc:=cL.a) (b:=false) (l:=c) (f:=.fn I.qbd [] []) (p:=fun t=>!DB t) (by unfold bC;omega) (fun _=>⟨rfl,rfl⟩) (fun σ=>by simp) (fun t j=>by
  have r:∀fl top base σ m,fz fl top base σ (m+3) t.a=t.a:=fun fl top base σ m=>Fx.fx fl top base σ m t;simp[ZL t (h t j),r])
 have g:=ajg false c s;have d:c.any (fun t=>!DB t)=!c.all DB:=by
  have:∀l:List cL,l.any (fun t=>!DB t)=!l.all DB:=fun l=>by
   induction l with
   |nil=>rfl
   |cons x l q=>rw[iI,q,lJ,Bool.not_and]
  exact this c
 rw[d]at e;unfold QQ;generalize xu (fun k t=>B6 cL.name c k t&&iF t.name) c 0=n at *;generalize c.all DB=o at *;by_cases i:c.length≤4
 ·have a:¬(4:Int)<(c.length:Int):=by omega
  cases o<;>cases n<;>simp at e g<;>simp[asR,ZX,i,a,e,g]
 have a:(4:Int)<(c.length:Int):=by omega
 simp[asR,ZX,i,a]


noncomputable def Ll(ns:List eP):Bool:=match bB I.qb [RH ns] with
 |some (.int .i64 e)=>e==0
 |_=>false
theorem Ut(a:List eP)(f:a.length≤1300):∃e:Int,bB I.qb [RH a]=some (ap e)∧(e==0)=Ll a∧(Ll a=true→mv a):=by
 obtain⟨e,h,d⟩:=aaE false a (by omega);have b:Ll a=(e==0):=by
  unfold Ll;rw[h]
 exact⟨e,h,b.symm,fun c=>d (by rw[b]at c;simpa using c)⟩
theorem XZ(a:List eP)(d:a.length≤1300):bB I.ql [RH a]=some (aC (!Ll a)):=by
 obtain⟨e,h,c,_⟩:=Ut a d;rw[aT ap5 rfl];have f:(e != 0)=!Ll a:=by rw[←c];rfl
 have b:(e=0)=(Ll a=true):=by rw[←c];simp
 simp[auz,alO,h,f,b]
theorem GA(b:Bool)(a:List eP)(c:a.length≤1300):bB I.qk [.aa b [RH a]]=some (aC (Ll a)):=by
 have h:=uv (enc:=RH) (b:=b) (l:=[a]) (f:=.fn I.ql [] []) (p:=fun a=>!Ll a) (by simp;unfold bC;omega) (fun _=>⟨rfl,rfl⟩) (fun _=>rfl) (fun y d=>by
  rw[aP.1 d];simp[XZ a c])
 simp only[aV,bm,iI,List.any_nil,oL]at h;rw[aT apQ rfl];simp[auy,an0,h]
def sS(s:List UInt8):Bool:=s==[] ||iF s
theorem LK(s:List UInt8):bB I.qf [aO s]=some (aC (sS s)):=by
 have h:=nO s;rw[aT amU rfl];unfold sS;cases s with
 |nil=>simp[arn,acW,eS]
 |cons a s=>simp[arn,acW,eS,h]
theorem OJ(t a:List UInt8):bB I.qj [aI [aO t,aO a]]=some (aC (iF t&&sS a)):=by
 have h:=nO t;have b:=LK a;rw[aT ap2 rfl];cases hn:iF t<;>rw[hn]at h<;>simp[att,anF,h,b]
theorem KQ(n:Int):bB I.qg [ap n]=some (aC (decide (0≤n)&&decide (n≤2147483647))):=by
 rw[aT apj rfl];by_cases h:0≤n<;>simp[aru,aj0,h]
noncomputable def zz(x:pY):Bool:=Ll x.ns&&sS x.as'
noncomputable def AI(j:pb):Bool:=Ll j.on&&(iF j.table&&sS j.as')
def nmB(n:uV):Bool:=iF n.name&&sS n.table
noncomputable def xX(ns:List eP):Bool:=ns.length==0 ||Ll ns
abbrev p9(s:mI)(ok:Bool)(a9 a10 a11 a12 a13 a14 a15 a16 a17 a18 a19 a20 a21 a22 a23:aq):List aq:=[s.a,aH 0 0 0 0,aC false,aC ok,am,am,am,am,aC false,a9,a10,a11,a12,a13,a14,a15,a16,a17,a18,a19,a20,a21,a22,a23]
theorem YT(s:mI)(ok:Bool) :
  bU code 1 [4,12] Jj ⟨p9 s ok (.aa false ((s.items.getD []).map pY.a)) (ap (s.items.getD []).length) (ap 0) am am am am am am am am am am am am,[aB 9 0 [s.a]]⟩ =
   some (.ext 0,⟨p9 s (ok&&(s.items.getD []).all zz) (.aa false ((s.items.getD []).map pY.a)) (ap (s.items.getD []).length) (ap (s.items.getD []).length) (aC false) am am am am am am am am am am am,[aB 9 0 [s.a]]⟩):=by
 have hi:=s.hi;have l:∀fl top base σ m,fz fl top base σ (m+3) s.a=s.a:=fun fl top base σ m=>Fx.fx fl top base σ m s;have n3:aM s.a=9:=rfl;generalize s.items.getD []=L at *;have n:L.length≤bC:=by unfold bC;omega
 have key:=(gL (base:=1) (clr:=[4,12]) (b:=Jj) L (fun k ok=>⟨p9 s ok (.aa false (L.map pY.a)) (ap L.length) (ap k) am am am am am am am am am am am am,[aB 9 0 [s.a]]⟩) (fun _ _=>True) (fun b c=>b&&zz c)
  (fun ok=>(.ext 0,⟨p9 s ok (.aa false (L.map pY.a)) (ap L.length) (ap L.length) (aC false) am am am am am am am am am am am,[aB 9 0 [s.a]]⟩))
  (fun k c ok g f _=>by
   refine⟨?_,trivial⟩;have j:∀h:k<L.length,L[k]'h=c:=fun h=>(ak.1 f).2;have i:=cW g n;have a:c.a=aI [gQ c.ns,aO c.as']:=rfl;have e:=GA true c.ns c.h;have d:=LK c.as';cases ok<;>cases hkb:Ll c.ns<;>rw[hkb]at e<;>simp[Jj,g,f,j,a,e,d,i,l,n3,bQ,bw,cn,dE,zz,hkb])
  (fun ok _=>by simp[Jj]) ok trivial).1
 rw[tV zz]at key;simpa using key
theorem abC(s:mI)(ok:Bool)(a:List aq)(n0:Int) :
  bU code 1 [5,16] HJ ⟨p9 s ok (.aa false a) (ap n0) (ap n0) (aC false) (.aa false (s.joins.map pb.a)) (ap s.joins.length) (ap 0) am am am am am am am am,[aB 9 0 [s.a]]⟩ =
   some (.ext 2,⟨p9 s (ok&&s.joins.all AI) (.aa false a) (ap n0) (ap n0) (aC false) (.aa false (s.joins.map pb.a)) (ap s.joins.length) (ap s.joins.length) (aC false) am am am am am am am,[aB 9 0 [s.a]]⟩):=by
 have hi:=s.hj;have m1:∀fl top base σ m,fz fl top base σ (m+3) s.a=s.a:=fun fl top base σ m=>Fx.fx fl top base σ m s;have m3:aM s.a=9:=rfl;generalize s.joins=L at *;have n:L.length≤bC:=by unfold bC;omega
 have key:=(gL (base:=1) (clr:=[5,16]) (b:=HJ) L (fun k ok=>⟨p9 s ok (.aa false a) (ap n0) (ap n0) (aC false) (.aa false (L.map pb.a)) (ap L.length) (ap k) am am am am am am am am,[aB 9 0 [s.a]]⟩) (fun _ _=>True) (fun b c=>b&&AI c)
  (fun ok=>(.ext 2,⟨p9 s ok (.aa false a) (ap n0) (ap n0) (aC false) (.aa false (L.map pb.a)) (ap L.length) (ap L.length) (aC false) am am am am am am am,[aB 9 0 [s.a]]⟩))
  (fun k c ok i g _=>by
   refine⟨?_,trivial⟩;have l:∀h:k<L.length,L[k]'h=c:=fun h=>(ak.1 g).2;have j:=cW i n;have d:c.a=aI [aC c.left,aO c.table,aO c.as',gQ c.on]:=rfl;have f:=GA true c.on c.h;have e:=OJ c.table c.as';cases ok<;>cases hkb:Ll c.on<;>rw[hkb]at f<;>simp[HJ,i,g,l,d,f,e,j,m1,m3,bQ,bw,cn,dE,AI,hkb])
  (fun ok _=>by simp[HJ]) ok trivial).1
 rw[tV AI]at key;simpa using key
theorem ZQ(s:mI)(ok:Bool)(d:List aq)(n0:Int)(e:List aq)(a:Int) :
  bU code 1 [6,20] Im ⟨p9 s ok (.aa false d) (ap n0) (ap n0) (aC false) (.aa false e) (ap a) (ap a) (aC false) (.aa false ((s.group.getD []).map uV.a)) (ap (s.group.getD []).length) (ap 0) am am am am,[aB 9 0 [s.a]]⟩ =
   some (.ext 4,⟨p9 s (ok&&(s.group.getD []).all nmB) (.aa false d) (ap n0) (ap n0) (aC false) (.aa false e) (ap a) (ap a) (aC false) (.aa false ((s.group.getD []).map uV.a)) (ap (s.group.getD []).length) (ap (s.group.getD []).length) (aC false) am am am,[aB 9 0 [s.a]]⟩):=by
 have hi:=s.hg;have m1:∀fl top base σ m,fz fl top base σ (m+3) s.a=s.a:=fun fl top base σ m=>Fx.fx fl top base σ m s;have m3:aM s.a=9:=rfl;generalize (s.group.getD [])=L at *;have p:L.length≤bC:=by unfold bC;omega
 have key:=(gL (base:=1) (clr:=[6,20]) (b:=Im) L (fun k ok=>⟨p9 s ok (.aa false d) (ap n0) (ap n0) (aC false) (.aa false e) (ap a) (ap a) (aC false) (.aa false (L.map uV.a)) (ap L.length) (ap k) am am am am,[aB 9 0 [s.a]]⟩) (fun _ _=>True) (fun b c=>b&&nmB c)
  (fun ok=>(.ext 4,⟨p9 s ok (.aa false d) (ap n0) (ap n0) (aC false) (.aa false e) (ap a) (ap a) (aC false) (.aa false (L.map uV.a)) (ap L.length) (ap L.length) (aC false) am am am,[aB 9 0 [s.a]]⟩))
  (fun k c ok l j _=>by
   refine⟨?_,trivial⟩;have o:∀h:k<L.length,L[k]'h=c:=fun h=>(ak.1 j).2;have n:=cW l p;have f:c.a=aI [aO c.table,aO c.name]:=rfl;have i:=nO c.name;have g:=LK c.table;cases ok<;>cases hkb:iF c.name<;>rw[hkb]at i<;>simp[Im,l,j,o,f,i,g,n,m1,m3,bQ,bw,cn,dE,nmB,hkb])
  (fun ok _=>by simp[Im]) ok trivial).1
 rw[tV nmB]at key;simpa using key
abbrev adt(s:mI):aq:=aI [.aa false ((s.whr.getD []).map eP.a),.aa false ((s.having.getD []).map eP.a)]
theorem ZG(s:mI)(ok:Bool)(h j i:List aq)(n0 a b:Int) :
  bU code 1 [7,23] uw ⟨p9 s ok (.aa false h) (ap n0) (ap n0) (aC false) (.aa false j) (ap a) (ap a) (aC false) (.aa false i) (ap b) (ap b) (aC false) (adt s) (ap 0) am,[aB 9 0 [s.a]]⟩ =
   some (.ext 6,⟨p9 s (ok&&xX (s.whr.getD [])&&xX (s.having.getD [])) (.aa false h) (ap n0) (ap n0) (aC false) (.aa false j) (ap a) (ap a) (aC false) (.aa false i) (ap b) (ap b) (aC false) (adt s) (ap 2) (aC false),[aB 9 0 [s.a]]⟩):=by
 have n:=s.hw;have q:=s.hh;have m1:∀fl top base σ m,fz fl top base σ (m+3) s.a=s.a:=fun fl top base σ m=>Fx.fx fl top base σ m s;have m3:aM s.a=9:=rfl;have o:IntKind.i64.wrap 1=1:=rfl;have p:IntKind.i64.wrap 2=2:=rfl;have step:∀(c:List eP) (ok:Bool),c.length≤1300→∃d,d=(ok&&xX c)∧((c.length:Int)=0∧c.length=0∧c=[]∧d=ok∨((c.length:Int)≠0)∧c.length≠0∧c≠[]∧d=(ok&&Ll c)):=fun c ok B=>by
  refine⟨_,rfl,?_⟩;unfold xX;cases c with
  |nil=>left;simp
  |cons x r=>right;simp;omega
 have t:bB I.qk [.aa true [aI [.aa false ((s.whr.getD []).map eP.a)]]]=some (aC (Ll (s.whr.getD []))):=GA true (s.whr.getD []) n;have l:bB I.qk [.aa true [aI [.aa false ((s.having.getD []).map eP.a)]]]=some (aC (Ll (s.having.getD []))):=GA true (s.having.getD []) q;obtain⟨k1,w,y⟩:=step (s.whr.getD []) ok n;obtain⟨k2,u,A⟩:=step (s.having.getD []) k1 q;rw[←w,←u];simp only[adt];generalize s.whr.getD []=W at *;generalize s.having.getD []=V at *;have v:bU code 1 [7,23] uw ⟨p9 s ok (.aa false h) (ap n0) (ap n0) (aC false) (.aa false j) (ap a) (ap a) (aC false) (.aa false i) (ap b) (ap b) (aC false) (aI [.aa false (W.map eP.a),.aa false (V.map eP.a)]) (ap 0) am,[aB 9 0 [s.a]]⟩ =
   bU code 1 [7,23] uw ⟨p9 s k1 (.aa false h) (ap n0) (ap n0) (aC false) (.aa false j) (ap a) (ap a) (aC false) (.aa false i) (ap b) (ap b) (aC false) (aI [.aa false (W.map eP.a),.aa false (V.map eP.a)]) (ap 1) am,[aB 9 0 [s.a]]⟩:=by
  rw[aZ];rcases y with⟨e,g,k,f⟩|⟨e,g,k,f⟩
  ·subst f;cases k1<;>simp[uw,e,g,o,m1,m3,bQ,bw,cn,dE]
  subst f;cases ok<;>cases hkb:Ll W<;>rw[hkb]at t<;>simp[uw,o,m1,m3,e,g,t,bQ,bw,cn,dE]
 have z:bU code 1 [7,23] uw ⟨p9 s k1 (.aa false h) (ap n0) (ap n0) (aC false) (.aa false j) (ap a) (ap a) (aC false) (.aa false i) (ap b) (ap b) (aC false) (aI [.aa false (W.map eP.a),.aa false (V.map eP.a)]) (ap 1) am,[aB 9 0 [s.a]]⟩ =
   bU code 1 [7,23] uw ⟨p9 s k2 (.aa false h) (ap n0) (ap n0) (aC false) (.aa false j) (ap a) (ap a) (aC false) (.aa false i) (ap b) (ap b) (aC false) (aI [.aa false (W.map eP.a),.aa false (V.map eP.a)]) (ap 2) am,[aB 9 0 [s.a]]⟩:=by
  rw[aZ];rcases A with⟨e,g,k,f⟩|⟨e,g,k,f⟩
  ·subst f;cases k2<;>simp[uw,e,g,p,m1,m3,bQ,bw,cn,dE]
  subst f;cases k1<;>cases hkb:Ll V<;>rw[hkb]at l<;>simp[uw,p,m1,m3,e,g,l,bQ,bw,cn,dE]
 rw[v,z,aZ];simp[uw]
noncomputable def IC(s:mI):Bool:=(s.star==((s.items.getD []).length==0))&&(iF s.table&&sS s.as')&&(s.items.getD []).all zz&&s.joins.all AI&&(s.group.getD []).all nmB&&xX (s.whr.getD [])&&xX (s.having.getD [])
theorem W0(s:mI):bB I.qi [s.a]=some (aC (IC s)):=by
 rw[aT apM rfl];have z:∀fl top base σ m,fz fl top base σ (m+3) s.a=s.a:=fun fl top base σ m=>Fx.fx fl top base σ m s;have n3:aM s.a=9:=rfl;have w:=OJ s.table s.as';have hi:=s.hi;have A:=s.hj;have y:=s.hg;have n:s.a=aI [aC s.distinct,aC s.star,.aa false ((s.items.getD []).map pY.a),aO s.table,aO s.as',.aa false (s.joins.map pb.a),gQ (s.whr.getD []),gQ (s.having.getD []),.aa false ((s.group.getD []).map uV.a)]:=rfl;have u:¬(6:Int)<((s.items.getD []).length:Int):=by omega
 have x:¬(2:Int)<(s.joins.length:Int):=by omega
 have r:¬(3:Int)<((s.group.getD []).length:Int):=by omega
 have h:=YT s (iF s.table&&sS s.as');have b:=abC s (iF s.table&&sS s.as'&&(s.items.getD []).all zz) ((s.items.getD []).map pY.a) (s.items.getD []).length;have e:=ZQ s (iF s.table&&sS s.as'&&(s.items.getD []).all zz&&s.joins.all AI) ((s.items.getD []).map pY.a) (s.items.getD []).length (s.joins.map pb.a) s.joins.length;have i:=ZG s (iF s.table&&sS s.as'&&(s.items.getD []).all zz&&s.joins.all AI&&(s.group.getD []).all nmB) ((s.items.getD []).map pY.a) (s.joins.map pb.a) ((s.group.getD []).map uV.a) (s.items.getD []).length s.joins.length (s.group.getD []).length;have l:(((s.items.getD []).length:Int)==0)=((s.items.getD []).length==0):=by cases s.items.getD []<;>simp;omega
 unfold IC;simp only[p9,adt]at h b e i;rw[n]at h b e i ⊢;generalize v:(iF s.table&&sS s.as')=k at *;generalize f:(k&&(s.items.getD []).all zz)=p at *;generalize g:(p&&s.joins.all AI)=o at *;generalize j:(o&&(s.group.getD []).all nmB)=t at *;generalize c:(t&&xX (s.whr.getD [])&&xX (s.having.getD []))=q at *;have d:(s.star==((s.items.getD []).length==0)&&k&&(s.items.getD []).all zz&&s.joins.all AI&&(s.group.getD []).all nmB&&xX (s.whr.getD [])&&xX (s.having.getD []))=(s.star==((s.items.getD []).length==0)&&q):=by
  rw[←c,←j,←g,←f];simp only[kT]
 rw[d];cases hst:(s.star==((s.items.getD []).length==0)) with
 |false=>
  have a:(s.star==(((s.items.getD []).length:Int)==0))=false:=by rw[l];exact hst
  simp[atg,ajj,a,-beq_eq_false_iff_ne]
 |true=>
  have a:(s.star==(((s.items.getD []).length:Int)==0))=true:=by rw[l];exact hst
  simp[atg,ajj,a,u,x,r,w,h,b,e,i]
def VT(n:Int):Bool:=decide (0≤n)&&decide (n≤2147483647)
def Sk(k:B3):Bool:=(k.name==[]&&VT k.number) ||(iF k.name&&k.number==0)
def MQ(n:Int):Bool:=n == -1 ||VT n
noncomputable def P4(q:tG):Bool:=MQ q.limit&&(q.keys.getD []).all Sk&&q.sels.all IC
abbrev NM(q:tG)(ok:Bool)(a5 a6 a7 a8 a9:aq):List aq:=[q.a,aH 0 0 0 0,ap 0,aC ok,am,a5,a6,a7,a8,a9]
theorem aej(q:tG)(ok:Bool) :
  bU code 1 [4,8] Ew ⟨NM q ok (.aa false ((q.keys.getD []).map B3.a)) (ap (q.keys.getD []).length) (ap 0) am am,[aB 3 0 [q.a]]⟩ =
   some (.ext 0,⟨NM q (ok&&(q.keys.getD []).all Sk) (.aa false ((q.keys.getD []).map B3.a)) (ap (q.keys.getD []).length) (ap (q.keys.getD []).length) (aC false) am,[aB 3 0 [q.a]]⟩):=by
 have hi:=q.hk;have o:∀fl top base σ m,fz fl top base σ (m+3) q.a=q.a:=fun fl top base σ m=>by simp[tG.a]
 have n3:aM q.a=3:=rfl;generalize q.keys.getD []=L at *;have t:L.length≤bC:=by unfold bC;omega
 have key:=(gL (base:=1) (clr:=[4,8]) (b:=Ew) L (fun k ok=>⟨NM q ok (.aa false (L.map B3.a)) (ap L.length) (ap k) am am,[aB 3 0 [q.a]]⟩) (fun _ _=>True) (fun b c=>b&&Sk c)
  (fun ok=>(.ext 0,⟨NM q ok (.aa false (L.map B3.a)) (ap L.length) (ap L.length) (aC false) am,[aB 3 0 [q.a]]⟩))
  (fun k c ok l f _=>by
   refine⟨?_,trivial⟩;have n:∀h:k<L.length,L[k]'h=c:=fun h=>(ak.1 f).2;have p:=cW l t;have e:c.a=aI [aO c.name,ap c.number,aC c.desc]:=rfl;have i:=KQ c.number;have d:=nO c.name;have j:Sk c=((c.name==[]&&VT c.number) ||(iF c.name&&c.number==0)):=rfl;rw[j];have g:(decide (0≤c.number)&&decide (c.number≤2147483647))=VT c.number:=rfl;rw[g]at i;generalize VT c.number=r at *;generalize iF c.name=nf at *;cases hc:c.name with
   |nil=>
    rw[hc]at d e;cases ok<;>cases r<;>cases nf<;>simp[Ew,l,f,n,e,i,d,eS,p,o,n3,bQ,bw,cn,dE]
   |cons a s=>
    rw[hc]at d e;cases ok<;>cases nf<;>simp[Ew,l,f,n,e,i,d,eS,p,o,n3,bQ,bw,cn,dE])
  (fun ok _=>by simp[Ew]) ok trivial).1
 rw[tV Sk]at key;simpa using key
theorem ZO(s:mI):bB I.qc [s.a]=some (aC (!IC s)):=by
 have h:=W0 s;rw[aT apg rfl];have a:s.a=aI [aC s.distinct,aC s.star,.aa false ((s.items.getD []).map pY.a),aO s.table,aO s.as',.aa false (s.joins.map pb.a),gQ (s.whr.getD []),gQ (s.having.getD []),.aa false ((s.group.getD []).map uV.a)]:=rfl;rw[a]at h ⊢;simp[aro,akz,h]
theorem I1(q:tG):bB I.qa [q.a]=some (ap (if P4 q then 0 else 180)):=by
 have d:=aej q (MQ q.limit);have B:=q.hk;have G:=q.h1;have F:=q.h3
 have m:=rq (enc:=mI.a) (b:=false) (l:=q.sels) (f:=.fn I.qc [] []) (p:=fun s=>!IC s) (by unfold bC;omega) (fun _=>⟨rfl,rfl⟩) (fun _=>rfl) (fun y E=>by
  have A:fz true false 0 [] 20 y.a=y.a:=Fx.fx true false 0 [] 17 y;simp[ZO y,A])
 have h:q.sels.any (fun s=>!IC s)=!q.sels.all IC:=by
  generalize q.sels=l;induction l with
  |nil=>rfl
  |cons x r z=>simp[iI,lJ,z]
 rw[h]at m;have w:=KQ q.limit;have g:q.a=aI [.aa false (q.sels.map mI.a),.aa false ((q.keys.getD []).map B3.a),ap q.limit]:=rfl;have u:(0:Int)<(q.sels.length:Int):=by omega
 have i:0<q.sels.length:=by omega
 have t:(q.sels.length:Int)≤3:=by omega
 have o:((q.keys.getD []).length:Int)≤3:=by omega
 rw[aT ao7 rfl];simp only[NM]at d;have a:MQ q.limit=(q.limit == -1 ||(decide (0≤q.limit)&&decide (q.limit≤2147483647))):=rfl;have c:P4 q=(MQ q.limit&&(q.keys.getD []).all Sk&&q.sels.all IC):=rfl;rw[c];generalize D:(MQ q.limit&&(q.keys.getD []).all Sk)=e at *;generalize q.sels.all IC=v at *;rw[g]at d ⊢;clear c g;generalize q.limit=j at *;by_cases n:j=-1
 ·subst n;have a:MQ (-1)=true:=rfl;rw[a]at d;cases e<;>cases v<;>simp[arq,ajl,u,i,t,o,d,m]
 have k:(j == -1)=false:=by simpa using n
 rw[k,jO]at a;rw[a]at d;generalize (decide (0≤j)&&decide (j≤2147483647))=C at *;cases C<;>cases e<;>cases v<;>simp[arq,ajl,u,i,t,o,n,d,m,w]
structure kP where
 tag:Int
 arg:Option (List EN)
def kP.a(x:kP):aq:=aI [ap x.tag,sv (x.arg.map (·.map EN.a))]
structure fJ where
 cat:List cL
 fr:mI
 tables:List Int
 joins:List JX
 whr:Option (List EN)
 having:Option (List EN)
 grouped:Bool
 distinct:Bool
 keys:List Int
 ah:List kP
 items:List (List EN)
 ac:List Int
 groups:List Int
 at':Int
 m1:List (aq×aq)
 m2:List (aq×aq)
 m3:List (aq×aq)
abbrev kF(n k:Nat):aq:=.sl n k 0 k
abbrev eA(l:List Int):List aq:=l.map (.int .i64)
abbrev iJ(n:Nat)(S:fJ):List aq:=[.aa false (S.cat.map cL.a),aC S.fr.distinct,aC S.fr.star,.aa false ((S.fr.items.getD []).map pY.a),aO S.fr.table,aO S.fr.as',.aa false (S.fr.joins.map pb.a),gQ (S.fr.whr.getD []),gQ (S.fr.having.getD []),.aa false ((S.fr.group.getD []).map uV.a),kF (n+4) S.tables.length,kF (n+5) S.joins.length,sv (S.whr.map (·.map EN.a)),sv (S.having.map (·.map EN.a)),aC S.grouped,aC S.distinct,kF (n+6) S.keys.length,kF (n+7) S.ah.length,kF (n+8) S.items.length,.mp n,.mp (n+1),.mp (n+2),kF (n+9) S.ac.length,kF (n+10) S.groups.length,ap S.at']
abbrev BA(n:Nat)(S:fJ):aw:=[.map S.m1,.map S.m2,.map S.m3,aB 25 0 [aI (iJ n S)],aB 1 S.tables.length (eA S.tables),aB 2 S.joins.length (S.joins.map JX.a),aB 1 S.keys.length (eA S.keys),aB 2 S.ah.length (S.ah.map kP.a),aB 1 S.items.length (S.items.map jq),aB 1 S.ac.length (eA S.ac),aB 1 S.groups.length (eA S.groups)]
structure acN (σ:aw) (n:Nat) (m:List (aq×aq)) (K:Nat):Prop where
 ks:∀e∈m,∃s,e.1=aO s
 al:∀s,dy [] (aO s) m=some none∨∃(id:Nat) (l:List Int),dy [] (aO s) m=some (some (.sl id (l.length-1) 0 l.length))∧n+11≤id∧σ[id]?=some (aB 1 (l.length-1) (eA l))∧1≤l.length∧l.length≤K∧∀x∈l,0≤x∧x<K
 inj:∀s s' id e e' o o' k k',dy [] (aO s) m=some (some (.sl id e o k))→dy [] (aO s') m=some (some (.sl id e' o' k'))→s=s'
structure acs (m:List (aq×aq)) (K:Nat):Prop where
 ks:∀e∈m,∃t s,e.1=aI [aO t,aO s]
 bh:∀t s,dy [2,2] (aI [aO t,aO s]) m=some none∨∃x,dy [2,2] (aI [aO t,aO s]) m=some (some (ap x))∧0≤x∧x<K
structure ak5 (m:List (aq×aq)):Prop where
 ks:∀e∈m,∃s,e.1=aO s
 cl:∀s,dy [] (aO s) m=some none∨dy [] (aO s) m=some (some (aC true))
structure ey (σ:aw) (n:Nat) (S:fJ):Prop where
 called:ak5 S.m1
 alone:acN σ n S.m2 S.ac.length
 behind:acs S.m3 S.ac.length
def SA(σ:aw)(n:Nat)(S:fJ):Prop:=∃P J,P.length=n∧σ=P++(BA n S++J)
structure Fr (n:Nat) (σ σ':aw):Prop where
 le:σ.length≤σ'.length
 kp:∀(i:Nat) (o:Obj),i<n∨n+11≤i→σ[i]?=some o→σ'[i]?=some o
theorem Fr.rfl'(n:Nat)(σ:aw):Fr n σ σ:=⟨aF _,fun _ _ _ h=>h⟩
theorem Fr.trans{n:Nat}{a b c:aw}(h:Fr n a b)(d:Fr n b c):Fr n a c:=⟨bR h.le d.le,fun i o hi e=>d.kp i o hi (h.kp i o hi e)⟩
theorem Fr.app(n:Nat)(σ X:aw):Fr n σ (σ++X):=⟨by simp,fun i o _ a=>by
 have:=(ak.1 a).1;rw[aS this,a]⟩
theorem SA.app{σ:aw}{n:Nat}{S:fJ}(h:SA σ n S)(X:aw):SA (σ++X) n S:=by
 obtain⟨P,J,b,a⟩:=h;exact⟨P,J++X,b,by rw[a];simp⟩
theorem SA.at3{σ:aw}{n:Nat}{S:fJ}(h:SA σ n S)(X:aw):(σ++X)[n+3]?=some (aB 25 0 [aI (iJ n S)]):=by
 obtain⟨P,J,rfl,rfl⟩:=h;simp
theorem SA.at0{σ:aw}{n:Nat}{S:fJ}(h:SA σ n S)(X:aw):(σ++X)[n]?=some (.map S.m1):=by
 obtain⟨P,J,rfl,rfl⟩:=h;simp
theorem SA.at1{σ:aw}{n:Nat}{S:fJ}(h:SA σ n S)(X:aw):(σ++X)[n+1]?=some (.map S.m2):=by
 obtain⟨P,J,rfl,rfl⟩:=h;simp
theorem SA.at2{σ:aw}{n:Nat}{S:fJ}(h:SA σ n S)(X:aw):(σ++X)[n+2]?=some (.map S.m3):=by
 obtain⟨P,J,rfl,rfl⟩:=h;simp
theorem SA.at4{σ:aw}{n:Nat}{S:fJ}(h:SA σ n S)(X:aw):(σ++X)[n+4]?=some (aB 1 S.tables.length (eA S.tables)):=by
 obtain⟨P,J,rfl,rfl⟩:=h;simp
theorem SA.at6{σ:aw}{n:Nat}{S:fJ}(h:SA σ n S)(X:aw):(σ++X)[n+6]?=some (aB 1 S.keys.length (eA S.keys)):=by
 obtain⟨P,J,rfl,rfl⟩:=h;simp
theorem SA.at7{σ:aw}{n:Nat}{S:fJ}(h:SA σ n S)(X:aw):(σ++X)[n+7]?=some (aB 2 S.ah.length (S.ah.map kP.a)):=by
 obtain⟨P,J,rfl,rfl⟩:=h;simp
theorem SA.at8{σ:aw}{n:Nat}{S:fJ}(h:SA σ n S)(X:aw):(σ++X)[n+8]?=some (aB 1 S.items.length (S.items.map jq)):=by
 obtain⟨P,J,rfl,rfl⟩:=h;simp
theorem SA.at9{σ:aw}{n:Nat}{S:fJ}(h:SA σ n S)(X:aw):(σ++X)[n+9]?=some (aB 1 S.ac.length (eA S.ac)):=by
 obtain⟨P,J,rfl,rfl⟩:=h;simp
theorem SA.at10{σ:aw}{n:Nat}{S:fJ}(h:SA σ n S)(X:aw):(σ++X)[n+10]?=some (aB 1 S.groups.length (eA S.groups)):=by
 obtain⟨P,J,rfl,rfl⟩:=h;simp
theorem ey.app{σ:aw}{n:Nat}{S:fJ}(h:ey σ n S)(X:aw):ey (σ++X) n S:=⟨h.called,⟨h.alone.ks,fun s=>(h.alone.al s).imp id fun ⟨id,l,d,c,a,b⟩=>⟨id,l,d,c,by
 rw[aS (ak.1 a).1,a],b⟩,h.alone.inj⟩,h.behind⟩
theorem Fy{σ:aw}{n:Nat}{S:fJ}(h:SA σ n S)(k:ey σ n S)(t s:List UInt8) :
  ∃(x e:Int),cC code I.qae [aH (n+3) 0 0 0,aI [aO t,aO s]] σ=some (fy [ap x,ap e],σ++[aB 2 0 [aI [aO t,aO s]]])∧(e=0→0≤x∧x<S.ac.length):=by
 rw[cz anq rfl];have d:=h.at3;have f:=h.at1;have j:=h.at2;cases t with
 |cons c t=>
  rcases k.behind.bh (c::t) s with a|⟨x,a,g⟩
  ·exact⟨0,222,by simp[arQ,Kg,eS,d,j,a],fun e=>by cases e⟩
  exact⟨x,0,by simp[arQ,Kg,eS,d,j,a],fun _=>g⟩
 |nil=>
  rcases k.alone.al s with a|⟨id,l,a,hid,m,r,u,g⟩
  ·exact⟨0,222,by simp[arQ,Kg,eS,d,f,a],fun e=>by cases e⟩
  have b:∀X,(σ++X)[id]?=some (aB 1 (l.length-1) (eA l)):=fun X=>by rw[aS (ak.1 m).1,m]
  by_cases o:l.length=1
  ·obtain⟨x,rfl⟩:=kG.1 o;exact⟨x,0,by simp at a b;simp[arQ,Kg,eS,d,f,a,b],fun _=>g x (by simp)⟩
  have q:¬(l.length:Int)=0:=by omega
  have p:¬(l.length:Int)=1:=by omega
  have i:¬l.length=0:=by omega
  exact⟨0,223,by simp[arQ,Kg,eS,d,f,a,b,q,p,i,o],fun e=>by cases e⟩
theorem ey.fr{σ a:aw}{n:Nat}{S S':fJ}(h:ey σ n S)(m:Fr n σ a)(j:S'.m1=S.m1)(g:S'.m2=S.m2)(e:S'.m3=S.m3)(c:S'.ac=S.ac):ey a n S':=by
 refine⟨?_,?_,?_⟩
 ·rw[j];exact h.called
 ·rw[g,c];exact⟨h.alone.ks,fun s=>(h.alone.al s).imp id fun ⟨i,l,k,b,d,f⟩=>⟨i,l,k,b,m.kp i _ (.inr b) d,f⟩,h.alone.inj⟩
 rw[e,c];exact h.behind
def kP.es(x:kP):List EN:=x.arg.getD []
def kP.x(g:kP):ll:=⟨g.tag,false,g.es⟩
def kP.z(g:kP):aq:=aI [ap g.tag,.aa false (g.es.map EN.a)]
theorem kP.fzz(g:kP)(base:Nat)(σ:aw)(m:Nat):fz true false base σ (m+4) g.a=g.z:=by
 obtain⟨t,o⟩:=g;cases o<;>simp[kP.a,kP.z,kP.es,sv]
structure wc (S:fJ):Prop where
 kl:S.keys.length≤3
 kr:∀k∈S.keys,0≤k∧k<S.ac.length
 al:S.ah.length≤12
 ag:∀g∈S.ah,(Dw S.ac g.x).1=true
 ae:∀g∈S.ah,g.es.length≤1000
 gr:S.groups=S.keys.map (fun k=>S.ac.getD k.toNat 0)++S.ah.map (fun g=>uY S.ac g.x)
theorem ajp(x y:kP)(b:Bool)(g:x.es.length≤8000):bB I.qy [x.z,.cptr b y.z 0]=some (aC (x.tag==y.tag&&decide (x.es=y.es))):=by
 rw[aT apT rfl];have h:=TU false false x.es y.es g;have a:=TU true true x.es y.es g;have c:x.z=aI [ap x.tag,.aa false (x.es.map EN.a)]:=rfl;have d:y.z=aI [ap y.tag,.aa false (y.es.map EN.a)]:=rfl;rw[c,d];by_cases e:x.tag=y.tag
 ·cases b<;>simp[asP,ahL,e,h,a]
 have f:(x.tag==y.tag)=false:=by simpa using e
 cases b<;>simp[asP,ahL,e,f]
theorem kP.z_fz(g:kP)(fl top:Bool)(base:Nat)(σ:aw)(m:Nat):fz fl top base σ (m+3) g.z=g.z:=by
 unfold kP.z;simp
theorem kP.z_nc(g:kP):aM g.z=2∧isAgg g.z=true:=⟨rfl,rfl⟩
theorem kP.a_nc(g:kP):aM g.a=2∧isAgg g.a=true:=⟨rfl,rfl⟩
noncomputable def Ck(y:kP)(l:List kP):Int:=wd (fun x:kP=>x.tag==y.tag&&decide (x.es=y.es)) l
theorem aef(b a:Bool)(y:kP)(l:List kP)(j:l.length≤8000)(g:∀x∈l,x.es.length≤8000):bB I.qgv [.aa b (l.map kP.z),.fn I.qy [] [.cptr a y.z 0]]=some (ap (Ck y l)):=by
 refine ym (enc:=kP.z) (b:=b) (l:=l) (f:=.fn I.qy [] [.cptr a y.z 0]) (p:=fun x:kP=>x.tag==y.tag&&decide (x.es=y.es)) (by unfold bC;omega) (fun x=>x.z_nc) (fun τ=>?_) (fun x c=>?_)
 ·have:=fun base m=>y.z_fz true false base τ m;cases a<;>simp[this]
 have e:=ajp x y;have i:=fun fl top base σ m=>x.z_fz fl top base σ m;have h:=fun fl top base σ m=>y.z_fz fl top base σ m;have d:=y.z_nc;cases a<;>simp[e,i,h,d,g x c]
abbrev xP(σ:aw)(n:Nat)(a:kP)(e3 e4 k e6 e7 e8 e9 e10 e11:aq):List aq:=[aH (n+3) 0 0 0,a.a,aH σ.length 0 0 0,e3,e4,k,e6,e7,e8,e9,e10,e11,am,am]
abbrev i0:aq:=ap 0
theorem ahu{σ:aw}{n:Nat}{S:fJ}(h:SA σ n S)(a:kP)(D:a.es.length≤1000)(B:1≤a.tag∧a.tag≤5)(z:a.tag=1→a.es=[])(E:S.ac.length≤8000) :
  (∃w x v l s,run code eh ⟨xP σ n a i0 i0 (ap 2) am am am am am am,σ++[aB 2 0 [a.a]]⟩=some (.nrm,⟨xP σ n a i0 i0 (ap (uY S.ac a.x)) w x am v l s,σ++[aB 2 0 [a.a]]⟩)∧(Dw S.ac a.x).1=true) ∨
  (∃env,run code eh ⟨xP σ n a i0 i0 (ap 2) am am am am am am,σ++[aB 2 0 [a.a]]⟩=some (.ret,⟨env,σ++[aB 2 0 [a.a]]⟩)∧env[3]?=some i0∧env[4]?=some (ap 201)):=by
 have g:=h.at3;have i:=h.at9;have q:a.x.tag=a.tag:=rfl;have o:a.x.arg=a.es:=rfl;unfold uY Dw;rw[q,o];have e:∀j,fz true false 0 j 19 (sv (a.arg.map (·.map EN.a)))=.aa false (a.es.map EN.a):=fun j=>by
  unfold kP.es;cases a.arg<;>simp[sv]
 have b:a.a=aI [ap a.tag,sv (a.arg.map (·.map EN.a))]:=rfl;have c:=vq (a.arg.map (·.map EN.a));have d:=fun A=>pH false a.es A S.ac (by unfold bC;omega) (by unfold bC;omega);rw[b];generalize sv (a.arg.map (·.map EN.a))=F at *;by_cases f:a.tag=1
 ·left;have y:=z f;refine⟨am,am,aC false,am,am,?_,by rw[if_pos f,y];rfl⟩;rw[if_pos (.inl f)];simp[eh,b,f,c]
 by_cases k2:(eI a.es S.ac).2=0
 ·have r:((eI a.es S.ac).2==0)=true:=by simpa using k2
  have p:a.tag=2∨a.tag=3∨a.tag=4∨a.tag=5:=by omega
  generalize eI a.es S.ac=K at *;obtain⟨u,C⟩:=K;simp only at k2 r;subst k2;rcases p with t|t|t|t
  ·left;refine⟨_,_,_,_,_,by simp[eh,b,t,c,g,i,e,d];exact⟨rfl,rfl,rfl,rfl,rfl⟩,?_⟩;rw[if_neg f];simp[t]
  ·by_cases k:u=2
   ·left;refine⟨_,_,_,_,_,by simp[eh,b,t,c,g,i,e,d,k];exact⟨rfl,rfl,rfl,rfl,rfl⟩,?_⟩;rw[if_neg f];simp[t,k]
   by_cases m:u=0
   ·left;refine⟨_,_,_,_,_,by simp[eh,b,t,c,g,i,e,d,k,m];exact⟨rfl,rfl,rfl,rfl,rfl⟩,?_⟩;rw[if_neg f];simp[t,m]
   right;refine⟨_,by simp[eh,b,t,c,g,i,e,d,k,m];rfl,rfl,rfl⟩
  ·left;refine⟨_,_,_,_,_,by simp[eh,b,t,c,g,i,e,d];exact⟨rfl,rfl,rfl,rfl,rfl⟩,?_⟩;rw[if_neg f];simp[t]
  left;refine⟨_,_,_,_,_,by simp[eh,b,t,c,g,i,e,d];exact⟨rfl,rfl,rfl,rfl,rfl⟩,?_⟩;rw[if_neg f];simp[t]
 right;refine⟨_,by simp[eh,b,f,c,g,i,e,d,k2];rfl,rfl,rfl⟩
theorem ad9(y:kP)(l:List kP):Ck y l<l.length∧-1≤Ck y l:=by
 unfold Ck wd;split
 ·rename_i h;have:=bM (cB.1 h);omega
 omega
def fJ.agg(S:fJ)(a:kP)(k:Int):fJ:={ S with ah:=S.ah++[a],groups:=S.groups++[k] }
theorem Fr.sc{P J X:aw}{S S':fJ}:Fr P.length (P++(BA P.length S++J)) (P++(BA P.length S'++(J++X))):=by
 refine⟨by simp,fun i o hi a=>?_⟩;rcases hi with hi|hi
 ·rw[aS hi]at a ⊢;exact a
 have b:∀(T:fJ) (K:aw),(P++(BA P.length T++K))[i]?=K[i-P.length-11]?:=fun T K=>by
  rw[bI (by omega),bI (by simp;omega)];rfl
 rw[b]at a ⊢;have:=(ak.1 a).1;rw[aS this,a]
theorem wc.agg{S:fJ}(h:wc S){a:kP}(d:a.es.length≤1000)(c:(Dw S.ac a.x).1=true)(e:S.ah.length+1≤12):wc { S with ah:=S.ah++[a],groups:=S.groups++[uY S.ac a.x] }:=by
 refine⟨h.kl,h.kr,by simp;omega,?_,?_,?_⟩
 ·intro g b;rcases ba.1 b with b|b
  ·exact h.ag g b
  rw[aP.1 b];exact c
 ·intro g b;rcases ba.1 b with b|b
  ·exact h.ae g b
  rw[aP.1 b];exact d
 show S.groups++[uY S.ac a.x]=_;rw[h.gr];simp
theorem Pv{σ:aw}{n:Nat}{S:fJ}(h:SA σ n S)(b:Int)(hi:-1≤b∧b≤100)(u:S.keys.length≤3)(t:S.ah.length≤100)(s l k o q j c d f:aq) :
  ∃(x e:Int) (env:List aq),run code (.seq gN gO) ⟨[aH (n+3) 0 0 0,s,l,i0,i0,k,o,q,ap b,j,c,d,f,am],σ⟩=some (.ret,⟨env,σ⟩)∧env[3]?=some (ap x)∧env[4]?=some (ap e)∧(e=0→S.ah.length≤12):=by
 have g:σ[n+3]?=some (aB 25 0 [aI (iJ n S)]):=by simpa using h.at3 []
 have m:σ[n+6]?=some (aB 1 S.keys.length (eA S.keys)):=by simpa using h.at6 []
 have i:σ[n+7]?=some (aB 2 S.ah.length (S.ah.map kP.a)):=by simpa using h.at7 []
 by_cases r:S.ah.length≤12
 ·have a:¬(12:Int)<(S.ah.length:Int):=by omega
  have p:IntKind.i64.wrap ((S.keys.length:Int)+b)=(S.keys.length:Int)+b:=rJ (by omega) (by omega);exact⟨(S.keys.length:Int)+b,0,_,by simp[gN,gO,nZ,oc,g,m,i,a,p];rfl,rfl,rfl,fun _=>r⟩
 have a:(12:Int)<(S.ah.length:Int):=by omega
 exact⟨0,228,_,by simp[gN,gO,nZ,oc,g,i,a];rfl,rfl,rfl,fun e=>by cases e⟩
theorem YY{σ:aw}{n:Nat}{S:fJ}(h:SA σ n S)(hM:ey σ n S)(k:wc S)(a:kP)(U:a.es.length≤1000)(ht:1≤a.tag∧a.tag≤5)(h1:a.tag=1→a.es=[])(hk:S.ac.length≤8000) :
  ∃(x e:Int) (q:aw) (A:List kP) (G:List Int),cC code I.qx [aH (n+3) 0 0 0,a.a] σ=some (fy [ap x,ap e],q)∧SA q n { S with ah:=S.ah++A,groups:=S.groups++G }∧Fr n σ q∧(e=0→wc { S with ah:=S.ah++A,groups:=S.groups++G }):=by
 rw[cz ao6 rfl];have a3:=h.at3;have M:=ahu h a U ht h1 hk;have hb:arH.body=.seq ou (.seq oF (.seq eh sr)):=rfl;have W:[aq.ptr (n+3) 0 0 0,a.a].take arH.np++List.replicate (arH.nenv-arH.np) aq.any=[aH (n+3) 0 0 0,a.a,am,am,am,am,am,am,am,am,am,am,am,am]:=rfl;have q0:run code ou ⟨[aH (n+3) 0 0 0,a.a,am,am,am,am,am,am,am,am,am,am,am,am],σ⟩=some (.nrm,⟨xP σ n a i0 i0 am am am am am am am,σ++[aB 2 0 [a.a]]⟩):=by
  have:=a.a_nc;simp[ou,this]
 have q1:run code oF ⟨xP σ n a i0 i0 am am am am am am am,σ++[aB 2 0 [a.a]]⟩=some (.nrm,⟨xP σ n a i0 i0 (ap 2) am am am am am am,σ++[aB 2 0 [a.a]]⟩):=by
  simp[oF]
 rw[hb,W,fA,q0,bW,fA,q1,bW,fA];rcases M with⟨l,o,j,c,d,E,Q⟩|⟨env,E,h3,h4⟩
 rotate_left
 ·rw[E,OM];exact⟨0,201,σ++[aB 2 0 [a.a]],[],[],by simp[arH,h3,h4],by simpa using h.app _,Fr.app _ _ _,fun e=>by cases e⟩
 rw[E,bW];have a7:=h.at7;have ad:=k.al;have N:=fun b Z=>aef b Z a S.ah (by omega) (fun x hx=>by have:=k.ae x hx;omega);obtain⟨X,ab⟩:=ad9 a S.ah;have B:=fun (g:kP) base σ m=>g.fzz base σ m;have O:∀base σ m,(S.ah.map kP.a).map (fz true false base σ (m+4))=S.ah.map kP.z:=fun base σ m=>by
  rw[bY];exact aW fun y _=>y.fzz base σ m
 have u:List.take S.ah.length (S.ah.map kP.a)=S.ah.map kP.a:=ay (by simp);have t:=fun g:kP=>g.a_nc;have H:=fun g:kP=>g.z_nc;have q3:run code kM ⟨xP σ n a i0 i0 (ap (uY S.ac a.x)) l o am j c d,σ++[aB 2 0 [a.a]]⟩=some (.nrm,⟨xP σ n a i0 i0 (ap (uY S.ac a.x)) l o (ap (Ck a S.ah)) j c d,σ++[aB 2 0 [a.a]]⟩):=by
  generalize Ck a S.ah=K at *;simp[kM,a3,a7,N,B,u,O,t,H]
 have e3:sr=.seq kM (.seq gP (.seq gN gO)):=rfl;rw[e3,fA,q3,bW,fA];by_cases f:Ck a S.ah<0
 ·
  obtain⟨P,J,rfl,rfl⟩:=h;have w:S.ah.length+1≤bC:=by unfold bC;omega
  have ae:S.groups.length≤15:=by
   have:=k.gr;have:=k.kl;rw[k.gr];simp;omega
  have C:S.groups.length+1≤bC:=by unfold bC;omega
  have z:List.take S.groups.length (eA S.groups)=eA S.groups:=ay (by simp);have R:decide (Ck a S.ah<0)=true:=by simpa using f
  generalize Ck a S.ah=K at *;generalize L:uY S.ac a.x=i at *;have v:∃p,run code gP ⟨xP (P++(BA P.length S++J)) P.length a i0 i0 (ap i) l o (ap K) j c d,P++(BA P.length S++J)++[aB 2 0 [a.a]]⟩=some (.nrm,⟨(xP (P++(BA P.length S++J)) P.length a i0 i0 (ap i) l o (ap S.ah.length) j c d).set 12 p,P++(BA P.length (S.agg a i)++J++[aB 2 0 [a.a]])⟩):=by
   refine⟨aC true,?_⟩;simp[gP,f,t,w,C,u,z,append,fJ.agg]
  obtain⟨p,v⟩:=v;rw[v,bW];have V:SA (P++(BA P.length (S.agg a i)++J++[aB 2 0 [a.a]])) P.length (S.agg a i):=⟨P,J++[aB 2 0 [a.a]],rfl,by simp⟩;obtain⟨x,e,env,r,F,D,T⟩:=Pv V S.ah.length ⟨by omega,by omega⟩ k.kl (by show (S.ah++[a]).length≤100;simp;omega) a.a (aH (P++(BA P.length S++J)).length 0 0 0) (ap i) l o j c d p;have s:run code (.seq gN gO) ⟨(xP (P++(BA P.length S++J)) P.length a i0 i0 (ap i) l o (ap S.ah.length) j c d).set 12 p,P++(BA P.length (S.agg a i)++J++[aB 2 0 [a.a]])⟩=some (.ret,⟨env,P++(BA P.length (S.agg a i)++J++[aB 2 0 [a.a]])⟩):=r;rw[s];refine⟨x,e,_,[a],[i],by simp[arH,F,D],V,?_,fun he=>?_⟩
  ·rw[dG];exact Fr.sc
  have hl:(S.ah++[a]).length≤12:=T he;have:=k.agg U Q (by simpa using hl);rw[L]at this;exact this
 have Y:decide (Ck a S.ah<0)=false:=by simpa using f
 obtain⟨x,e,env,r,F,D,T⟩:=Pv (h.app [aB 2 0 [a.a]]) (Ck a S.ah) ⟨by omega,by omega⟩ k.kl (by omega) a.a (aH σ.length 0 0 0) (ap (uY S.ac a.x)) l o j c d (aC false);have v:run code gP ⟨xP σ n a i0 i0 (ap (uY S.ac a.x)) l o (ap (Ck a S.ah)) j c d,σ++[aB 2 0 [a.a]]⟩=some (.nrm,⟨[aH (n+3) 0 0 0,a.a,aH σ.length 0 0 0,i0,i0,ap (uY S.ac a.x),l,o,ap (Ck a S.ah),j,c,d,aC false,am],σ++[aB 2 0 [a.a]]⟩):=by
  generalize Ck a S.ah=K at *;simp[gP,f]
 rw[v,bW,r];exact⟨x,e,σ++[aB 2 0 [a.a]],[],[],by simp[arH,F,D],by simpa using h.app [aB 2 0 [a.a]],Fr.app _ _ _,fun _=>by simpa using k⟩
abbrev Hm:aq:=.imap false [(ap 3,ap 1),(ap 8,ap 2),(ap 9,ap 3),(ap 10,ap 4),(ap 11,ap 5)]
theorem aaw:bB I.qt []=some Hm:=kV (n:=20) (σ:=[]) (by kernel_rfl)
theorem ML(root:EN):∃(es:List EN) (a:Int),bB I.qab [root.a]=some (fy [jq es,ap a])∧es.length≤1000∧(a=0→wn es=true):=by
 obtain⟨es,a,h,d,b⟩:=ahs root;refine⟨es,a,?_,d,b⟩;have c:root.a=aI [ap root.tag,ap root.l,ap root.r,ap root.col,ap root.v.k,ap root.v.n,.int .u64 root.v.u,aO root.v.s]:=rfl;rw[aT an6 rfl];rw[c]at h ⊢;simp[aua,afm,h]
structure CL (σ:aw) (n:Nat) (ns:List eP) (j:Nat):Prop where
 ge:n+11≤j
 b3:σ[j]?=some (aB 1 0 [aH (n+3) 0 0 0])
 b4:σ[j+1]?=some (aB 1 0 [aI [.aa false (ns.map eP.a)]])
 b8:σ[j+3]?=some (aB 1 0 [Hm])
 b9:σ[j+4]?=some (aB 1 0 [.fn 100 [] []])
 b10:σ[j+5]?=some (aB 1 0 [.fn 103 [] [aH j 0 0 0]])
 b11:σ[j+6]?=some (aB 1 0 [.fn 82 [] [aH (j+1) 0 0 0,aH (j+4) 0 0 0,aH j 0 0 0,aH (j+3) 0 0 0,aH (j+6) 0 0 0,aH (j+5) 0 0 0]])
theorem CL.fr{σ b:aw}{n:Nat}{c:List eP}{j:Nat}(h:CL σ n c j)(a:Fr n σ b):CL b n c j:=by
 have d:=h.ge;exact⟨d,a.kp _ _ (.inr (by omega)) h.b3,a.kp _ _ (.inr (by omega)) h.b4,a.kp _ _ (.inr (by omega)) h.b8,a.kp _ _ (.inr (by omega)) h.b9,a.kp _ _ (.inr (by omega)) h.b10,a.kp _ _ (.inr (by omega)) h.b11⟩
theorem fq{σ:aw}{i:Nat}{o:Obj}(h:σ[i]?=some o)(X:aw):(σ++X)[i]?=some o:=by
 rw[aS (ak.1 h).1,h]
theorem By{σ:aw}{n:Nat}{S:fJ}(h:SA σ n S){c:List eP}{j:Nat}(a:CL σ n c j)(g:Bool):cC code I.qac [aC g,aH j 0 0 0] σ=some (if g then kF (n+10) S.groups.length else kF (n+9) S.ac.length,σ):=by
 rw[cz anY rfl];have d:σ[n+3]?=some (aB 25 0 [aI (iJ n S)]):=by simpa using h.at3 []
 have b:=a.b3;cases g<;>simp[atY,aeQ,d,b]
def pW(t:Int):Int:=if t=3 then 1 else if t=8 then 2 else if t=9 then 3 else if t=10 then 4 else if t=11 then 5 else 0
theorem P8(t:Int):0≤pW t∧pW t≤5:=by unfold pW;repeat' split<;>omega
theorem HC{t:Int}(h:0<pW t):(pW t=1∧iG t=0)∨(2≤pW t∧iG t=1):=by
 unfold pW iG at *
 repeat' split at h
 all_goals (first|omega|(subst_vars;simp))
def IJ(σ:aw)(n:Nat)(S:fJ)(g:Bool)(r:Option (aq×aw)):Prop:=
 ∃(o:Option (List EN)) (e:Int) (σ':aw) (A:List kP) (G:List Int),r=some (fy [aI [sv (o.map (·.map EN.a))],ap e],σ')∧(o.getD []).length≤1000∧SA σ' n { S with ah:=S.ah++A,groups:=S.groups++G }∧Fr n σ σ'∧(g=false→A=[]∧G=[])∧(e=0→wc { S with ah:=S.ah++A,groups:=S.groups++G }∧o.isSome=true)
abbrev rW(i:Nat)(g:Bool)(j:Nat):List aq:=[ap i,aC g,aH (j+1) 0 0 0,aH (j+4) 0 0 0,aH j 0 0 0,aH (j+3) 0 0 0,aH (j+6) 0 0 0,aH (j+5) 0 0 0]
theorem Xg{σ:aw}{n:Nat}{S:fJ}{b:List eP}{j:Nat}(h:SA σ n S)(p:wc S)(m:CL σ n b j)(i:Nat)(a:eP)(hi:b[i]?=some a)(g:Bool)(r:a.tag=1):IJ σ n S g (cC code I.qad (rW i g j) σ):=by
 rw[cz aaK rfl];have q:=fq m.b4;have t:=fq m.b9;have l:i<b.length:=(ak.1 hi).1;have e:(i:Int)<(b.length:Int):=by omega
 have d:∀h:i<b.length,b[i]'h=a:=fun h=>(ak.1 hi).2;have c:a.a=aI [ap a.tag,ap a.l,ap a.r,ap a.v.k,ap a.v.n,.int .u64 a.v.u,aO a.v.s,aO a.table,aO a.name]:=rfl;obtain⟨es,s,o,k,_⟩:=ML ⟨1,0,0,0,a.v⟩;have f:(⟨1,0,0,0,a.v⟩:EN).a=aI [ap 1,ap 0,ap 0,ap 0,ap a.v.k,ap a.v.n,.int .u64 a.v.u,aO a.v.s]:=rfl;rw[f]at o;rw[r]at c;refine⟨some es,s,σ++[aB 1 0 [jq es],aB 9 0 [a.a]],[],[],?_,k,by simpa using h.app _,Fr.app _ _ _,fun _=>⟨rfl,rfl⟩,fun _=>⟨by simpa using p,rfl⟩⟩;simp[arx,CG,q,t,hi,l,e,d,c,o,sv]
theorem VF{σ:aw}{n:Nat}{S:fJ}{s:List eP}{j:Nat}(h:SA σ n S)(L:ey σ n S)(C:wc S)(E:CL σ n s j)(i:Nat)(a:eP)(hi:s[i]?=some a)(g:Bool)(M:a.tag=2):IJ σ n S g (cC code I.qad (rW i g j) σ):=by
 rw[cz aaK rfl];have w:=fq E.b4;have z:=fq E.b3;have A:=fq E.b9;have J:=h.at3;have G:=h.at6;have p:i<s.length:=(ak.1 hi).1;have o:(i:Int)<(s.length:Int):=by omega
 have l:∀h:i<s.length,s[i]'h=a:=fun h=>(ak.1 hi).2;have f:a.a=aI [ap a.tag,ap a.l,ap a.r,ap a.v.k,ap a.v.n,.int .u64 a.v.u,aO a.v.s,aO a.table,aO a.name]:=rfl;rw[M]at f;obtain⟨x,H,d,_⟩:=Fy (h.app [aB 1 0 [aI [.ai]],aB 9 0 [a.a]]) (L.app _) a.table a.name;have k:=fun c:Int=>ML ⟨2,0,0,c,zE⟩;have u:∀c:Int,(⟨2,0,0,c,zE⟩:EN).a=aI [ap 2,ap 0,ap 0,ap c,ap 0,ap 0,.int .u64 0,aO []]:=fun _=>rfl;have B:S.keys.length≤bC:=by have:=C.kl;unfold bC;omega
 have t:List.take S.keys.length (eA S.keys)=eA S.keys:=ay (by simp);have N:∀base σ m,(eA S.keys).map (fz true false base σ (m+1))=eA S.keys:=fun base σ m=>by
  rw[bY];exact aW fun y _=>by simp
 rw[f]at d;by_cases D:H=0
 ·subst D;cases g with
  |false=>
   obtain⟨es,F,v,q,_⟩:=k x;rw[u]at v;refine⟨some es,F,σ++[aB 1 0 [jq es],aB 9 0 [a.a],aB 2 0 [aI [aO a.table,aO a.name]]],[],[],?_,q,by simpa using h.app _,Fr.app _ _ _,fun _=>⟨rfl,rfl⟩,fun _=>⟨by simpa using C,rfl⟩⟩;simp[arx,CG,w,z,A,hi,p,o,l,f,d,v,sv]
  |true=>
   have r:=fun b=>WQ b S.keys x B;simp only[cG]at r;generalize wd (fun y=>x==y) S.keys=ix at *;by_cases K:ix<0
   ·refine⟨none,225,σ++[aB 1 0 [aI [.ai]],aB 9 0 [a.a],aB 2 0 [aI [aO a.table,aO a.name]]],[],[],?_,by simp,by simpa using h.app _,Fr.app _ _ _,fun _=>⟨rfl,rfl⟩,fun e=>by cases e⟩;simp[arx,CG,w,z,A,J,G,hi,p,o,l,f,d,t,r,K,sv]
   obtain⟨es,F,v,q,_⟩:=k ix;rw[u]at v;refine⟨some es,F,σ++[aB 1 0 [jq es],aB 9 0 [a.a],aB 2 0 [aI [aO a.table,aO a.name]]],[],[],?_,q,by simpa using h.app _,Fr.app _ _ _,fun _=>⟨rfl,rfl⟩,fun _=>⟨by simpa using C,rfl⟩⟩;simp[arx,CG,w,z,A,J,G,hi,p,o,l,f,d,t,r,K,v,sv]
 refine⟨none,H,σ++[aB 1 0 [aI [.ai]],aB 9 0 [a.a],aB 2 0 [aI [aO a.table,aO a.name]]],[],[],?_,by simp,by simpa using h.app _,Fr.app _ _ _,fun _=>⟨rfl,rfl⟩,fun e=>absurd e D⟩;simp[arx,CG,w,z,A,hi,p,o,l,f,d,D,sv]
theorem AG:CG=.seq lB pV:=rfl
theorem ff(base:Nat)(clr:List Nat)(s:St):bQ base (9999::clr) s=⟨clear s.env (9999::clr),s.st⟩:=by
 unfold bQ;rw[if_pos (.inr rfl)]
theorem SA.set{σ:aw}{n:Nat}{S:fJ}(h:SA σ n S)(i:Nat)(o:Obj)(hi:n+11≤i):SA (σ.set i o) n S:=by
 obtain⟨P,J,rfl,rfl⟩:=h;refine⟨P,J.set (i-P.length-11) o,rfl,?_⟩;rw[fg _ _ (by omega),fg _ _ (by simp;omega)];rfl
theorem Fr.set{n:Nat}{σ τ:aw}(h:Fr n σ τ)(i:Nat)(o:Obj)(hi:σ.length≤i):Fr n σ (τ.set i o):=⟨by simpa using h.le,fun k p b a=>by
 have:=(ak.1 a).1;rw[aD (by omega)];exact h.kp k p b a⟩
abbrev oH(o:Option (List EN)):aq:=aI [sv (o.map (·.map EN.a))]
structure LS (σ:aw) (n:Nat) (S:fJ) (nd:eP) (g:Bool) (τ:aw) (os:List (Option (List EN))) (A:List kP) (G:List Int):Prop where
 sa:SA τ n { S with ah:=S.ah++A,groups:=S.groups++G }
 fr:Fr n σ τ
 nog:g=false→A=[]∧G=[]
 gk:wc { S with ah:=S.ah++A,groups:=S.groups++G }
 b8:τ[σ.length]?=some (aB 1 0 [aI [.ai]])
 b10:τ[σ.length+1]?=some (aB 9 0 [nd.a])
 b14:τ[σ.length+2]?=some (aB 1 os.length (os.map oH))
 le:∀o∈os,(o.getD []).length≤1000
abbrev lpE(σ:aw)(i:Nat)(g:Bool)(j:Nat)(t:Int)(q:Nat)(l r:Int)(k:Int)(y9:aq):List aq:=[ap i,aC g,aH (j+1) 0 0 0,aH (j+4) 0 0 0,aH j 0 0 0,aH (j+3) 0 0 0,aH (j+6) 0 0 0,aH (j+5) 0 0 0,aH σ.length 0 0 0,y9,aH (σ.length+1) 0 0 0,am,am,ap t,.sl (σ.length+2) q 0 q,am,am,am,am,am,am,am,am,aC false,aC false,am,am,am,aI [ap l,ap r],ap k,am,am,am,am,am,am,am,am,am]
noncomputable abbrev PL(σ:aw)(i:Nat)(g:Bool)(j:Nat)(t:Int)(q:Nat)(l r:Int)(k:Int)(y9:aq)(τ:aw):Option (Ex×St):=bU code (σ.length+3) [9999,9,15,16,17,30,31,32] p7 ⟨lpE σ i g j t q l r k y9,τ⟩
def Yf(σ:aw)(n:Nat)(S:fJ)(g:Bool)(r:Option (Ex×St)):Prop:=∃(o:Option (List EN)) (e:Int) (env:List aq) (τ:aw) (A:List kP) (G:List Int),r=some (.ret,⟨env,τ⟩)∧e≠0∧env[8]?=some (aH σ.length 0 0 0)∧env[9]?=some (ap e)∧τ[σ.length]?=some (aB 1 0 [oH o])∧(o.getD []).length≤1000∧SA τ n { S with ah:=S.ah++A,groups:=S.groups++G }∧Fr n σ τ∧(g=false→A=[]∧G=[])
theorem XX{σ:aw}{n:Nat}{S:fJ}{ns:List eP}{j:Nat}{V:eP}{τ:aw}{os:List (Option (List EN))}{A:List kP}{G:List Int}(g:Bool)(h:LS σ n S V g τ os A G)(hn:n+11≤σ.length)(Z:CL σ n ns j)(i:Nat)(t l r:Int)(k:Nat)(hk:k<2)(p:Nat)(L:(if k=0 then l else r)=(p:Int))(ho:os.length≤2)(U:aq)
  (ih:IJ τ n { S with ah:=S.ah++A,groups:=S.groups++G } (g&&t==0) (cC code I.qad (rW p (g&&t==0) j) τ)) :
  Yf σ n S g (PL σ i g j t os.length l r k U τ)∨∃(z:aw) (o:Option (List EN)) (A':List kP) (Y:List Int),PL σ i g j t os.length l r k U τ=PL σ i g j t (os.length+1) l r (k+1:Nat) am z∧LS σ n S V g z (os++[o]) A' Y:=by
 obtain⟨o,e,τ1,P,R,c,J,v,m,Q,E⟩:=ih;have q:g=false→A++P=[]∧G++R=[]:=fun w=>by
  have a:=h.nog w;have b:=Q (by rw[w];rfl);simp[a,b]
 have d:=(Z.fr h.fr).b11;have K:¬((p:Int)<0):=by omega
 have M:=fq (m.kp _ _ (.inr (by omega)) h.b8);have O:=fq (m.kp _ _ (.inr (by omega)) h.b10);have u:=fq (m.kp _ _ (.inr (by omega)) h.b14);have f:=vq (o.map (·.map EN.a));simp only[dG]at v E;have l8:σ.length<(τ1++[Obj.arr 1 0 [oH o]]).length:=(ak.1 (M [Obj.arr 1 0 [oH o]])).1;have T:σ.length+2<(τ1++[Obj.arr 1 0 [oH o]]).length:=(ak.1 (u [Obj.arr 1 0 [oH o]])).1;have s:Fr n σ (τ1++[Obj.arr 1 0 [oH o]]):=(h.fr.trans m).trans (Fr.app _ _ _);unfold PL;have H:(k=0∧l=(p:Int))∨(k=1∧r=(p:Int)):=by
  by_cases w:k=0
  ·rw[if_pos w]at L;exact .inl ⟨w,L⟩
  rw[if_neg w]at L;exact .inr ⟨by omega,L⟩
 by_cases B:e=0
 ·right;refine⟨(τ1++[Obj.arr 1 0 [oH o]]).set (σ.length+2) (aB 1 (os.length+1) (os.map oH++[oH o])),o,A++P,G++R,?_,?_⟩
  ·subst B;have F:List.take os.length (os.map oH)=os.map oH:=ay (by simp);have y:os.length+1≤bC:=by unfold bC;omega
   have w1:IntKind.i64.wrap 1=1:=rfl;have w2:IntKind.i64.wrap 2=2:=rfl;rw[show oH o=aq.agg [sv (o.map (·.map EN.a))] from rfl];generalize sv (o.map (·.map EN.a))=X at *;rw[aZ];rcases H with⟨rfl,rfl⟩|⟨rfl,rfl⟩
   ·cases g<;>simp only[eu,iU]at c<;>simp[p7,d,K,c,f,u,append,F,y,w1,ff]
   cases g<;>simp only[eu,iU]at c<;>simp[p7,d,K,c,f,u,append,F,y,w2,ff]
  have N:n+11≤σ.length+2:=by omega
  refine⟨(v.app _).set _ _ N,s.set _ _ (by omega),q,(E B).1,?_,?_,?_,?_⟩
  ·rw[aD (by omega)];exact M _
  ·rw[aD (by omega)];exact O _
  ·rw[aU T];simp
  intro x D;rcases ba.1 D with D|D
  ·exact h.le x D
  rw[aP.1 D];exact J
 left;have C:∃env,bU code (σ.length+3) [9999,9,15,16,17,30,31,32] p7 ⟨lpE σ i g j t os.length l r k U,τ⟩=some (.ret,⟨env,(τ1++[Obj.arr 1 0 [oH o]]).set σ.length (aB 1 0 [oH o])⟩)∧env[8]?=some (aH σ.length 0 0 0)∧env[9]?=some (ap e):=by
  rw[show oH o=aq.agg [sv (o.map (·.map EN.a))] from rfl];generalize sv (o.map (·.map EN.a))=X at *;rcases H with⟨rfl,rfl⟩|⟨rfl,rfl⟩
  ·cases g<;>simp only[eu,iU]at c<;>(rw[aZ];exact⟨_,by simp[p7,d,K,c,f,M,B];rfl,rfl,rfl⟩)
  cases g<;>simp only[eu,iU]at c<;>(rw[aZ];exact⟨_,by simp[p7,d,K,c,f,M,B];rfl,rfl,rfl⟩)
 obtain⟨env,hr,e8,W⟩:=C;exact⟨o,e,env,(τ1++[Obj.arr 1 0 [oH o]]).set σ.length (aB 1 0 [oH o]),A++P,G++R,hr,B,e8,W,by rw[aU l8],J,(v.app _).set _ _ (by omega),s.set _ _ (by omega),q⟩
abbrev JJ(σ:aw)(i:Nat)(g:Bool)(j:Nat)(t:Int)(q:Nat)(y9 y15 y16 y17 y28 y29 y30 y31 y32:aq):List aq:=[ap i,aC g,aH (j+1) 0 0 0,aH (j+4) 0 0 0,aH j 0 0 0,aH (j+3) 0 0 0,aH (j+6) 0 0 0,aH (j+5) 0 0 0,aH σ.length 0 0 0,y9,aH (σ.length+1) 0 0 0,am,am,ap t,.sl (σ.length+2) q 0 q,y15,y16,y17,am,am,am,am,am,aC false,aC false,am,am,am,y28,y29,y30,y31,y32,am,am,am,am,am,am]
theorem SC{σ:aw}(i:Nat)(g:Bool)(j:Nat)(t:Int)(q:Nat)(l r:Int)(k:Nat)(o:k=2∨(k=0∧l=-1)∨(k=1∧r=-1))(n:aq)(τ:aw) :
  ∃m e a f h c b d,PL σ i g j t q l r k n τ=some (.ext 0,⟨JJ σ i g j t q n m e a f h c b d,τ⟩):=by
 unfold PL;rcases o with rfl|⟨rfl,rfl⟩|⟨rfl,rfl⟩
 ·rw[aZ];exact⟨am,am,am,aI [ap l,ap r],ap 2,aC false,am,am,by simp[p7]⟩
 ·rw[aZ];exact⟨ap (-1),am,am,aI [ap (-1),ap r],ap 0,aC true,aC true,am,by simp[p7]⟩
 rw[aZ];exact⟨ap (-1),am,am,aI [ap l,ap (-1)],ap 1,aC true,aC true,am,by simp[p7]⟩
def YB(n:Nat)(ns:List eP)(j i:Nat)(S:fJ):Prop:=∀(p:Nat),p<i→∀(g:Bool) (τ:aw) (A:List kP) (G:List Int),SA τ n { S with ah:=S.ah++A,groups:=S.groups++G }→ey τ n { S with ah:=S.ah++A,groups:=S.groups++G }→wc { S with ah:=S.ah++A,groups:=S.groups++G }→CL τ n ns j→IJ τ n { S with ah:=S.ah++A,groups:=S.groups++G } g (cC code I.qad (rW p g j) τ)
theorem ahU{σ:aw}{n:Nat}{S:fJ}{K:List eP}{j:Nat}{a:eP}{τ:aw}(g:Bool)(h:LS σ n S a g τ [] [] [])(Y:ey σ n S)(Q:n+11≤σ.length)(N:CL σ n K j)(i:Nat)(t:Int)(I:Em i a)(s:aq)(U:YB n K j i S) :
  Yf σ n S g (PL σ i g j t 0 a.l a.r 0 s τ)∨∃(u:aw) (os:List (Option (List EN))) (A:List kP) (G:List Int) (Z q m e c d l f b:aq),PL σ i g j t 0 a.l a.r 0 s τ=some (.ext 0,⟨JJ σ i g j t os.length Z q m e c d l f b,u⟩)∧LS σ n S a g u os A G∧(os.length:Int)=iG a.tag:=by
 have H:∀{τ:aw} {os:List (Option (List EN))} {A:List kP} {G:List Int} (h:LS σ n S a g τ os A G) (k:Nat) (O:k<2) (p:Nat) (r:p<i) (M:(if k=0 then a.l else a.r)=(p:Int)) (L:os.length≤2) (s:aq),
   Yf σ n S g (PL σ i g j t os.length a.l a.r k s τ)∨∃(u:aw) (o:Option (List EN)) (A':List kP) (X:List Int),PL σ i g j t os.length a.l a.r k s τ=PL σ i g j t (os.length+1) a.l a.r (k+1:Nat) am u∧LS σ n S a g u (os++[o]) A' X:=
  fun h k O p r M L s=>XX g h Q N i t a.l a.r k O p M L s (U p r _ _ _ _ h.sa (Y.fr h.fr rfl rfl rfl rfl) h.gk (N.fr h.fr))
 rcases I with⟨x,w,D⟩|⟨x,⟨p,w,r⟩,D⟩|⟨x,⟨p,w,r⟩,⟨V,D,y⟩⟩
 ·right;obtain⟨q,m,e,c,d,l,f,b,v⟩:=SC (σ:=σ) i g j t 0 a.l a.r 0 (.inr (.inl ⟨rfl,w⟩)) s τ;exact⟨τ,[],[],[],s,q,m,e,c,d,l,f,b,v,h,by rw[x];rfl⟩
 ·rcases H h 0 (by omega) p r w (by simp) s with B|⟨τ1,E,P,J,C,F⟩
  ·exact .inl B
  right;obtain⟨q,m,e,c,d,l,f,b,v⟩:=SC (σ:=σ) i g j t 1 a.l a.r 1 (.inr (.inr ⟨rfl,D⟩)) am τ1;exact⟨τ1,[E],P,J,am,q,m,e,c,d,l,f,b,Eq.trans C v,F,by rw[x];rfl⟩
 rcases H h 0 (by omega) p r w (by simp) s with B|⟨τ1,E,P,J,C,F⟩
 ·exact .inl B
 rcases H F 1 (by omega) V y D (by simp) am with B|⟨z,T,A2,W,R,h2⟩
 ·left;have:PL σ i g j t 0 a.l a.r 0 s τ=PL σ i g j t ([]++[E]).length a.l a.r (1:Nat) am τ1:=C;rw[this];exact B
 right;obtain⟨q,m,e,c,d,l,f,b,v⟩:=SC (σ:=σ) i g j t 2 a.l a.r 2 (.inl rfl) am z;exact⟨z,[E,T],A2,W,am,q,m,e,c,d,l,f,b,Eq.trans (Eq.trans C R) v,h2,by rw[x];rfl⟩
def Fu(σ:aw)(n:Nat)(S:fJ)(g:Bool)(r:Option (Ex×St)):Prop:=∃(o:Option (List EN)) (e:Int) (env:List aq) (τ:aw) (A:List kP) (G:List Int),r=some (.ret,⟨env,τ⟩)∧env[8]?=some (aH σ.length 0 0 0)∧env[9]?=some (ap e)∧τ[σ.length]?=some (aB 1 0 [oH o])∧(o.getD []).length≤1000∧SA τ n { S with ah:=S.ah++A,groups:=S.groups++G }∧Fr n σ τ∧(g=false→A=[]∧G=[])∧(e=0→wc { S with ah:=S.ah++A,groups:=S.groups++G }∧o.isSome=true)
theorem Z8{σ:aw}{n:Nat}{S:fJ}{j:Nat}{v:eP}{τ:aw}{os:List (Option (List EN))}{A:List kP}{G:List Int}(h:LS σ n S v false τ os A G)(r:n+11≤σ.length)(i:Nat)(t:Int)(s:0<t)(p g d a f k c b l:aq) :
  Fu σ n S false (run code bv ⟨JJ σ i false j t os.length p g d a f k c b l,τ⟩):=by
 have o:=h.b8;have u:=(ak.1 o).1;have m:∃env,run code bv ⟨JJ σ i false j t os.length p g d a f k c b l,τ⟩=some (.ret,⟨env,τ.set σ.length (aB 1 0 [aI [.ai]])⟩)∧env[8]?=some (aH σ.length 0 0 0)∧env[9]?=some (ap 224):=
  ⟨_,by simp[bv,dB,s,o];rfl,rfl,rfl⟩
 obtain⟨env,m,w,q⟩:=m;exact⟨none,224,env,_,A,G,m,w,q,by rw[aU u];rfl,by simp,h.sa.set _ _ r,h.fr.set _ _ (aF _),h.nog,fun e=>by cases e⟩
theorem ah5{σ:aw}{n:Nat}{S:fJ}{ns:List eP}{j:Nat}{nd:eP}{τ:aw}{os:List (Option (List EN))}{A:List kP}{G:List Int}(h:LS σ n S nd true τ os A G)(hM:ey σ n S)(hk:S.ac.length≤8000)(W:n+11≤σ.length)(Y:CL σ n ns j)(i:Nat)(t:Int)(ht:1≤t∧t≤5)(X:os.length≤1)(T:t=1→os=[])(E l k f c d q g u:aq) :
  Fu σ n S true (run code bv ⟨JJ σ i true j t os.length E l k f c d q g u,τ⟩):=by
 have b8:=fq h.b8;have b:=fq h.b14;have H:=fq (Y.fr h.fr).b3;have w:0<t:=by omega
 have R:(os.headD none).getD []=[]∨(os.headD none).getD []∈os.map (·.getD []):=by
  cases os with
  |nil=>left;rfl
  |cons o r=>right;simp
 have O:(kP.mk t (os.headD none)).es.length≤1000:=by
  rcases R with L|L
  ·show ((os.headD none).getD []).length≤1000;rw[L];simp
  obtain⟨o,ho,B⟩:=bK.1 L;show ((os.headD none).getD []).length≤1000;rw[←B];exact h.le o ho
 obtain⟨x,e,τ1,A1,G1,a,z,F,D⟩:=YY (h.sa.app [aB 2 0 [(kP.mk t (os.headD none)).a]]) ((hM.fr h.fr rfl rfl rfl rfl:ey τ n { S with ah:=S.ah++A,groups:=S.groups++G }).app _) h.gk (kP.mk t (os.headD none)) O ht (fun e=>by rw[show os=[] from T e];rfl) hk;have J:(kP.mk t (os.headD none)).a=aI [ap t,sv ((os.headD none).map (·.map EN.a))]:=rfl;rw[J]at a F;simp only[dG]at z D;have p:Fr n τ τ1:=(Fr.app _ _ _).trans F;have m:Fr n σ τ1:=h.fr.trans p;have f8:=fq (p.kp _ _ (.inr (by omega)) h.b8);have s:=p.kp _ _ (.inr (by omega)) h.b8;have f9:=(Y.fr m).b9;have l8:=(ak.1 s).1;have v:=vq ((os.headD none).map (·.map EN.a));have Q:∀(P:Option (Ex×St)→Prop),P (run code bv ⟨JJ σ i true j t os.length E l k f c d q g u,τ⟩)→P (run code bv ⟨JJ σ i true j t os.length E l k f c d q g u,τ⟩):=fun _ h=>h;by_cases B:e=0
 ·subst B;obtain⟨es,Z,N,U,_⟩:=ML ⟨2,0,0,x,zE⟩;have K:(⟨2,0,0,x,zE⟩:EN).a=aI [ap 2,ap 0,ap 0,ap x,ap 0,ap 0,.int .u64 0,aO []]:=rfl;rw[K]at N;have y:∃env,run code bv ⟨JJ σ i true j t os.length E l k f c d q g u,τ⟩=some (.ret,⟨env,τ1.set σ.length (aB 1 0 [jq es])⟩)∧env[8]?=some (aH σ.length 0 0 0)∧env[9]?=some (ap Z):=by
   rcases os with _|⟨V,_|⟨o2,r⟩⟩
   ·simp only[List.headD_nil,Option.map_none,sv]at a;simp only[bm,bD]at b;exact⟨_,by simp[bv,dB,w,H,b,a,f9,s,N];rfl,rfl,rfl⟩
   ·simp only[List.headD_cons]at a v;simp only[aV,bm,oH,bA,bD]at b;generalize sv (V.map (·.map EN.a))=ov at *;exact⟨_,by simp[bv,dB,w,H,b,a,v,f9,s,N];rfl,rfl,rfl⟩
   simp at X
  obtain⟨env,y,M,I⟩:=y;exact⟨some es,Z,env,_,A++A1,G++G1,y,M,I,by rw[aU l8];rfl,U,z.set _ _ W,m.set _ _ (aF _),(fun C=>by cases C),fun _=>⟨D rfl,rfl⟩⟩
 have y:∃env,run code bv ⟨JJ σ i true j t os.length E l k f c d q g u,τ⟩=some (.ret,⟨env,τ1.set σ.length (aB 1 0 [aI [.ai]])⟩)∧env[8]?=some (aH σ.length 0 0 0)∧env[9]?=some (ap e):=by
  rcases os with _|⟨V,_|⟨o2,r⟩⟩
  ·simp only[List.headD_nil,Option.map_none,sv]at a;simp only[bm,bD]at b;exact⟨_,by simp[bv,dB,w,H,b,a,s,B];rfl,rfl,rfl⟩
  ·simp only[List.headD_cons]at a v;simp only[aV,bm,oH,bA,bD]at b;generalize sv (V.map (·.map EN.a))=ov at *;exact⟨_,by simp[bv,dB,w,H,b,a,v,s,B];rfl,rfl,rfl⟩
  simp at X
 obtain⟨env,y,M,I⟩:=y;exact⟨none,e,env,_,A++A1,G++G1,y,M,I,by rw[aU l8];rfl,by simp,z.set _ _ W,m.set _ _ (aF _),(fun C=>by cases C),fun C=>absurd C B⟩
theorem Wh{σ:aw}{n:Nat}{S:fJ}{ns:List eP}{j:Nat}{f:eP}{τ:aw}(z:Option (List EN)){A:List kP}{G:List Int}(g:Bool)(h:LS σ n S f g τ [z] A G)(hk:S.ac.length≤8000)(hn:n+11≤σ.length)(hc:CL σ n ns j)(i:Nat)(V s r o k l u p v:aq) :
  Fu σ n S g (run code bv ⟨JJ σ i g j 0 1 V s r o k l u p v,τ⟩):=by
 have W:=fq h.b8;have y:=fq h.b10;have b:=h.b10;have w:=fq h.b14;have c:=h.b14;have Y:=fq (hc.fr h.fr).b10;have T:=h.le z (by simp);have ab:f.a=aI [ap f.tag,ap f.l,ap f.r,ap f.v.k,ap f.v.n,.int .u64 f.v.u,aO f.v.s,aO f.table,aO f.name]:=rfl;rw[ab]at y b;obtain⟨a,F,Z,l1,_⟩:=agI f.tag (z.getD []) T;have q:∀base σ m,fz true false base σ (m+4) (sv (z.map (·.map EN.a)))=.aa false ((z.getD []).map EN.a):=fun base σ m=>by cases z<;>simp[sv]
 have t:=vq (z.map (·.map EN.a));have ad:S.groups.length+G.length≤8000:=by
  have:=h.gk.gr;have a1:=h.gk.kl;have a2:=h.gk.al;have a3:({ S with ah:=S.ah++A,groups:=S.groups++G }:fJ).groups.length=S.groups.length+G.length:=by simp
  rw[←a3,this];simp at a1 a2 ⊢;omega
 simp only[aV,bm,oH,bA,bD]at w c;have M:=fun N (kk:List Int) (ae:kk.length≤8000)=>pH false a N kk (by unfold bC;omega) (by unfold bC;omega);have Q:∀(e:Int) (d:aw),d[σ.length]?=some (aB 1 0 [jq a])→SA d n { S with ah:=S.ah++A,groups:=S.groups++G }→Fr n σ d→∀env:List aq,env[8]?=some (aH σ.length 0 0 0)→env[9]?=some (ap e)→run code bv ⟨JJ σ i g j 0 1 V s r o k l u p v,τ⟩=some (.ret,⟨env,d⟩)→Fu σ n S g (run code bv ⟨JJ σ i g j 0 1 V s r o k l u p v,τ⟩):=
  fun e d hb hs hf env O J x=>⟨some a,e,env,d,A,G,x,O,J,hb,l1,hs,hf,h.nog,fun _=>⟨h.gk,rfl⟩⟩
 have aj:σ.length<(τ++[Obj.arr 1 0 [jq a]]).length:=(ak.1 (W [Obj.arr 1 0 [jq a]])).1;have P:((τ++[Obj.arr 1 0 [jq a]]).set σ.length (aB 1 0 [jq a]))[σ.length]?=some (aB 1 0 [jq a]):=by rw[aU aj]
 have L:SA ((τ++[Obj.arr 1 0 [jq a]]).set σ.length (aB 1 0 [jq a])) n { S with ah:=S.ah++A,groups:=S.groups++G }:=(h.sa.app _).set _ _ hn;have R:Fr n σ ((τ++[Obj.arr 1 0 [jq a]]).set σ.length (aB 1 0 [jq a])):=(h.fr.trans (Fr.app _ _ _)).set _ _ (aF _);obtain⟨B,E⟩:∃B,B=S.groups++G:=⟨_,rfl⟩;have D:∀X,cC code I.qac [aC g,aH j 0 0 0] (τ++X)=some (if g then kF (n+10) B.length else kF (n+9) S.ac.length,τ++X):=fun X=>by
  rw[E];exact By (h.sa.app X) ((hc.fr h.fr).fr (Fr.app n τ X)) g
 have a9:∀X,(τ++X)[n+9]?=some (aB 1 S.ac.length (eA S.ac)):=h.sa.at9;have C:∀X,(τ++X)[n+10]?=some (aB 1 B.length (eA B)):=by rw[E];exact h.sa.at10
 have U:B.length≤8000:=by rw[E];simpa using ad
 by_cases he:F=0
 ·subst he;have x:∃(env:List aq) (e:Int),run code bv ⟨JJ σ i g j 0 1 V s r o k l u p v,τ⟩=some (.ret,⟨env,(τ++[Obj.arr 1 0 [jq a]]).set σ.length (aB 1 0 [jq a])⟩)∧env[8]?=some (aH σ.length 0 0 0)∧env[9]?=some (ap e):=by
   generalize sv (z.map (·.map EN.a))=ov at *;cases g with
   |false=>
    have H:=fun N=>M N S.ac hk;generalize eI a S.ac=K at *;exact⟨_,K.2,by simp[bv,fE,fI,fp,fu,fj,dB,fH,fF,fw,fh,y,b,w,c,Y,W,Z,q,t,D,a9,C,H];rfl,rfl,rfl⟩
   |true=>
    have H:=fun N=>M N B U;generalize eI a B=K at *;exact⟨_,K.2,by simp[bv,fE,fI,fp,fu,fj,dB,fH,fF,fw,fh,y,b,w,c,Y,W,Z,q,t,D,a9,C,H];rfl,rfl,rfl⟩
  obtain⟨env,e,x,O,J⟩:=x;exact Q e _ P L R env O J x
 have x:∃(env:List aq),run code bv ⟨JJ σ i g j 0 1 V s r o k l u p v,τ⟩=some (.ret,⟨env,(τ++[Obj.arr 1 0 [jq a]]).set σ.length (aB 1 0 [jq a])⟩)∧env[8]?=some (aH σ.length 0 0 0)∧env[9]?=some (ap F):=by
  generalize sv (z.map (·.map EN.a))=ov at *;exact⟨_,by simp[bv,fE,fI,fp,fu,fj,dB,fH,fF,fw,fh,y,b,w,c,Y,W,Z,q,t,D,a9,C,he];rfl,rfl,rfl⟩
 obtain⟨env,x,O,J⟩:=x;exact Q F _ P L R env O J x
theorem VC{σ:aw}{n:Nat}{S:fJ}{ns:List eP}{j:Nat}{f:eP}{τ:aw}(y z:Option (List EN)){A:List kP}{G:List Int}(g:Bool)(h:LS σ n S f g τ [y,z] A G)(hk:S.ac.length≤8000)(hn:n+11≤σ.length)(hc:CL σ n ns j)(i:Nat)(y9 s r o k l w p x:aq) :
  Fu σ n S g (run code bv ⟨JJ σ i g j 0 2 y9 s r o k l w p x,τ⟩):=by
 have b8:=fq h.b8;have D:=fq h.b10;have b:=h.b10;have B:=fq h.b14;have c:=h.b14;have b7:=fq (hc.fr h.fr).b10;have F:=h.le y (by simp);have Z:=h.le z (by simp);have ad:f.a=aI [ap f.tag,ap f.l,ap f.r,ap f.v.k,ap f.v.n,.int .u64 f.v.u,aO f.v.s,aO f.table,aO f.name]:=rfl;rw[ad]at D b;obtain⟨ag,al,h1,l1,_⟩:=agI f.tag (y.getD []) F;obtain⟨a,M,h2,l2,_⟩:=amo f.tag (y.getD []) (z.getD []) F Z;have q:∀base σ m,fz true false base σ (m+4) (sv (y.map (·.map EN.a)))=.aa false ((y.getD []).map EN.a):=fun base σ m=>by cases y<;>simp[sv]
 have t:=vq (y.map (·.map EN.a));have u:∀base σ m,fz true false base σ (m+4) (sv (z.map (·.map EN.a)))=.aa false ((z.getD []).map EN.a):=fun base σ m=>by cases z<;>simp[sv]
 have v:=vq (z.map (·.map EN.a));have ae:S.groups.length+G.length≤8000:=by
  have:=h.gk.gr;have a1:=h.gk.kl;have a2:=h.gk.al;have a3:({ S with ah:=S.ah++A,groups:=S.groups++G }:fJ).groups.length=S.groups.length+G.length:=by simp
  rw[←a3,this];simp at a1 a2 ⊢;omega
 simp only[aV,bm,oH,bA,bD]at B c;have Q:=fun R (kk:List Int) (af:kk.length≤8000)=>pH false a R kk (by unfold bC;omega) (by unfold bC;omega);have V:∀(e:Int) (d:aw),d[σ.length]?=some (aB 1 0 [jq a])→SA d n { S with ah:=S.ah++A,groups:=S.groups++G }→Fr n σ d→∀env:List aq,env[8]?=some (aH σ.length 0 0 0)→env[9]?=some (ap e)→run code bv ⟨JJ σ i g j 0 2 y9 s r o k l w p x,τ⟩=some (.ret,⟨env,d⟩)→Fu σ n S g (run code bv ⟨JJ σ i g j 0 2 y9 s r o k l w p x,τ⟩):=
  fun e d hb hs hf env T O C=>⟨some a,e,env,d,A,G,C,T,O,hb,l2,hs,hf,h.nog,fun _=>⟨h.gk,rfl⟩⟩
 have aj:σ.length<(τ++[Obj.arr 1 0 [jq a]]).length:=(ak.1 (b8 [Obj.arr 1 0 [jq a]])).1;have U:((τ++[Obj.arr 1 0 [jq a]]).set σ.length (aB 1 0 [jq a]))[σ.length]?=some (aB 1 0 [jq a]):=by rw[aU aj]
 have P:SA ((τ++[Obj.arr 1 0 [jq a]]).set σ.length (aB 1 0 [jq a])) n { S with ah:=S.ah++A,groups:=S.groups++G }:=(h.sa.app _).set _ _ hn;have W:Fr n σ ((τ++[Obj.arr 1 0 [jq a]]).set σ.length (aB 1 0 [jq a])):=(h.fr.trans (Fr.app _ _ _)).set _ _ (aF _);obtain⟨E,L⟩:∃E,E=S.groups++G:=⟨_,rfl⟩;have J:∀X,cC code I.qac [aC g,aH j 0 0 0] (τ++X)=some (if g then kF (n+10) E.length else kF (n+9) S.ac.length,τ++X):=fun X=>by
  rw[L];exact By (h.sa.app X) ((hc.fr h.fr).fr (Fr.app n τ X)) g
 have a9:∀X,(τ++X)[n+9]?=some (aB 1 S.ac.length (eA S.ac)):=h.sa.at9;have H:∀X,(τ++X)[n+10]?=some (aB 1 E.length (eA E)):=by rw[L];exact h.sa.at10
 have Y:E.length≤8000:=by rw[L];simpa using ae
 by_cases he:M=0
 ·subst he;have C:∃(env:List aq) (e:Int),run code bv ⟨JJ σ i g j 0 2 y9 s r o k l w p x,τ⟩=some (.ret,⟨env,(τ++[Obj.arr 1 0 [jq a]]).set σ.length (aB 1 0 [jq a])⟩)∧env[8]?=some (aH σ.length 0 0 0)∧env[9]?=some (ap e):=by
   generalize sv (y.map (·.map EN.a))=ov at *;generalize sv (z.map (·.map EN.a))=ab at *;cases g with
   |false=>
    have N:=fun R=>Q R S.ac hk;generalize eI a S.ac=K at *;exact⟨_,K.2,by simp[bv,fE,fI,fp,fu,fj,dB,fH,fF,fw,fh,D,b,B,c,b7,b8,h1,h2,u,v,q,t,J,a9,H,N];rfl,rfl,rfl⟩
   |true=>
    have N:=fun R=>Q R E Y;generalize eI a E=K at *;exact⟨_,K.2,by simp[bv,fE,fI,fp,fu,fj,dB,fH,fF,fw,fh,D,b,B,c,b7,b8,h1,h2,u,v,q,t,J,a9,H,N];rfl,rfl,rfl⟩
  obtain⟨env,e,C,T,O⟩:=C;exact V e _ U P W env T O C
 have C:∃(env:List aq),run code bv ⟨JJ σ i g j 0 2 y9 s r o k l w p x,τ⟩=some (.ret,⟨env,(τ++[Obj.arr 1 0 [jq a]]).set σ.length (aB 1 0 [jq a])⟩)∧env[8]?=some (aH σ.length 0 0 0)∧env[9]?=some (ap M):=by
  generalize sv (y.map (·.map EN.a))=ov at *;generalize sv (z.map (·.map EN.a))=ab at *;exact⟨_,by simp[bv,fE,fI,fp,fu,fj,dB,fH,fF,fw,fh,D,b,B,c,b7,b8,h1,h2,u,v,q,t,J,a9,H,he];rfl,rfl,rfl⟩
 obtain⟨env,C,T,O⟩:=C;exact V M _ U P W env T O C
abbrev Js(nd:eP):aw:=[aB 1 0 [aI [.ai]],aB 9 0 [nd.a]]
theorem acX{σ:aw}{n:Nat}{s:List eP}{j:Nat}(r:CL σ n s j)(i:Nat)(a:eP)(g:Bool):run code ei ⟨[ap i,aC g,aH (j+1) 0 0 0,aH (j+4) 0 0 0,aH j 0 0 0,aH (j+3) 0 0 0,aH (j+6) 0 0 0,aH (j+5) 0 0 0,aH σ.length 0 0 0,ap 0,aH (σ.length+1) 0 0 0,am,am,am,am,am,am,am,am,am,am,am,am,aC false,aC false,am,am,am,am,am,am,am,am,am,am,am,am,am,am],σ++Js a⟩=some (.nrm,⟨[ap i,aC g,aH (j+1) 0 0 0,aH (j+4) 0 0 0,aH j 0 0 0,aH (j+3) 0 0 0,aH (j+6) 0 0 0,aH (j+5) 0 0 0,aH σ.length 0 0 0,ap 0,aH (σ.length+1) 0 0 0,am,am,ap (pW a.tag),am,am,am,am,am,am,am,am,am,aC false,aC false,am,am,am,am,am,am,am,am,am,am,am,am,am,am],σ++Js a⟩):=by
 have e:=fq r.b8;have o:a.a=aI [ap a.tag,ap a.l,ap a.r,ap a.v.k,ap a.v.n,.int .u64 a.v.u,aO a.v.s,aO a.table,aO a.name]:=rfl;unfold pW;simp only[Js,o];generalize a.tag=b;by_cases m:b=3
 ·subst m;simp[ei,e,lookup,qH]
 by_cases l:b=8
 ·subst l;simp[ei,e,lookup,qH]
 by_cases f:b=9
 ·subst f;simp[ei,e,lookup,qH]
 by_cases c:b=10
 ·subst c;simp[ei,e,lookup,qH]
 by_cases d:b=11
 ·subst d;simp[ei,e,lookup,qH]
 have q:((3:Int)==b)=false:=by simp;omega
 have t:((8:Int)==b)=false:=by simp;omega
 have p:((9:Int)==b)=false:=by simp;omega
 have h:((10:Int)==b)=false:=by simp;omega
 have k:((11:Int)==b)=false:=by simp;omega
 simp[ei,e,lookup,qH,m,l,f,c,d,q,t,p,h,k,Ne.symm m,Ne.symm l,Ne.symm f,Ne.symm c,Ne.symm d]
theorem Yn{σ:aw}{n:Nat}{c:List eP}{j:Nat}(k:CL σ n c j)(i:Nat)(a:eP)(hi:c[i]?=some a)(g:Bool)(w:a.tag≠1)(y:a.tag≠2) :
  run code CG ⟨[ap i,aC g,aH (j+1) 0 0 0,aH (j+4) 0 0 0,aH j 0 0 0,aH (j+3) 0 0 0,aH (j+6) 0 0 0,aH (j+5) 0 0 0,am,am,am,am,am,am,am,am,am,am,am,am,am,am,am,am,am,am,am,am,am,am,am,am,am,am,am,am,am,am,am],σ⟩=td bv (rT 0 (PL σ i g j (pW a.tag) 0 a.l a.r 0 am (σ++Js a++[aB 1 0 []]))):=by
 have r:=fq k.b4;have f:i<c.length:=(ak.1 hi).1;have e:(i:Int)<(c.length:Int):=by omega
 have d:∀h:i<c.length,c[i]'h=a:=fun h=>(ak.1 hi).2;have b:a.a=aI [ap a.tag,ap a.l,ap a.r,ap a.v.k,ap a.v.n,.int .u64 a.v.u,aO a.v.s,aO a.table,aO a.name]:=rfl;have s:run code lB ⟨[ap i,aC g,aH (j+1) 0 0 0,aH (j+4) 0 0 0,aH j 0 0 0,aH (j+3) 0 0 0,aH (j+6) 0 0 0,aH (j+5) 0 0 0,am,am,am,am,am,am,am,am,am,am,am,am,am,am,am,am,am,am,am,am,am,am,am,am,am,am,am,am,am,am,am],σ⟩=some (.nrm,⟨[ap i,aC g,aH (j+1) 0 0 0,aH (j+4) 0 0 0,aH j 0 0 0,aH (j+3) 0 0 0,aH (j+6) 0 0 0,aH (j+5) 0 0 0,aH σ.length 0 0 0,ap 0,am,am,am,am,am,am,am,am,am,am,am,am,am,am,am,am,am,am,am,am,am,am,am,am,am,am,am,am,am],σ++[aB 1 0 [aI [.ai]]]⟩):=by
  simp[lB]
 have o:run code iW ⟨[ap i,aC g,aH (j+1) 0 0 0,aH (j+4) 0 0 0,aH j 0 0 0,aH (j+3) 0 0 0,aH (j+6) 0 0 0,aH (j+5) 0 0 0,aH σ.length 0 0 0,ap 0,am,am,am,am,am,am,am,am,am,am,am,am,am,am,am,am,am,am,am,am,am,am,am,am,am,am,am,am,am],σ++[aB 1 0 [aI [.ai]]]⟩=some (.nrm,⟨[ap i,aC g,aH (j+1) 0 0 0,aH (j+4) 0 0 0,aH j 0 0 0,aH (j+3) 0 0 0,aH (j+6) 0 0 0,aH (j+5) 0 0 0,aH σ.length 0 0 0,ap 0,aH (σ.length+1) 0 0 0,am,am,am,am,am,am,am,am,am,am,am,am,am,am,am,am,am,am,am,am,am,am,am,am,am,am,am,am],σ++Js a⟩):=by
  simp only[Js,b];simp[iW,r,hi,f,e,d,b]
 have t:run code (.seq gK (.seq gM gH)) ⟨[ap i,aC g,aH (j+1) 0 0 0,aH (j+4) 0 0 0,aH j 0 0 0,aH (j+3) 0 0 0,aH (j+6) 0 0 0,aH (j+5) 0 0 0,aH σ.length 0 0 0,ap 0,aH (σ.length+1) 0 0 0,am,am,am,am,am,am,am,am,am,am,am,am,am,am,am,am,am,am,am,am,am,am,am,am,am,am,am,am],σ++Js a⟩=run code gH ⟨[ap i,aC g,aH (j+1) 0 0 0,aH (j+4) 0 0 0,aH j 0 0 0,aH (j+3) 0 0 0,aH (j+6) 0 0 0,aH (j+5) 0 0 0,aH σ.length 0 0 0,ap 0,aH (σ.length+1) 0 0 0,am,am,am,am,am,am,am,am,am,am,am,am,aC false,aC false,am,am,am,am,am,am,am,am,am,am,am,am,am,am],σ++Js a⟩:=by
  have l:run code gK ⟨[ap i,aC g,aH (j+1) 0 0 0,aH (j+4) 0 0 0,aH j 0 0 0,aH (j+3) 0 0 0,aH (j+6) 0 0 0,aH (j+5) 0 0 0,aH σ.length 0 0 0,ap 0,aH (σ.length+1) 0 0 0,am,am,am,am,am,am,am,am,am,am,am,am,am,am,am,am,am,am,am,am,am,am,am,am,am,am,am,am],σ++Js a⟩=some (.nrm,⟨([ap i,aC g,aH (j+1) 0 0 0,aH (j+4) 0 0 0,aH j 0 0 0,aH (j+3) 0 0 0,aH (j+6) 0 0 0,aH (j+5) 0 0 0,aH σ.length 0 0 0,ap 0,aH (σ.length+1) 0 0 0,am,am,am,am,am,am,am,am,am,am,am,am,am,am,am,am,am,am,am,am,am,am,am,am,am,am,am,am]:List aq).set 23 (aC false),σ++Js a⟩):=by
   simp only[Js,b];simp[gK,w]
  have q:run code gM ⟨([ap i,aC g,aH (j+1) 0 0 0,aH (j+4) 0 0 0,aH j 0 0 0,aH (j+3) 0 0 0,aH (j+6) 0 0 0,aH (j+5) 0 0 0,aH σ.length 0 0 0,ap 0,aH (σ.length+1) 0 0 0,am,am,am,am,am,am,am,am,am,am,am,am,am,am,am,am,am,am,am,am,am,am,am,am,am,am,am,am]:List aq).set 23 (aC false),σ++Js a⟩=some (.nrm,⟨[ap i,aC g,aH (j+1) 0 0 0,aH (j+4) 0 0 0,aH j 0 0 0,aH (j+3) 0 0 0,aH (j+6) 0 0 0,aH (j+5) 0 0 0,aH σ.length 0 0 0,ap 0,aH (σ.length+1) 0 0 0,am,am,am,am,am,am,am,am,am,am,am,am,aC false,aC false,am,am,am,am,am,am,am,am,am,am,am,am,am,am],σ++Js a⟩):=by
   simp only[Js,b];simp[gM,y]
  rw[fA,l,bW,fA,q,bW]
 have m:lP=.seq gK (.seq gM gH):=rfl;have u:gH=.seq ei (.seq je (.seq jh bv)):=rfl;have v:pV=.seq iW lP:=rfl;have p:run code je ⟨[ap i,aC g,aH (j+1) 0 0 0,aH (j+4) 0 0 0,aH j 0 0 0,aH (j+3) 0 0 0,aH (j+6) 0 0 0,aH (j+5) 0 0 0,aH σ.length 0 0 0,ap 0,aH (σ.length+1) 0 0 0,am,am,ap (pW a.tag),am,am,am,am,am,am,am,am,am,aC false,aC false,am,am,am,am,am,am,am,am,am,am,am,am,am,am],σ++Js a⟩=some (.nrm,⟨[ap i,aC g,aH (j+1) 0 0 0,aH (j+4) 0 0 0,aH j 0 0 0,aH (j+3) 0 0 0,aH (j+6) 0 0 0,aH (j+5) 0 0 0,aH σ.length 0 0 0,ap 0,aH (σ.length+1) 0 0 0,am,am,ap (pW a.tag),.sl (σ.length+2) 0 0 0,am,am,am,am,am,am,am,am,aC false,aC false,am,am,am,am,am,am,am,am,am,am,am,am,am,am],σ++Js a++[aB 1 0 []]⟩):=by
  simp[je]
 have x:run code jh ⟨[ap i,aC g,aH (j+1) 0 0 0,aH (j+4) 0 0 0,aH j 0 0 0,aH (j+3) 0 0 0,aH (j+6) 0 0 0,aH (j+5) 0 0 0,aH σ.length 0 0 0,ap 0,aH (σ.length+1) 0 0 0,am,am,ap (pW a.tag),.sl (σ.length+2) 0 0 0,am,am,am,am,am,am,am,am,aC false,aC false,am,am,am,am,am,am,am,am,am,am,am,am,am,am],σ++Js a++[aB 1 0 []]⟩=rT 0 (PL σ i g j (pW a.tag) 0 a.l a.r 0 am (σ++Js a++[aB 1 0 []])):=by
  unfold PL;simp only[Js,b];simp[jh]
 rw[AG,fA,s,bW,v,fA,o,bW,m,t,u,fA,acX k,bW,fA,p,bW,fA,x]
theorem Tz{σ:aw}{n:Nat}{S:fJ}{g:Bool}{r:Option (Ex×St)}(h:Fu σ n S g r):IJ σ n S g (wI arx.res r):=by
 obtain⟨o,e,env,τ,A,G,rfl,k,d,c,l,j,i,b,f⟩:=h;refine⟨o,e,τ,A,G,?_,l,j,i,b,f⟩;have a:=vq (o.map (·.map EN.a));simp only[oH]at c;generalize sv (o.map (·.map EN.a))=m at *;simp[arx,k,d,c,a]
theorem aao{σ:aw}{n:Nat}{S:fJ}{H:List eP}{j:Nat}(h:SA σ n S)(x:ey σ n S)(r:wc S)(f:CL σ n H j)(L:S.ac.length≤8000)(m:n+11≤σ.length)(i:Nat)(a:eP)(hi:H[i]?=some a)(p:Em i a)(g:Bool)(Z:YB n H j i S):IJ σ n S g (cC code I.qad (rW i g j) σ):=by
 by_cases N:a.tag=1
 ·exact Xg h r f i a hi g N
 by_cases O:a.tag=2
 ·exact VF h x r f i a hi g O
 rw[cz aaK rfl];have hE:arx.body=CG:=rfl;have C:(rW i g j).take arx.np++List.replicate (arx.nenv-arx.np) aq.any=[ap i,aC g,aH (j+1) 0 0 0,aH (j+4) 0 0 0,aH j 0 0 0,aH (j+3) 0 0 0,aH (j+6) 0 0 0,aH (j+5) 0 0 0,am,am,am,am,am,am,am,am,am,am,am,am,am,am,am,am,am,am,am,am,am,am,am,am,am,am,am,am,am,am,am]:=rfl;rw[hE,C,Yn f i a hi g N O];have Q:LS σ n S a g (σ++Js a++[aB 1 0 []]) [] [] []:=by
  refine⟨by simpa using (h.app (Js a)).app [aB 1 0 []],(Fr.app _ _ _).trans (Fr.app _ _ _),fun _=>⟨rfl,rfl⟩,by simpa using r,by simp,by simp,by simp,by simp⟩
 rcases ahU g Q x m f i (pW a.tag) p am Z with hR|⟨t,os,A,G,z9,E,D,y,s,v,J,z,M,F,b,c⟩
 ·obtain⟨o,e,env,τ,A,G,V,U,X,P,hb,Y,W,hf,w⟩:=hR;refine Tz ⟨o,e,env,τ,A,G,?_,X,P,hb,Y,W,hf,w,fun d=>absurd d U⟩;rw[V];rfl
 apply Tz;rw[F];show Fu σ n S g (run code bv ⟨JJ σ i g j (pW a.tag) os.length z9 E D y s v J z M,t⟩);have T:=P8 a.tag;by_cases B:0<pW a.tag
 ·cases g with
  |false=>exact Z8 b m i _ B _ _ _ _ _ _ _ _ _
  |true=>
   refine ah5 b x L m f i _ ⟨by omega,by omega⟩ ?_ ?_ _ _ _ _ _ _ _ _ _
   ·rcases HC B with⟨_,l⟩|⟨_,l⟩<;>rw[l]at c<;>omega
   intro e1;rcases HC B with⟨_,l⟩|⟨h4,l⟩
   ·rw[l]at c;exact cS.1 (by omega)
   omega
 have k:pW a.tag=0:=by omega
 rw[k];have q:iG a.tag=1∨iG a.tag=2:=by
  have l:a.tag≠3:=by intro e;rw[e]at k;cases k
  rcases p with⟨d,_⟩|⟨d,_⟩|⟨d,_⟩
  ·exfalso;unfold iG at d;split at d
   ·omega
   split at d
   ·omega
   split at d<;>omega
  ·exact .inl d
  exact .inr d
 rcases q with u|u
 ·rw[u]at c;obtain⟨K,rfl⟩:=kG.1 (show os.length=1 by omega);exact Wh K g b L m f i _ _ _ _ _ _ _ _ _
 rw[u]at c
 match os,c,b with
 |[K,R],_,b=>exact VC K R g b L m f i _ _ _ _ _ _ _ _ _
 |[],c,_=>simp at c
 |[_],c,_=>simp at c
 |_::_::_::_,c,_=>simp at c;omega
theorem V2{n:Nat}{c:List eP}{j:Nat}(r:mv c):∀(i:Nat),i<c.length→∀(g:Bool) (σ:aw) (S:fJ),SA σ n S→ey σ n S→wc S→CL σ n c j→S.ac.length≤8000→IJ σ n S g (cC code I.qad (rW i g j) σ):=by
 intro i;induction i using Nat.strongRecOn with
 |_ i o=>
  intro hi g σ S h l q b k;have m:n+11≤σ.length:=by
   have:=(ak.1 b.b3).1;have:=b.ge;omega
  have a:=au hi;refine aao h l q b k m i _ a (r.node i _ a) g ?_;intro p t s τ A G u e d f;exact o p t (by omega) s τ _ u e d f k
theorem CX:Uc=.seq mT rh:=rfl
theorem SA.len{σ:aw}{n:Nat}{S:fJ}(h:SA σ n S):n+11≤σ.length:=by
 obtain⟨P,J,rfl,rfl⟩:=h;simp
def ana(σ:aw)(n:Nat)(S:fJ)(g:Bool)(r:Option (aq×aw)):Prop:=
 ∃(o:Option (List EN)) (k e:Int) (σ':aw) (A:List kP) (G:List Int),r=some (fy [oH o,ap k,ap e],σ')∧(o.getD []).length≤1000∧SA σ' n { S with ah:=S.ah++A,groups:=S.groups++G }∧Fr n σ σ'∧(g=false→A=[]∧G=[])∧(e=0→wc { S with ah:=S.ah++A,groups:=S.groups++G }∧o.isSome=true∧eI (o.getD []) (if g then S.groups++G else S.ac)=(k,0))
abbrev bnX(σ:aw)(n:Nat)(ns:List eP):aw:=[aB 1 0 [aH (n+3) 0 0 0],aB 1 0 [aI [.aa false (ns.map eP.a)]],aB 1 0 [aI [.ai]],aB 1 0 [Hm],aB 1 0 [.fn 100 [] []],aB 1 0 [.fn 103 [] [aH σ.length 0 0 0]],aB 1 0 [.fn 82 [] [aH (σ.length+1) 0 0 0,aH (σ.length+4) 0 0 0,aH σ.length 0 0 0,aH (σ.length+3) 0 0 0,aH (σ.length+6) 0 0 0,aH (σ.length+5) 0 0 0]]]
abbrev bnE(σ:aw)(n:Nat)(ns:List eP)(g:Bool)(e12 e13 e14 e15:aq):List aq:=[aH (n+3) 0 0 0,aI [.aa false (ns.map eP.a)],aC g,aH σ.length 0 0 0,aH (σ.length+1) 0 0 0,aH (σ.length+2) 0 0 0,i0,i0,aH (σ.length+3) 0 0 0,aH (σ.length+4) 0 0 0,aH (σ.length+5) 0 0 0,aH (σ.length+6) 0 0 0,e12,e13,e14,e15]
theorem VG(σ:aw)(n:Nat)(a:List eP)(g:Bool):run code Uc ⟨[aH (n+3) 0 0 0,aI [.aa false (a.map eP.a)],aC g,am,am,am,am,am,am,am,am,am,am,am,am,am],σ⟩=run code kx ⟨bnE σ n a g am am am am,σ++bnX σ n a⟩:=by
 have b:=aaw;have c:run code mT ⟨[aH (n+3) 0 0 0,aI [.aa false (a.map eP.a)],aC g,am,am,am,am,am,am,am,am,am,am,am,am,am],σ⟩=some (.nrm,⟨[aH (n+3) 0 0 0,aI [.aa false (a.map eP.a)],aC g,aH σ.length 0 0 0,aH (σ.length+1) 0 0 0,aH (σ.length+2) 0 0 0,i0,i0,am,am,am,am,am,am,am,am],σ++[aB 1 0 [aH (n+3) 0 0 0],aB 1 0 [aI [.aa false (a.map eP.a)]],aB 1 0 [aI [.ai]]]⟩):=by
  simp[mT]
 have d:rh=.seq mU (.seq mY (.seq mR (.seq mZ (.seq mX kx)))):=rfl;rw[CX,fA,c,bW,d];simp[mU,mY,mR,mZ,mX,b]
theorem KM{σ:aw}{n:Nat}{S:fJ}{a:List eP}(h:SA σ n S)(hM:ey σ n S)(hg:wc S)(L:mv a)(hk:S.ac.length≤8000)(g:Bool):ana σ n S g (cC code I.qaa [aH (n+3) 0 0 0,aI [.aa false (a.map eP.a)],aC g] σ):=by
 rw[cz akM rfl];have hE:arK.body=Uc:=rfl;have Q:[aq.ptr (n+3) 0 0 0,aI [.aa false (a.map eP.a)],aC g].take arK.np++List.replicate (arK.nenv-arK.np) aq.any=[aH (n+3) 0 0 0,aI [.aa false (a.map eP.a)],aC g,am,am,am,am,am,am,am,am,am,am,am,am,am]:=rfl;rw[hE,Q,VG];have B:=h.len;have H:CL (σ++bnX σ n a) n a σ.length:=⟨B,by simp,by simp,by simp,by simp,by simp,by simp⟩;have Z:=L.pos;have ad:=L.le;obtain⟨o,e,τ,A,G,b,V,i,u,x,f⟩:=V2 L (a.length-1) (by omega) g (σ++bnX σ n a) S (h.app _) (hM.app _) hg H hk;have s:((a.length-1:Nat):Int)=(a.length:Int)-1:=by omega
 have w1:IntKind.i64.wrap ((a.length:Int)-1)=(a.length:Int)-1:=rJ (by omega) (by omega);simp only[rW,s]at b;have D:Fr n σ τ:=(Fr.app _ _ _).trans u;have p:=H.fr u;have U:=H.b11;have f4:=H.b4;have y:=fq p.b10;have T:τ[σ.length+2]?=some (aB 1 0 [aI [.ai]]):=u.kp _ _ (.inr (by omega)) (by simp);have v:=fq T;have l:=vq (o.map (·.map EN.a));have Y:σ.length+2<(τ++[Obj.arr 1 0 [oH o]]).length:=(ak.1 (v [Obj.arr 1 0 [oH o]])).1;have e6:kx=.seq kz (.seq fZ (.seq gv gx)):=rfl;have q6:run code kz ⟨bnE σ n a g am am am am,σ++bnX σ n a⟩=some (.nrm,⟨bnE σ n a g (aH τ.length 0 0 0) (ap e) am am,τ++[Obj.arr 1 0 [oH o]]⟩):=by
  simp only[oH];generalize sv (o.map (·.map EN.a))=F at *;simp only[bnX]at U f4 b ⊢;simp[kz,w1,b,l]
 rw[e6,fA,q6,bW];have q:Fr n σ (τ++[Obj.arr 1 0 [oH o]]):=D.trans (Fr.app _ _ _);by_cases N:e=0
 ·subst N;obtain⟨c,k⟩:∃c,c=S.groups++G:=⟨_,rfl⟩;have z:∀X,cC code I.qac [aC g,aH σ.length 0 0 0] (τ++X)=some (if g then kF (n+10) c.length else kF (n+9) S.ac.length,τ++X):=fun X=>by
   rw[k];exact By (i.app X) (p.fr (Fr.app n τ X)) g
  have a9:∀X,(τ++X)[n+9]?=some (aB 1 S.ac.length (eA S.ac)):=i.at9;have w:∀X,(τ++X)[n+10]?=some (aB 1 c.length (eA c)):=by rw[k];exact i.at10
  have C:c.length≤8000:=by
   have:=(f rfl).1.gr;have a1:=(f rfl).1.kl;have a2:=(f rfl).1.al;rw[k];have a3:S.groups++G=({ S with ah:=S.ah++A,groups:=S.groups++G }:fJ).groups:=rfl;rw[a3,this];simp at a1 a2 ⊢;omega
  have E:∀base σ m,fz true false base σ (m+4) (sv (o.map (·.map EN.a)))=.aa false ((o.getD []).map EN.a):=fun base σ m=>by cases o<;>simp[sv]
  have J:=fun R (W:List Int) (ab:W.length≤8000)=>pH false (o.getD []) R W (by unfold bC;omega) (by unfold bC;omega);have j:=fun R=>J R (if g then c else S.ac) (by cases g<;>simp[C,hk]);have r:∃env,run code (.seq fZ (.seq gv gx)) ⟨bnE σ n a g (aH τ.length 0 0 0) i0 am am,τ++[Obj.arr 1 0 [oH o]]⟩=some (.ret,⟨env,(τ++[Obj.arr 1 0 [oH o]]).set (σ.length+2) (aB 1 0 [oH o])⟩)∧env[5]?=some (aH (σ.length+2) 0 0 0)∧env[6]?=some (ap (eI (o.getD []) (if g then c else S.ac)).1)∧env[7]?=some (ap (eI (o.getD []) (if g then c else S.ac)).2):=by
   simp only[oH]at v ⊢;generalize eI (o.getD []) (if g then c else S.ac)=K at *;generalize sv (o.map (·.map EN.a))=F at *;cases g with
   |false=>
    simp only[bq,cI]at j;exact⟨_,by simp[fZ,gv,gx,mV,mb,y,v,z,a9,w,E,l,j];rfl,rfl,rfl,rfl⟩
   |true=>
    simp only[cw]at j;exact⟨_,by simp[fZ,gv,gx,mV,mb,y,v,z,a9,w,E,l,j];rfl,rfl,rfl,rfl⟩
  obtain⟨env,r,O,t,M⟩:=r;rw[r];have d:((τ++[Obj.arr 1 0 [oH o]]).set (σ.length+2) (aB 1 0 [oH o]))[σ.length+2]?=some (aB 1 0 [oH o]):=by rw[aU Y]
  refine⟨o,(eI (o.getD []) (if g then c else S.ac)).1,(eI (o.getD []) (if g then c else S.ac)).2,(τ++[Obj.arr 1 0 [oH o]]).set (σ.length+2) (aB 1 0 [oH o]),A,G,?_,V,(i.app _).set _ _ (by omega),q.set _ _ (by omega),x,fun P=>⟨(f rfl).1,(f rfl).2,?_⟩⟩
  rotate_left 1
  ·rw[←k];exact Prod.ext rfl P
  simp only[oH]at d ⊢;generalize eI (o.getD []) (if g then c else S.ac)=K at *;generalize sv (o.map (·.map EN.a))=F at *;simp[arK,O,t,M,d,l]
 have r:∃env,run code (.seq fZ (.seq gv gx)) ⟨bnE σ n a g (aH τ.length 0 0 0) (ap e) am am,τ++[Obj.arr 1 0 [oH o]]⟩=some (.ret,⟨env,(τ++[Obj.arr 1 0 [oH o]]).set (σ.length+2) (aB 1 0 [aI [.ai]])⟩)∧env[5]?=some (aH (σ.length+2) 0 0 0)∧env[6]?=some i0∧env[7]?=some (ap e):=by
  simp only[oH]at v ⊢;generalize sv (o.map (·.map EN.a))=F at *;exact⟨_,by simp[fZ,v,N];rfl,rfl,rfl,rfl⟩
 obtain⟨env,r,O,t,M⟩:=r;rw[r];have d:((τ++[Obj.arr 1 0 [oH o]]).set (σ.length+2) (aB 1 0 [aI [.ai]]))[σ.length+2]?=some (aB 1 0 [aI [.ai]]):=by rw[aU Y]
 refine⟨none,0,e,(τ++[Obj.arr 1 0 [oH o]]).set (σ.length+2) (aB 1 0 [aI [.ai]]),A,G,?_,by simp,(i.app _).set _ _ (by omega),q.set _ _ (by omega),x,fun P=>absurd P N⟩;simp only[oH]at d ⊢;generalize sv (o.map (·.map EN.a))=F at *;simp[arK,O,t,M,d,sv]
def aiH(σ:aw)(n:Nat)(S:fJ)(g:Bool)(r:Option (aq×aw)):Prop:=
 ∃(o:Option (List EN)) (e:Int) (σ':aw) (A:List kP) (G:List Int),r=some (fy [oH o,ap e],σ')∧(o.getD []).length≤1000∧SA σ' n { S with ah:=S.ah++A,groups:=S.groups++G }∧Fr n σ σ'∧(g=false→A=[]∧G=[])∧(e=0→wc { S with ah:=S.ah++A,groups:=S.groups++G }∧o.isSome=true∧jE (o.getD []) (if g then S.groups++G else S.ac)=true)
theorem BG{σ:aw}{n:Nat}{S:fJ}{t:List eP}(h:SA σ n S)(F:ey σ n S)(C:wc S)(E:mv t)(J:S.ac.length≤8000)(g:Bool):aiH σ n S g (cC code I.qan [aH (n+3) 0 0 0,aI [.aa false (t.map eP.a)],aC g] σ):=by
 obtain⟨o,k,e,τ,A,G,a,l,i,q,j,s⟩:=KM (h.app [aB 1 0 [aI [.aa false (t.map eP.a)]],aB 1 0 [aI [.ai]]]) (F.app _) C E J g;have y:=h.len;have p:Fr n σ τ:=(Fr.app _ _ _).trans q;have r:τ[σ.length+1]?=some (aB 1 0 [aI [.ai]]):=q.kp _ _ (.inr (by omega)) (by simp);have m:=fq r;have f:=vq (o.map (·.map EN.a));have K:σ.length+1<(τ++[Obj.arr 1 0 [oH o]]).length:=(ak.1 (m [Obj.arr 1 0 [oH o]])).1;have b:((τ++[Obj.arr 1 0 [oH o]]).set (σ.length+1) (aB 1 0 [oH o]))[σ.length+1]?=some (aB 1 0 [oH o]):=by rw[aU K]
 have c:Fr n σ (τ++[Obj.arr 1 0 [oH o]]):=p.trans (Fr.app _ _ _);by_cases u:e=0
 ·subst u;obtain⟨B,z,D⟩:=s rfl;have w:jE (o.getD []) (if g then S.groups++G else S.ac)=(k==0 ||k==1):=by unfold jE;rw[D];rfl
  by_cases d:k=0∨k=1
  ·refine⟨o,0,(τ++[Obj.arr 1 0 [oH o]]).set (σ.length+1) (aB 1 0 [oH o]),A,G,?_,l,(i.app _).set _ _ (by omega),c.set _ _ (by omega),j,fun _=>⟨B,z,by rw[w];rcases d with h|h<;>simp[h]⟩⟩;rw[cz X4 rfl];simp only[oH]at b a m ⊢;generalize sv (o.map (·.map EN.a))=x at *;rcases d with rfl|rfl<;>simp[asd,U2,a,f,m,b]
  refine⟨o,226,(τ++[Obj.arr 1 0 [oH o]]).set (σ.length+1) (aB 1 0 [oH o]),A,G,?_,l,(i.app _).set _ _ (by omega),c.set _ _ (by omega),j,fun v=>by cases v⟩;rw[cz X4 rfl];have H:k≠0:=fun e=>d (.inl e);have k1:k≠1:=fun e=>d (.inr e);simp only[oH]at b a m ⊢;generalize sv (o.map (·.map EN.a))=x at *;simp[asd,U2,a,f,m,b,H,k1]
 refine⟨o,e,(τ++[Obj.arr 1 0 [oH o]]).set (σ.length+1) (aB 1 0 [oH o]),A,G,?_,l,(i.app _).set _ _ (by omega),c.set _ _ (by omega),j,fun v=>absurd v u⟩;rw[cz X4 rfl];simp only[oH]at b a m ⊢;generalize sv (o.map (·.map EN.a))=x at *;simp[asd,U2,a,f,m,b,u]
end Go.AM
