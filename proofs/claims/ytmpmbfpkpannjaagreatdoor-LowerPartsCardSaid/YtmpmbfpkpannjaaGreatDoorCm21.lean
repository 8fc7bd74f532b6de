/- Part of the proof. -/
import Derived.Test.YtmpmbfpkpannjaaGreatDoorCm20
set_option linter.unusedVariables false
set_option linter.unusedSimpArgs false
set_option linter.unusedSectionVars false
namespace Go.AM
open P
set_option maxHeartbeats 64000000
set_option maxRecDepth 40000
attribute [local simp] aG bj
abbrev quZ:aq:=aH [.ai,.ai,ap 0]
abbrev quV(σ:aw)(ep n:Nat)(k:Option (List aq))(l:Int):aq:=aH [.sl (σ.length+1) ep 0 n,sv k,ap l]
abbrev W9(σ:aw)(ep:Nat)(xs:List mL)(k:Option (List aq))(l:Int):aw:=[aB 3 0 [quZ],aB 9 ep (xs.map mL.r),aB 3 0 [quV σ ep xs.length k l]]
theorem aez(ep:Nat)(xs:List mL)(b:Nat)(τ:aw):bA b τ (aB 9 ep (xs.map mL.r))=aB 9 ep (xs.map mL.r):=by
 have h:(xs.map mL.r).map (cq b τ)=xs.map mL.r:=by
  rw[bU];exact aU fun y _=>mL.r_top y b τ 16
 simp only[bA,KJ,h];simp
theorem AJ{σ:aw}{id:Nat}{e:fY}(c:At σ id e)(r:fY)(ep:Nat)(xs:List mL)(k:Option (List aq))(l:Int):At (σ.set id (gz r)++W9 σ ep xs k l) id r:=(c.set r).app _ (fun τ b d=>by
 have a:σ.length+1<b:=by simp at d;omega
 rw[aV,aV,aV,bm,aez];simp[bA,cq,dF,KT,a])
theorem Qh{σ:aw}{id:Nat}{r:fY}(b:At σ id r):∀m (a:fY) (xs:List mL) (ep:Nat),xs.length+m=3→1≤xs.length→a.toks.length≤600 →
   ∃(k:List mL) (l:fY) (g:Nat) (c d:aq),bT code (σ.length+3) [3,4] vo ⟨[aI id 0 0 0,aI σ.length 0 0 0,aI (σ.length+2) 0 0 0,am,am,am,am],σ.set id (gz a)++W9 σ ep xs none (-1)⟩ =
    some (.ext 0,⟨[aI id 0 0 0,aI σ.length 0 0 0,aI (σ.length+2) 0 0 0,c,d,am,am],σ.set id (gz l)++W9 σ g k none (-1)⟩)∧Le l a∧k.length≤3∧1≤k.length:=by
 intro m;induction m with
 |zero=>
  intro a xs ep I z F;have e:=JG a 1 [85,78,73,79,78];have j:=oH b (gz a);cases hb:uY a 1 [[85,78,73,79,78]] with
  |false=>
   rw[hb]at e;refine⟨xs,a,ep,aC false,am,?_,Le.rfl' a,by omega,z⟩;rw[aZ];simp[vo,j,eF,e]
  |true=>
   rw[hb]at e;have h:((xs.length:Int)==3)=true:=by simp;omega
   have H:=tC a;have i:=oM (AJ b a ep xs none (-1)) 191 (gU a);rw[set_set b]at i;refine⟨xs,nL a 191 (gU a),ep,aC true,aC true,?_,vf a _ _,by omega,z⟩;rw[aZ];simp[vo,j,eF,e,h,H,i]
 |succ m J=>
  intro a xs ep I x F;have e:=JG a 1 [85,78,73,79,78];have j:=oH b (gz a);cases hb:uY a 1 [[85,78,73,79,78]] with
  |false=>
   rw[hb]at e;refine⟨xs,a,ep,aC false,am,?_,Le.rfl' a,by omega,x⟩;rw[aZ];simp[vo,j,eF,e]
  |true=>
   rw[hb]at e;have h:((xs.length:Int)==3)=false:=by simp;omega
   obtain⟨t,B,O⟩:=vx (AJ b a ep xs none (-1)) hb;rw[set_set b]at B;obtain⟨P,M,A,K⟩:=oK (AJ b a.nx ep xs none (-1)) 1 [65,76,76];rw[set_set b]at A;unfold Le at K;obtain⟨s,C,n,L⟩:=CR (AJ b M ep xs none (-1)) (by omega);rw[set_set b]at n;unfold Le at L;obtain⟨k,l,g,c,d,D,N,E⟩:=J C (xs++[s]) (ep+1) (by simp;omega) (by simp) (by omega);refine⟨k,l,g,c,d,?_,by unfold Le at *;omega,E⟩;rw[←D,aZ];have w:List.take xs.length (xs.map mL.r)=xs.map mL.r:=ay (by simp);have q:xs.length+1≤bD:=by unfold bD;omega
   have u:(xs++[s]).map mL.r=xs.map mL.r++[s.r]:=by simp
   have G:=(AJ b C (ep+1) (xs++[s]) none (-1)).firm;have f:=fun env o=>EV (base:=σ.length+3) (clr:=[3,4]) (env:=env) (o:=o) (t:=[]) (by simp) G (by simp);simp only[W9,u]at f ⊢;have v:s.r=rp s.distinct s.star (s.items.map (·.map pU.a)) s.table s.as' (some (s.joins.map o7.a)) (s.whr.map (·.map eO.a)) (s.having.map (·.map eO.a)) (s.group.map (·.map uV.a)):=rfl;rw[v]at f n ⊢;simp only[dy,bY,bX,cn,bw,bE,cE]at f;have p:∀y:aq,(if id<σ.length+3 then aq.ptr id 0 0 0 else y)=aq.ptr id 0 0 0:=fun y=>if_pos (by have:=b.lt;omega);simp[vo,j,eF,e,h,B,A,n,append,w,q,f,cq,dF,p]
structure tX where
 sels:List mL
 keys:Option (List BZ)
 limit:Int
 h1:1≤sels.length
 h3:sels.length≤3
 hk:(keys.getD []).length≤3
def tX.r(q:tX):aq:=aH [.aa false (q.sels.map mL.a),sv (q.keys.map (·.map BZ.a)),ap q.limit]
def tX.a(q:tX):aq:=aH [.aa false (q.sels.map mL.a),.aa false ((q.keys.getD []).map BZ.a),ap q.limit]
theorem aev:aau=.seq zw (.seq zh (.seq (.blk 0 (.loop [3,4] vo)) (.seq vw (.seq vD FE)))):=rfl
theorem acn{σ:aw}{id:Nat}{q:fY}(a:At σ id q)(r:fY)(u:r.toks.length≤600)(ep:Nat)(xs:List mL)(c d:aq):∃(b:Bool) (o:Option (List BZ)) (j:fY),run code vw ⟨[aI id 0 0 0,aI σ.length 0 0 0,aI (σ.length+2) 0 0 0,c,d,am,am],σ.set id (gz r)++W9 σ ep xs none (-1)⟩=some (.nrm,⟨[aI id 0 0 0,aI σ.length 0 0 0,aI (σ.length+2) 0 0 0,c,d,aC b,am],σ.set id (gz j)++W9 σ ep xs (o.map (·.map BZ.a)) (-1)⟩)∧Le j r∧(o.getD []).length≤3:=by
 obtain⟨b,g,e,i,k⟩:=jy (AJ a r ep xs none (-1)) 1 [79,82,68,69,82];rw[set_set a]at e;cases b with
 |false=>
  obtain rfl:=k rfl;exact⟨false,none,g,by simp[vw,e],Le.rfl' g,by simp⟩
 |true=>
  have i:=i rfl;obtain⟨v,s,h,l⟩:=oK (AJ a g ep xs none (-1)) 1 [66,89];rw[set_set a]at h;unfold Le at l;obtain⟨p,t,f,m,n3,_⟩:=Nx (enc:=BZ.a) (fun n=>⟨_,rfl,rfl⟩) I.qfg WF 3 (by omega) (by omega) (AJ a s ep xs none (-1)) (by omega);rw[set_set a]at f;unfold Le at m;refine⟨true,some p,t,?_,by unfold Le;omega,n3⟩;rw[show ((3:Nat):Int)=3 from rfl]at f;simp[vw,e,h,f,←NA]
theorem acT{σ:aw}{id:Nat}{m:fY}(a:At σ id m)(r:fY)(ep:Nat)(xs:List mL)(k:Option (List aq))(c d x:aq):∃(b:Bool) (n:Int) (i:fY),run code vD ⟨[aI id 0 0 0,aI σ.length 0 0 0,aI (σ.length+2) 0 0 0,c,d,x,am],σ.set id (gz r)++W9 σ ep xs k (-1)⟩=some (.nrm,⟨[aI id 0 0 0,aI σ.length 0 0 0,aI (σ.length+2) 0 0 0,c,d,x,aC b],σ.set id (gz i)++W9 σ ep xs k n⟩)∧Le i r:=by
 obtain⟨b,f,e,h,j⟩:=jy (AJ a r ep xs k (-1)) 1 [76,73,77,73,84];rw[set_set a]at e;cases b with
 |false=>
  obtain rfl:=j rfl;exact⟨false,-1,f,by simp[vD,e],Le.rfl' f⟩
 |true=>
  have h:=h rfl;obtain⟨n,o,g,l⟩:=FM (AJ a f ep xs k (-1));rw[set_set a]at g;unfold Le at l;exact⟨true,n,o,by simp[vD,e,g],by unfold Le;omega⟩
theorem RA{σ:aw}{id:Nat}{r:fY}(f:At σ id r)(F:r.toks.length≤600):∃(q:tX) (s:fY),cD code I.qfq [aI id 0 0 0] σ=some (q.r,σ.set id (gz s))∧Le s r:=by
 have h:At (σ++[aB 3 0 [quZ]]) id r:=f.app _ (fun τ b _=>by simp[bA,cq,dF]);obtain⟨e,n,g,K⟩:=CR h F;rw[s9 f]at g;unfold Le at K;obtain⟨xs,u,ep,c,d,C,L,P,m⟩:=Qh f 2 n [e] 0 (by simp) (by simp) (by omega);unfold Le at L;obtain⟨B,p,Q,D,M,n3⟩:=acn f u (by omega) ep xs c d;unfold Le at M;obtain⟨R,O,w,E,N⟩:=acT f Q ep xs (p.map (·.map BZ.a)) c d (aC B);unfold Le at N;refine⟨⟨xs,p,O,m,P,n3⟩,w,?_,by unfold Le;omega⟩;have H:=fun o t v=>dM f w o t v;have G:ar0.body=aau:=rfl;have J:[aq.ptr id 0 0 0].take ar0.np++List.replicate (ar0.nenv-ar0.np) aq.any=[aI id 0 0 0,am,am,am,am,am,am]:=rfl;have x:run code zw ⟨[aI id 0 0 0,am,am,am,am,am,am],σ⟩=some (.nrm,⟨[aI id 0 0 0,aI σ.length 0 0 0,am,am,am,am,am],σ++[aB 3 0 [quZ]]⟩):=by simp[zw]
 have z:run code zh ⟨[aI id 0 0 0,aI σ.length 0 0 0,am,am,am,am,am],σ++[aB 3 0 [quZ]]⟩=some (.nrm,⟨[aI id 0 0 0,aI σ.length 0 0 0,aI (σ.length+2) 0 0 0,am,am,am,am],σ.set id (gz n)++W9 σ 0 [e] none (-1)⟩):=by
  have k:e.r=rp e.distinct e.star (e.items.map (·.map pU.a)) e.table e.as' (some (e.joins.map o7.a)) (e.whr.map (·.map eO.a)) (e.having.map (·.map eO.a)) (e.group.map (·.map uV.a)):=rfl;simp only[W9,aV,bm];rw[k]at g ⊢;simp[zh,g,sv]
 rw[cZ alr rfl,G,J,aev,fy,x,bW,fy,z,bW,fy];have A:run code (.blk 0 (.loop [3,4] vo)) ⟨[aI id 0 0 0,aI σ.length 0 0 0,aI (σ.length+2) 0 0 0,am,am,am,am],σ.set id (gz n)++W9 σ 0 [e] none (-1)⟩=some (.nrm,⟨[aI id 0 0 0,aI σ.length 0 0 0,aI (σ.length+2) 0 0 0,c,d,am,am],σ.set id (gz u)++W9 σ ep xs none (-1)⟩):=by
  simp[C]
 rw[A,bW,fy,D,bW,fy,E,bW];have l:List.take xs.length (xs.map mL.r)=xs.map mL.r:=ay (by simp);have i:∀b σ,(xs.map mL.r).map (fz false false b σ 18)=xs.map mL.a:=fun b σ=>by
  rw[bU];exact aU fun y _=>mL.r_fz y b σ 14
 have j:∀b σ (a:mL),aM (fz false false b σ 18 a.r)=aM a.r:=fun b σ a=>by rw[mL.r_fz a b σ 14];rfl
 simp[ar0,FE,H,cq,dF,l,i,j,KT,tX.r]
abbrev quE:aq:=aH [.aa false [],.aa false [],ap 0]
def NF(v:aq):Prop:=(∃a e:Int,e≠0∧v=fb [quE,ap a,ap e])∨∃q:tX,v=fb [q.a,ap 0,ap 0]
theorem aqf(q:tX)(τ:aw):fz false false 0 τ 20 q.r=q.a:=by
 simp[tX.r,tX.a,Sp,HX]
theorem acy(text:List UInt8)(A:text.length≤600):∃v,bB I.qfy [aO text,.fn I.qfq [] []]=some v∧NF v:=by
 obtain⟨c,a,e,z,h⟩:=aaS text A;rw[aR anD rfl];by_cases p:e=0
 ·subst p;have y:At [aB 3 0 [quZ],aB 3 0 [quZ],gz ⟨c,text.length,0,0⟩] 2 ⟨c,text.length,0,0⟩:=⟨rfl,fun τ b _=>by
   rw[aV,aV,aV,Iq];simp[bA,cq,dF]⟩
  obtain⟨q,r,d,C⟩:=RA y z;have o:At [aB 3 0 [quZ],aB 3 0 [quZ],gz r,aB 3 0 [q.r]] 2 r:=⟨rfl,fun τ b _=>by
   rw[aV,aV,aV,aV,Iq];have:fz false true b τ 20 q.r=q.r:=by simp[tX.r,KT]
   simp[bA,cq,dF,this]⟩
  have i:q.r=aH [.aa false (q.sels.map mL.a),sv (q.keys.map (·.map BZ.a)),ap q.limit]:=rfl;have x:=tC r;have f:=oM o 190 (gU r);simp only[List.set,gz]at d f;have n:r.v=aH [.aa false (r.toks.map vq.a),ap r.en,ap r.at',ap r.er]:=rfl;have B:=eF r;have t:(⟨c,text.length,0,0⟩:fY).v=aH [.aa false (c.map vq.a),ap text.length,ap 0,ap 0]:=rfl;have l:=aqf q;rw[t]at d;by_cases w:r.toks=[]
  ·have m:r.v=aH [.aa false [],ap r.en,ap r.at',ap r.er]:=by rw[n,w];rfl
   by_cases g:r.er=0
   ·refine⟨_,?_,.inr ⟨q,rfl⟩⟩;rw[m]at d;rw[i]at d l;simp[asc,NU,h,d,g,Sp,HX,tX.a]
   refine⟨fb [quE,ap r.at',ap r.er],?_,.inl ⟨r.at',r.er,g,rfl⟩⟩;rw[m]at d;rw[i]at d l;simp[asc,NU,h,d,g]
  have k:0<r.toks.length:=eZ.2 w;have s:(0:Int)<(r.toks.length:Int):=by omega
  have u:(nL r 190 (gU r)).v=aH [.aa false (r.toks.map vq.a),ap r.en,ap (nL r 190 (gU r)).at',ap (nL r 190 (gU r)).er]:=by
   unfold nL;split<;>rfl
  have j:(nL r 190 (gU r)).er≠0:=by unfold nL;split<;>simp_all
  refine⟨fb [quE,ap (nL r 190 (gU r)).at',ap (nL r 190 (gU r)).er],?_,.inl ⟨_,_,j,rfl⟩⟩;rw[u]at f;rw[n]at d f x;rw[i]at d f;generalize nL r 190 (gU r)=E at *;generalize gU r=D at *;simp[asc,NU,h,d,k,s,x,f,j]
 refine⟨fb [quE,ap a,ap e],?_,.inl ⟨a,e,p,rfl⟩⟩;simp[asc,NU,h,p]
theorem aci(text:List UInt8)(d:text.length≤600):∃v,bB I.qes [aO text]=some v∧NF v:=by
 obtain⟨v,h,c⟩:=acy text d;refine⟨v,?_,c⟩;rw[aR aky rfl];rcases c with⟨a,e,f,rfl⟩|⟨q,rfl⟩
 ·simp[ath,aai,h]
 have b:q.a=aH [.aa false (q.sels.map mL.a),.aa false ((q.keys.getD []).map BZ.a),ap q.limit]:=rfl;rw[b]at h ⊢;simp[ath,aai,h]
theorem kC{s:Type}{enc:s→aq}{b:Bool}{l:List s}{f:aq}{p:s→Bool}(v:l.length≤bD)(t:∀y,aM (enc y)=3∧isAgg (enc y)=true)(x:rW f)
  (h:∀y∈l,jh code f [enc y] []=some (aC (p y),[])):bB I.qhb [.aa b (l.map enc),f]=some (ap (wc p l)):=by
 rw[aR anh rfl];have m:=x [];have c:∀k,k<l.length→∀y,l[k]?=some y→p y=false→dh 0 [2,3,6,7] tM (run code tM ⟨[.aa b (l.map enc),f,am,am,ap l.length,ap k,am,am],[]⟩) =
   bT code 0 [2,3,6,7] tM ⟨[.aa b (l.map enc),f,am,am,ap l.length,ap (k+1:Nat),am,am],[]⟩:=fun k d y o r=>by
  have q:=t y;have g:=h y (aN o);rw[r]at g;have e:((k:Int)<(l.length:Int)):=by omega
  simp[tM,o,q,g,e,cU d v,cO]
 unfold wc;by_cases n:l.any p=true
 ·have e:=bQ (cB.1 n);have r:p l[l.findIdx p]=true:=du (w:=e);have a:=cY (base:=0) (clr:=[2,3,6,7]) (b:=tM) (fun k=>⟨[.aa b (l.map enc),f,am,am,ap l.length,ap k,am,am],[]⟩) (l.findIdx p)
   (.ret,⟨[.aa b (l.map enc),f,ap (l.findIdx p),ap (l.findIdx p),ap l.length,ap (l.findIdx p),aC true,aC true],[]⟩)
   (fun k d=>c k (by omega) _ (au (by omega)) (by simpa using cW d))
   (by
    have u:l[l.findIdx p]?=some l[l.findIdx p]:=au e;have q:=t l[l.findIdx p];have g:=h _ (aJ e);rw[r]at g;have j:((l.findIdx p:Int)<(l.length:Int)):=by omega
    simp[tM,u,q,g,j])
  simp at a;simp[atl,Ys,m,a,n]
 have i:∀y∈l,p y=false:=fun y o=>by simpa using cS.1 (eB _▸n) y o
 have a:=cY (base:=0) (clr:=[2,3,6,7]) (b:=tM) (fun k=>⟨[.aa b (l.map enc),f,am,am,ap l.length,ap k,am,am],[]⟩) l.length
  (.ext 0,⟨[.aa b (l.map enc),f,am,am,ap l.length,ap l.length,aC false,am],[]⟩)
  (fun k d=>c k d _ (au d) (i _ (aJ d)))
  (by simp[tM])
 simp at a;simp[atl,Ys,m,a,n]
theorem tF{s:Type}{enc:s→aq}{b:Bool}{l:List s}{f:aq}{p:s→Bool}(v:l.length≤bD)(t:∀y,aM (enc y)=2∧isAgg (enc y)=true)(x:rW f)
  (h:∀y∈l,jh code f [enc y] []=some (aC (p y),[])):bB I.qgw [.aa b (l.map enc),f]=some (ap (wc p l)):=by
 rw[aR alU rfl];have m:=x [];have c:∀k,k<l.length→∀y,l[k]?=some y→p y=false→dh 0 [2,3,6,7] tP (run code tP ⟨[.aa b (l.map enc),f,am,am,ap l.length,ap k,am,am],[]⟩) =
   bT code 0 [2,3,6,7] tP ⟨[.aa b (l.map enc),f,am,am,ap l.length,ap (k+1:Nat),am,am],[]⟩:=fun k d y o r=>by
  have q:=t y;have g:=h y (aN o);rw[r]at g;have e:((k:Int)<(l.length:Int)):=by omega
  simp[tP,o,q,g,e,cU d v,cO]
 unfold wc;by_cases n:l.any p=true
 ·have e:=bQ (cB.1 n);have r:p l[l.findIdx p]=true:=du (w:=e);have a:=cY (base:=0) (clr:=[2,3,6,7]) (b:=tP) (fun k=>⟨[.aa b (l.map enc),f,am,am,ap l.length,ap k,am,am],[]⟩) (l.findIdx p)
   (.ret,⟨[.aa b (l.map enc),f,ap (l.findIdx p),ap (l.findIdx p),ap l.length,ap (l.findIdx p),aC true,aC true],[]⟩)
   (fun k d=>c k (by omega) _ (au (by omega)) (by simpa using cW d))
   (by
    have u:l[l.findIdx p]?=some l[l.findIdx p]:=au e;have q:=t l[l.findIdx p];have g:=h _ (aJ e);rw[r]at g;have j:((l.findIdx p:Int)<(l.length:Int)):=by omega
    simp[tP,u,q,g,j])
  simp at a;simp[atr,ZA,m,a,n]
 have i:∀y∈l,p y=false:=fun y o=>by simpa using cS.1 (eB _▸n) y o
 have a:=cY (base:=0) (clr:=[2,3,6,7]) (b:=tP) (fun k=>⟨[.aa b (l.map enc),f,am,am,ap l.length,ap k,am,am],[]⟩) l.length
  (.ext 0,⟨[.aa b (l.map enc),f,am,am,ap l.length,ap l.length,aC false,am],[]⟩)
  (fun k d=>c k d _ (au d) (i _ (aJ d)))
  (by simp[tP])
 simp at a;simp[atr,ZA,m,a,n]
theorem sN{c:Type}{enc:c→aq}{b:Bool}{l:List c}{f:aq}{p:c→Bool}(g:l.length≤bD)(e:∀y,aM (enc y)=3∧isAgg (enc y)=true)(d:rW f)
  (h:∀y∈l,jh code f [enc y] []=some (aC (p y),[])):bB I.qgk [.aa b (l.map enc),f]=some (aC (l.any p)):=by
 rw[aR alz rfl];have h:=kC (b:=b) g e d h;have a:=d [];unfold wc at h;cases ha:l.any p<;>rw[ha]at h<;>simp[au9,afO,a,h]
theorem FF(t:cK):bB I.qbm [t.a]=some (aO t.name):=by
 rw[aR alj rfl];have a:t.a=aH [aO t.name,.aa false (t.af.map fD.a),.aa false (t.keys.map (.int .i64))]:=rfl;rw[a];simp[auP,afp]
theorem Df(c:fD):bB I.qbf [c.a]=some (aO c.name):=by
 rw[aR alf rfl];have a:c.a=aH [aO c.name,ap c.kind]:=rfl;rw[a];simp[au8,ahn]
theorem U0(t:cK)(n:List UInt8)(a b:Bool):bB I.qbj [t.a,.cptr a (.fn I.qbm [] []) 0,.cptr b (aO n) 0]=some (aC (t.name==n)):=by
 rw[aR alL rfl];have c:=FF t;have n3:aM t.a=3∧isAgg t.a=true:=⟨rfl,rfl⟩;have d:∀fl top base σ m,fz fl top base σ (m+3) t.a=t.a:=fun fl top base σ m=>Fx.fx fl top base σ m t;cases a<;>cases b<;>simp[auM,aeL,c,d,n3,eT]
theorem adp(t:fD)(n:List UInt8)(a b:Bool):bB I.qbh [t.a,.cptr a (.fn I.qbf [] []) 0,.cptr b (aO n) 0]=some (aC (t.name==n)):=by
 rw[aR al4 rfl];have c:=Df t;have n3:aM t.a=2∧isAgg t.a=true:=⟨rfl,rfl⟩;have d:∀fl top base σ m,fz fl top base σ (m+3) t.a=t.a:=fun fl top base σ m=>Fx.fx fl top base σ m t;cases a<;>cases b<;>simp[auO,ag2,c,d,n3,eT]
theorem ahz(b:Bool)(l:List cK)(d:l.length≤8000)(n:List UInt8):∃k ok,bB I.qbi [.aa b (l.map cK.a),.fn I.qbm [] [],aO n]=some (fb [ap k,aC ok])∧k=max (wc (fun t=>t.name==n) l) 0:=by
 have a:=kC (enc:=cK.a) (b:=b) (l:=l) (f:=snap [aB 1 0 [.fn I.qbm [] []],aB 1 0 [aO n]] (.fn I.qbj [] [aI 0 0 0 0,aI 1 0 0 0])) (p:=fun t=>t.name==n) (by unfold bD;omega) (fun _=>⟨rfl,rfl⟩) (fun σ=>pO _ _ _) (fun t _=>by
  have c:∀fl top base σ m,fz fl top base σ (m+3) t.a=t.a:=fun fl top base σ m=>Fx.fx fl top base σ m t;simp[U0,c])
 rw[aR agD rfl];simp at a;generalize wc (fun t=>t.name==n) l=ix at *;refine⟨max ix 0,decide (0≤ix),?_,rfl⟩;simp[asH,abF,a];split<;>omega
theorem ahY(b:Bool)(l:List fD)(d:l.length≤8000)(n:List UInt8):∃k ok,bB I.qbg [.aa b (l.map fD.a),.fn I.qbf [] [],aO n]=some (fb [ap k,aC ok])∧k=max (wc (fun t=>t.name==n) l) 0:=by
 have a:=tF (enc:=fD.a) (b:=b) (l:=l) (f:=snap [aB 1 0 [.fn I.qbf [] []],aB 1 0 [aO n]] (.fn I.qbh [] [aI 0 0 0 0,aI 1 0 0 0])) (p:=fun t=>t.name==n) (by unfold bD;omega) (fun _=>⟨rfl,rfl⟩) (fun σ=>pO _ _ _) (fun t _=>by
  have c:∀fl top base σ m,fz fl top base σ (m+3) t.a=t.a:=fun fl top base σ m=>Fx.fx fl top base σ m t;simp[adp,c])
 rw[aR akZ rfl];simp at a;generalize wc (fun t=>t.name==n) l=ix at *;refine⟨max ix 0,decide (0≤ix),?_,rfl⟩;simp[au4,aeI,a];split<;>omega
def xL{α:Type}(g:Nat→α→Bool):List α→Nat→Bool
 |[],_=>true
 |x::l,k=>g k x&&xL g l (k+1)
theorem BX{a:Type}(g:Nat→a→Bool):∀(l:List a) (k:Nat),dt (fun k y (_:Unit)=>if g k y then (.inl ():Unit⊕Unit) else .inr ()) l k ()=if xL g l k then .inl () else .inr ()
 |[],k=>rfl
 |x::l,k=>by
  rw[dt,xL];cases g k x with
  |true=>simpa using BX g l (k+1)
  |false=>rfl
def C1{α:Type}(of:α→List UInt8)(l:List α)(k:Nat)(x:α):Bool:=!((l.take k).any fun y=>of y==of x)
theorem ZR{d:Type}(of:d→List UInt8){l:List d}{k:Nat}{x:d}(c:l[k]?=some x):(max (wc (fun t=>of t==of x) l) 0 != (k:Int))=!C1 of l k x:=by
 have r:=(ak.1 c).1;have f:=(ak.1 c).2;have a:l.any (fun t=>of t==of x)=true:=cB.2 ⟨x,aN c,by simp⟩;unfold wc C1;rw[if_pos a,Bool.not_not];have n:l.findIdx (fun t=>of t==of x)≤k:=by
  apply fP;intro h;have:=cW (p:=fun t=>of t==of x) (xs:=l) (i:=k) (by omega);rw[f]at this;simp at this
 have e:=bQ (cB.1 a);cases hq:(l.take k).any (fun y=>of y==of x) with
 |true=>
  obtain⟨y,q,b⟩:=cB.1 hq;obtain⟨i,hi,rfl⟩:=cM.1 q;have j:i<k:=by simp at hi;omega
  have m:i<l.length:=by omega
  have:l.findIdx (fun t=>of t==of x)≤i:=by
   apply fP;intro h;have:=cW (p:=fun t=>of t==of x) (xs:=l) (i:=i) (by omega);rw[dO]at b;rw[b]at this;simp at this
  simp;omega
 |false=>
  have g:k≤l.findIdx (fun t=>of t==of x):=by
   apply fP;intro h;have b:(fun t=>of t==of x) l[l.findIdx (fun t=>of t==of x)]=true:=du (w:=e);have o:l[l.findIdx (fun t=>of t==of x)]∈l.take k:=by
    rw[cM];exact⟨l.findIdx (fun t=>of t==of x),by simp;omega,by rw[dO]⟩
   have:=cS.1 hq _ o;exact this b
  simp;omega
theorem aiF(b:Bool)(l:List cK)(r:l.length≤8000):bB I.qbl [.aa b (l.map cK.a),.fn I.qbm [] []]=some (aC (xL (fun k t=>C1 cK.name l k t&&iy t.name) l 0)):=by
 rw[aR ak5 rfl];have s:l.length≤bD:=by unfold bD;omega
 have key:=iL (base:=0) (clr:=[2,3,4,5,9,10]) (b:=Ac) l (fun k (_:Unit)=>⟨[.aa b (l.map cK.a),.fn I.qbm [] [],am,am,am,am,.aa b (l.map cK.a),ap l.length,ap k,am,am],[]⟩) (fun _ _=>True)
  (fun k t (_:Unit)=>if (C1 cK.name l k t&&iy t.name) then (.inl ():Unit⊕Unit) else .inr ())
  (fun _=>(.ext 0,⟨[.aa b (l.map cK.a),.fn I.qbm [] [],am,am,am,am,.aa b (l.map cK.a),ap l.length,ap l.length,aC false,am],[]⟩)) (fun _ o=>∃q,o=(.ret,q)∧q.env[2]?=some (aC false))
  (fun k t _ e d _=>by
   have g:∀h:k<l.length,l[k]'h=t:=fun h=>(ak.1 d).2;have u:=cU e s;have j:=FF t;have n3:aM t.a=3∧isAgg t.a=true:=⟨rfl,rfl⟩;have p:∀fl top base σ m,fz fl top base σ (m+3) t.a=t.a:=fun fl top base σ m=>Fx.fx fl top base σ m t;obtain⟨v,ok,f,i⟩:=ahz b l r t.name;have a:=ZR cK.name d;rw[←i]at a;have c:=nZ t.name;cases hA:C1 cK.name l k t with
   |false=>
    rw[hA]at a;simp only[iR,bq,cH];exact⟨_,by simp[Ac,e,d,g,j,p,n3,f,a];rfl,_,rfl,rfl⟩
   |true=>
    rw[hA]at a;simp only[ej];cases hB:iy t.name with
    |false=>
     rw[hB]at c;simp only[bq,cH];exact⟨_,by simp[Ac,e,d,g,j,p,n3,f,a,c];rfl,_,rfl,rfl⟩
    |true=>
     rw[hB]at c;simp only[cw];refine⟨?_,trivial⟩;simp[Ac,e,d,g,j,p,n3,f,a,c,u,bN,cq,dF])
  (fun _ _=>by simp[Ac]) () trivial
 rw[BX]at key;cases hq:xL (fun k t=>C1 cK.name l k t&&iy t.name) l 0 with
 |true=>
  rw[hq]at key;have key:=key.2;simp only[aY]at key;simp[asz,Xl,key]
 |false=>
  rw[hq]at key;obtain⟨o,key,q,rfl,n⟩:=key;simp only[aY]at key;simp[asz,Xl,key,n]
theorem ajG(b:Bool)(l:List fD)(r:l.length≤8000):bB I.qbk [.aa b (l.map fD.a),.fn I.qbf [] []]=some (aC (xL (fun k t=>C1 fD.name l k t&&iy t.name) l 0)):=by
 rw[aR alp rfl];have s:l.length≤bD:=by unfold bD;omega
 have key:=iL (base:=0) (clr:=[2,3,4,5,9,10]) (b:=zJ) l (fun k (_:Unit)=>⟨[.aa b (l.map fD.a),.fn I.qbf [] [],am,am,am,am,.aa b (l.map fD.a),ap l.length,ap k,am,am],[]⟩) (fun _ _=>True)
  (fun k t (_:Unit)=>if (C1 fD.name l k t&&iy t.name) then (.inl ():Unit⊕Unit) else .inr ())
  (fun _=>(.ext 0,⟨[.aa b (l.map fD.a),.fn I.qbf [] [],am,am,am,am,.aa b (l.map fD.a),ap l.length,ap l.length,aC false,am],[]⟩)) (fun _ o=>∃q,o=(.ret,q)∧q.env[2]?=some (aC false))
  (fun k t _ e d _=>by
   have g:∀h:k<l.length,l[k]'h=t:=fun h=>(ak.1 d).2;have u:=cU e s;have j:=Df t;have n3:aM t.a=2∧isAgg t.a=true:=⟨rfl,rfl⟩;have p:∀fl top base σ m,fz fl top base σ (m+3) t.a=t.a:=fun fl top base σ m=>Fx.fx fl top base σ m t;obtain⟨v,ok,f,i⟩:=ahY b l r t.name;have a:=ZR fD.name d;rw[←i]at a;have c:=nZ t.name;cases hA:C1 fD.name l k t with
   |false=>
    rw[hA]at a;simp only[iR,bq,cH];exact⟨_,by simp[zJ,e,d,g,j,p,n3,f,a];rfl,_,rfl,rfl⟩
   |true=>
    rw[hA]at a;simp only[ej];cases hB:iy t.name with
    |false=>
     rw[hB]at c;simp only[bq,cH];exact⟨_,by simp[zJ,e,d,g,j,p,n3,f,a,c];rfl,_,rfl,rfl⟩
    |true=>
     rw[hB]at c;simp only[cw];refine⟨?_,trivial⟩;simp[zJ,e,d,g,j,p,n3,f,a,c,u,bN,cq,dF])
  (fun _ _=>by simp[zJ]) () trivial
 rw[BX]at key;cases hq:xL (fun k t=>C1 fD.name l k t&&iy t.name) l 0 with
 |true=>
  rw[hq]at key;have key:=key.2;simp only[aY]at key;simp[as2,ZS,key]
 |false=>
  rw[hq]at key;obtain⟨o,key,q,rfl,n⟩:=key;simp only[aY]at key;simp[as2,ZS,key,n]
def AL(k:Int):Bool:=k==1 ||k==2 ||k==3
theorem ah9(k:Int):∃w,bB I.qbn [ap k]=some (aO w)∧(w==[])=!AL k:=by
 by_cases e:k=1
 ·subst e;exact⟨[98,111,111,108],kQ (n:=20) (σ:=[]) (by kernel_rfl),rfl⟩
 by_cases f:k=2
 ·subst f;exact⟨[105,110,116],kQ (n:=20) (σ:=[]) (by kernel_rfl),rfl⟩
 by_cases g:k=3
 ·subst g;exact⟨[116,101,120,116],kQ (n:=20) (σ:=[]) (by kernel_rfl),rfl⟩
 refine⟨[],?_,by simp[AL,e,f,g]⟩;have h:((1:Int)==k)=false:=by rw[gh];omega
 have j:((2:Int)==k)=false:=by rw[gh];omega
 have l:((3:Int)==k)=false:=by rw[gh];omega
 have a:¬((1:Int)=k):=by omega
 have c:¬((2:Int)=k):=by omega
 have d:¬((3:Int)=k):=by omega
 rw[aR aoa rfl];have m:IntKind.i64.wrap 1=1:=rfl;have o:IntKind.i64.wrap 2=2:=rfl;have p:IntKind.i64.wrap 3=3:=rfl;have loop:=cY (base:=0) (clr:=[1,2,5,6]) (b:=Ay) (fun i=>⟨[ap k,am,am,gl0,ap i,am,am],[]⟩) 3
  (.ext 0,⟨[ap k,am,am,gl0,ap 3,aC false,am],[]⟩)
  (fun i hi=>by
   match i,hi with
   |0,_=>simp[Ay,h,a,m,bN,cq,dF]
   |1,_=>simp[Ay,j,c,o,bN,cq,dF]
   |2,_=>simp[Ay,l,d,p,bN,cq,dF])
  (by simp[Ay])
 simp only[aY]at loop;simp[auq,ae3,loop]
def Og(n:Nat)(keys:List Int)(i:Nat)(k:Int):Bool:=decide (0≤k)&&decide (k<n)&&(i==0 ||decide (keys.getD (i-1) 0<k))
def aig(af:List fD)(k:Nat)(c:fD):Bool:=C1 fD.name af k c&&iy c.name
def EL(t:cK):Bool:=iy t.name&&decide (1≤t.af.length)&&decide (t.af.length≤4)&&xL (aig t.af) t.af 0&&(t.af.all fun c=>AL c.kind)&&xL (Og t.af.length t.keys) t.keys 0
theorem tU{a:Type}(p:a→Bool):∀(l:List a) (b:Bool),l.foldl (fun b x=>b&&p x) b=(b&&l.all p)
 |[],b=>by simp
 |x::l,b=>by rw[dZ,tU p l,lQ,kN]
abbrev AU(t:cK)(ok:Bool)(a4 a7 a8 a9 a10 a11 a12 a13 a14:aq):List aq:=[t.a,aI 0 0 0 0,ap 0,aC ok,a4,am,am,a7,a8,a9,a10,a11,a12,a13,a14,am]
theorem ac2(t:cK)(p:t.af.length≤8000)(ok:Bool) :
  bT code 1 [4,10] Di ⟨AU t ok am (.aa false (t.af.map fD.a)) (ap t.af.length) (ap 0) am am am am am,[aB 3 0 [t.a]]⟩ =
   some (.ext 0,⟨AU t (ok&&t.af.all fun c=>AL c.kind) am (.aa false (t.af.map fD.a)) (ap t.af.length) (ap t.af.length) (aC false) am am am am,[aB 3 0 [t.a]]⟩):=by
 have j:t.af.length≤bD:=by unfold bD;omega
 have key:=(gL (base:=1) (clr:=[4,10]) (b:=Di) t.af (fun k ok=>⟨AU t ok am (.aa false (t.af.map fD.a)) (ap t.af.length) (ap k) am am am am am,[aB 3 0 [t.a]]⟩) (fun _ _=>True) (fun b c=>b&&AL c.kind)
  (fun ok=>(.ext 0,⟨AU t ok am (.aa false (t.af.map fD.a)) (ap t.af.length) (ap t.af.length) (aC false) am am am am,[aB 3 0 [t.a]]⟩))
  (fun k c ok f g _=>by
   refine⟨?_,trivial⟩;have i:∀h:k<t.af.length,t.af[k]'h=c:=fun h=>(ak.1 g).2;have o:=cU f j;obtain⟨w,l,a⟩:=ah9 c.kind;have e:c.a=aH [aO c.name,ap c.kind]:=rfl;have n:∀fl top base σ m,fz fl top base σ (m+3) t.a=t.a:=fun fl top base σ m=>Fx.fx fl top base σ m t;have n3:aM t.a=3:=rfl;have d:(w != [])=AL c.kind:=by show (!(w==[]))=_;rw[a,Bool.not_not]
   cases ok<;>cases hkb:AL c.kind<;>rw[hkb]at a d<;>simp[Di,f,g,i,e,l,a,d,eT,o,n,n3,bN,bA,cq,dF])
  (fun ok _=>by simp[Di]) ok trivial).1
 rw[tU (fun c:fD=>AL c.kind)]at key;simpa using key
theorem afd{a:Type}(g:Nat→a→Bool):∀(l:List a) (k:Nat) (b:Bool),dt (ρ:=Empty) (fun k y b=>.inl (b&&g k y)) l k b=.inl (b&&xL g l k)
 |[],k,b=>by rw[dt,xL,lL]
 |x::l,k,b=>by
  rw[dt,xL];simp only;rw[afd g l (k+1),kN]
theorem adv(t:cK)(H:t.keys.length≤8000)(E:t.af.length≤8000)(ok:Bool)(d:aq)(G:∀base σ m,fz false true base σ (m+3) d=d) :
  bT code 1 [5,6,14] ta ⟨AU t ok am (.aa false (t.af.map fD.a)) (ap t.af.length) d (aC false) (.aa false (t.keys.map (.int .i64))) (ap t.keys.length) (ap 0) am,[aB 3 0 [t.a]]⟩ =
   some (.ext 2,⟨AU t (ok&&xL (Og t.af.length t.keys) t.keys 0) am (.aa false (t.af.map fD.a)) (ap t.af.length) d (aC false) (.aa false (t.keys.map (.int .i64))) (ap t.keys.length) (ap t.keys.length) (aC false),[aB 3 0 [t.a]]⟩):=by
 have F:t.keys.length≤bD:=by unfold bD;omega
 have q:t.a=aH [aO t.name,.aa false (t.af.map fD.a),.aa false (t.keys.map (.int .i64))]:=rfl;have key:=iL (ρ:=Empty) (base:=1) (clr:=[5,6,14]) (b:=ta) t.keys (fun k ok=>⟨AU t ok am (.aa false (t.af.map fD.a)) (ap t.af.length) d (aC false) (.aa false (t.keys.map (.int .i64))) (ap t.keys.length) (ap k) am,[aB 3 0 [t.a]]⟩) (fun _ _=>True)
  (fun k y b=>.inl (b&&Og t.af.length t.keys k y))
  (fun ok=>(.ext 2,⟨AU t ok am (.aa false (t.af.map fD.a)) (ap t.af.length) d (aC false) (.aa false (t.keys.map (.int .i64))) (ap t.keys.length) (ap t.keys.length) (aC false),[aB 3 0 [t.a]]⟩)) (fun r _=>r.elim)
  (fun k y ok e f _=>by
   refine⟨?_,trivial⟩;have g:∀h:k<t.keys.length,t.keys[k]'h=y:=fun h=>(ak.1 f).2;have l:=cU e F;have B:IntKind.i64.wrap 1=1:=rfl;unfold Og;simp only[AU,q];by_cases n:0≤y
   ·by_cases p:y<(t.af.length:Int)
    ·by_cases o:k=0
     ·subst o;cases ok<;>simp[ta,e,f,g,B,l,n,p,bN]
     have A:((k:Int)==0)=false:=by simp;omega
     have j:(k==0)=false:=by simp[o]
     have a:k-1<t.keys.length:=by omega
     have c:t.keys[k-1]?=some (t.keys.getD (k-1) 0):=by rw[aS,au a];rfl
     have i:∀h:k-1<t.keys.length,t.keys[k-1]'h=t.keys.getD (k-1) 0:=fun h=>(ak.1 c).2;have C:IntKind.i64.wrap ((k:Int)-1)=(k:Int)-1:=pT (by omega) (by omega);have s:((k:Int)-1).toNat=k-1:=by omega
     have u:(0:Int)≤(k:Int)-1:=by omega
     have v:(1:Int)≤(k:Int):=by omega
     have w:(1:Nat)≤k:=by omega
     have x:(k:Int)-1<(t.keys.length:Int):=by omega
     generalize t.keys.getD (k-1) 0=z at *;by_cases D:z<y
     ·cases ok<;>simp[ta,e,f,g,l,n,p,o,A,j,a,c,i,C,s,u,v,w,x,D,bN]
     cases ok<;>simp[ta,e,f,g,l,n,p,o,A,j,a,c,i,C,s,u,v,w,x,D,bN]
    cases ok<;>simp[ta,e,f,g,B,l,n,p,bN]
   cases ok<;>simp[ta,e,f,g,l,n,bN])
  (fun ok _=>by simp[ta]) ok trivial
 rw[afd]at key;exact key.2
theorem Lc(t:cK)(x:t.keys.length≤8000)(f:t.af.length≤8000):bB I.qbc [t.a]=some (ap (if EL t then 0 else 211)):=by
 rw[aR ani rfl];have q:t.a=aH [aO t.name,.aa false (t.af.map fD.a),.aa false (t.keys.map (.int .i64))]:=rfl;have l:=nZ t.name;have s:=ajG false t.af f;have m:=ac2 t f;have n:=fun ok=>adv t x f ok (ap t.af.length) (by simp);unfold EL;have p:xL (fun k u=>C1 fD.name t.af k u&&iy u.name) t.af 0=xL (aig t.af) t.af 0:=rfl;rw[p]at s;simp only[AU,q]at m n ⊢;generalize xL (aig t.af) t.af 0=w at *;generalize (t.af.all fun c=>AL c.kind)=i at *;generalize xL (Og t.af.length t.keys) t.keys 0=j at *;generalize iy t.name=v at *;have a:=m false;have g:=m true;have b:=n false;have h:=n true;clear m n;cases v with
 |false=>cases i<;>cases j<;>simp at a b<;>simp[ar9,O7,l,a,b]
 |true=>
  by_cases o:1≤t.af.length
  ·have d:(1:Int)≤(t.af.length:Int):=by omega
   by_cases r:t.af.length≤4
   ·have e:(t.af.length:Int)≤4:=by omega
    cases w<;>cases i<;>cases j<;>simp at a b g h<;>simp[ar9,O7,l,s,o,d,r,e,a,b,g,h]
   have e:¬(t.af.length:Int)≤4:=by omega
   cases i<;>cases j<;>simp at a b<;>simp[ar9,O7,l,o,d,r,e,a,b]
  have d:¬(1:Int)≤(t.af.length:Int):=by omega
  cases i<;>cases j<;>simp at a b<;>simp[ar9,O7,l,o,d,a,b]
def Rg(c:List cK):Bool:=decide (c.length≤4)&&c.all EL&&xL (fun k t=>C1 cK.name c k t&&iy t.name) c 0
structure TA (t:cK):Prop where
 keys:t.keys.length≤8000
 af:t.af.length≤8000
theorem ZX(t:cK)(h:TA t):bB I.qbd [t.a]=some (aC (!EL t)):=by
 rw[aR anC rfl];have a:=Lc t h.keys h.af;have n3:aM t.a=3∧isAgg t.a=true:=⟨rfl,rfl⟩;have b:∀fl top base σ m,fz fl top base σ (m+3) t.a=t.a:=fun fl top base σ m=>Fx.fx fl top base σ m t;cases hb:EL t<;>rw[hb]at a<;>simp at a<;>simp[auu,afS,a,b,n3]
theorem So(c:List cK)(o:c.length≤8000)(h:∀t∈c,TA t):bB I.qbb [mC c]=some (ap (if Rg c then 0 else 210)):=by
 rw[aR aot rfl]
 have e:=sN (enc:=cK.a) (b:=false) (l:=c) (f:=.fn I.qbd [] []) (p:=fun t=>!EL t) (by unfold bD;omega) (fun _=>⟨rfl,rfl⟩) (fun σ=>by simp) (fun t q=>by
  have s:∀fl top base σ m,fz fl top base σ (m+3) t.a=t.a:=fun fl top base σ m=>Fx.fx fl top base σ m t;simp[ZX t (h t q),s])
 have i:=aiF false c o;have d:c.any (fun t=>!EL t)=!c.all EL:=by
  have:∀l:List cK,l.any (fun t=>!EL t)=!l.all EL:=fun l=>by
   induction l with
   |nil=>rfl
   |cons x l r=>rw[iF,r,lQ,Bool.not_and]
  exact this c
 rw[d]at e;unfold Rg;generalize xL (fun k t=>C1 cK.name c k t&&iy t.name) c 0=n at *;generalize c.all EL=j at *;by_cases g:c.length≤4
 ·have a:¬(4:Int)<(c.length:Int):=by omega
  cases j<;>cases n<;>simp at e i<;>simp[ats,X3,g,a,e,i]
 have a:(4:Int)<(c.length:Int):=by omega
 simp[ats,X3,g,a]


noncomputable def Nw(ns:List eO):Bool:=match bB I.qb [Q2 ns] with
 |some (.int .i64 e)=>e==0
 |_=>false
theorem UV(a:List eO)(f:a.length≤1300):∃e:Int,bB I.qb [Q2 a]=some (ap e)∧(e==0)=Nw a∧(Nw a=true→mu a):=by
 obtain⟨e,h,d⟩:=XF false a (by omega);have c:Nw a=(e==0):=by
  unfold Nw;rw[h]
 exact⟨e,h,c.symm,fun b=>d (by rw[c]at b;simpa using b)⟩
theorem Z2(a:List eO)(f:a.length≤1300):bB I.ql [Q2 a]=some (aC (!Nw a)):=by
 obtain⟨e,h,c,_⟩:=UV a f;rw[aR aqi rfl];have d:(e != 0)=!Nw a:=by rw[←c];rfl
 have b:(e=0)=(Nw a=true):=by rw[←c];simp
 simp[auj,amt,h,d,b]
theorem F8(b:Bool)(a:List eO)(c:a.length≤1300):bB I.qk [.aa b [Q2 a]]=some (aC (Nw a)):=by
 have h:=uG (enc:=Q2) (b:=b) (l:=[a]) (f:=.fn I.ql [] []) (p:=fun a=>!Nw a) (by simp;unfold bD;omega) (fun _=>⟨rfl,rfl⟩) (fun _=>rfl) (fun y d=>by
  rw[aP.1 d];simp[Z2 a c])
 simp only[aV,bm,iF,List.any_nil,oE]at h;rw[aR apX rfl];simp[atH,amS,h]
def sM(s:List UInt8):Bool:=s==[] ||iy s
theorem MS(s:List UInt8):bB I.qf [aO s]=some (aC (sM s)):=by
 have h:=nZ s;rw[aR anq rfl];unfold sM;cases s with
 |nil=>simp[arx,acU,eT]
 |cons a s=>simp[arx,acU,eT,h]
theorem O6(t a:List UInt8):bB I.qj [aH [aO t,aO a]]=some (aC (iy t&&sM a)):=by
 have h:=nZ t;have b:=MS a;rw[aR ap3 rfl];cases hn:iy t<;>rw[hn]at h<;>simp[aty,aov,h,b]
theorem JR(n:Int):bB I.qg [ap n]=some (aC (decide (0≤n)&&decide (n≤2147483647))):=by
 rw[aR apz rfl];by_cases h:0≤n<;>simp[arD,aou,h]
noncomputable def zr(x:pU):Bool:=Nw x.ns&&sM x.as'
noncomputable def AY(j:o7):Bool:=Nw j.on&&(iy j.table&&sM j.as')
def nmB(n:uV):Bool:=iy n.name&&sM n.table
noncomputable def xW(ns:List eO):Bool:=ns.length==0 ||Nw ns
abbrev qM(s:mL)(ok:Bool)(a9 a10 a11 a12 a13 a14 a15 a16 a17 a18 a19 a20 a21 a22 a23:aq):List aq:=[s.a,aI 0 0 0 0,aC false,aC ok,am,am,am,am,aC false,a9,a10,a11,a12,a13,a14,a15,a16,a17,a18,a19,a20,a21,a22,a23]
theorem abI(s:mL)(ok:Bool) :
  bT code 1 [4,12] IV ⟨qM s ok (.aa false ((s.items.getD []).map pU.a)) (ap (s.items.getD []).length) (ap 0) am am am am am am am am am am am am,[aB 9 0 [s.a]]⟩ =
   some (.ext 0,⟨qM s (ok&&(s.items.getD []).all zr) (.aa false ((s.items.getD []).map pU.a)) (ap (s.items.getD []).length) (ap (s.items.getD []).length) (aC false) am am am am am am am am am am am,[aB 9 0 [s.a]]⟩):=by
 have hi:=s.hi;have l:∀fl top base σ m,fz fl top base σ (m+3) s.a=s.a:=fun fl top base σ m=>Fx.fx fl top base σ m s;have n3:aM s.a=9:=rfl;generalize s.items.getD []=L at *;have j:L.length≤bD:=by unfold bD;omega
 have key:=(gL (base:=1) (clr:=[4,12]) (b:=IV) L (fun k ok=>⟨qM s ok (.aa false (L.map pU.a)) (ap L.length) (ap k) am am am am am am am am am am am am,[aB 9 0 [s.a]]⟩) (fun _ _=>True) (fun b c=>b&&zr c)
  (fun ok=>(.ext 0,⟨qM s ok (.aa false (L.map pU.a)) (ap L.length) (ap L.length) (aC false) am am am am am am am am am am am,[aB 9 0 [s.a]]⟩))
  (fun k c ok e g _=>by
   refine⟨?_,trivial⟩;have i:∀h:k<L.length,L[k]'h=c:=fun h=>(ak.1 g).2;have n:=cU e j;have a:c.a=aH [gN c.ns,aO c.as']:=rfl;have f:=F8 true c.ns c.h;have d:=MS c.as';cases ok<;>cases hkb:Nw c.ns<;>rw[hkb]at f<;>simp[IV,e,g,i,a,f,d,n,l,n3,bN,bA,cq,dF,zr,hkb])
  (fun ok _=>by simp[IV]) ok trivial).1
 rw[tU zr]at key;simpa using key
theorem Xy(s:mL)(ok:Bool)(a:List aq)(n0:Int) :
  bT code 1 [5,16] Iw ⟨qM s ok (.aa false a) (ap n0) (ap n0) (aC false) (.aa false (s.joins.map o7.a)) (ap s.joins.length) (ap 0) am am am am am am am am,[aB 9 0 [s.a]]⟩ =
   some (.ext 2,⟨qM s (ok&&s.joins.all AY) (.aa false a) (ap n0) (ap n0) (aC false) (.aa false (s.joins.map o7.a)) (ap s.joins.length) (ap s.joins.length) (aC false) am am am am am am am,[aB 9 0 [s.a]]⟩):=by
 have hi:=s.hj;have m1:∀fl top base σ m,fz fl top base σ (m+3) s.a=s.a:=fun fl top base σ m=>Fx.fx fl top base σ m s;have m3:aM s.a=9:=rfl;generalize s.joins=L at *;have l:L.length≤bD:=by unfold bD;omega
 have key:=(gL (base:=1) (clr:=[5,16]) (b:=Iw) L (fun k ok=>⟨qM s ok (.aa false a) (ap n0) (ap n0) (aC false) (.aa false (L.map o7.a)) (ap L.length) (ap k) am am am am am am am am,[aB 9 0 [s.a]]⟩) (fun _ _=>True) (fun b c=>b&&AY c)
  (fun ok=>(.ext 2,⟨qM s ok (.aa false a) (ap n0) (ap n0) (aC false) (.aa false (L.map o7.a)) (ap L.length) (ap L.length) (aC false) am am am am am am am,[aB 9 0 [s.a]]⟩))
  (fun k c ok f i _=>by
   refine⟨?_,trivial⟩;have j:∀h:k<L.length,L[k]'h=c:=fun h=>(ak.1 i).2;have n:=cU f l;have d:c.a=aH [aC c.left,aO c.table,aO c.as',gN c.on]:=rfl;have g:=F8 true c.on c.h;have e:=O6 c.table c.as';cases ok<;>cases hkb:Nw c.on<;>rw[hkb]at g<;>simp[Iw,f,i,j,d,g,e,n,m1,m3,bN,bA,cq,dF,AY,hkb])
  (fun ok _=>by simp[Iw]) ok trivial).1
 rw[tU AY]at key;simpa using key
theorem abe(s:mL)(ok:Bool)(d:List aq)(n0:Int)(e:List aq)(a:Int) :
  bT code 1 [6,20] HY ⟨qM s ok (.aa false d) (ap n0) (ap n0) (aC false) (.aa false e) (ap a) (ap a) (aC false) (.aa false ((s.group.getD []).map uV.a)) (ap (s.group.getD []).length) (ap 0) am am am am,[aB 9 0 [s.a]]⟩ =
   some (.ext 4,⟨qM s (ok&&(s.group.getD []).all nmB) (.aa false d) (ap n0) (ap n0) (aC false) (.aa false e) (ap a) (ap a) (aC false) (.aa false ((s.group.getD []).map uV.a)) (ap (s.group.getD []).length) (ap (s.group.getD []).length) (aC false) am am am,[aB 9 0 [s.a]]⟩):=by
 have hi:=s.hg;have m1:∀fl top base σ m,fz fl top base σ (m+3) s.a=s.a:=fun fl top base σ m=>Fx.fx fl top base σ m s;have m3:aM s.a=9:=rfl;generalize (s.group.getD [])=L at *;have o:L.length≤bD:=by unfold bD;omega
 have key:=(gL (base:=1) (clr:=[6,20]) (b:=HY) L (fun k ok=>⟨qM s ok (.aa false d) (ap n0) (ap n0) (aC false) (.aa false e) (ap a) (ap a) (aC false) (.aa false (L.map uV.a)) (ap L.length) (ap k) am am am am,[aB 9 0 [s.a]]⟩) (fun _ _=>True) (fun b c=>b&&nmB c)
  (fun ok=>(.ext 4,⟨qM s ok (.aa false d) (ap n0) (ap n0) (aC false) (.aa false e) (ap a) (ap a) (aC false) (.aa false (L.map uV.a)) (ap L.length) (ap L.length) (aC false) am am am,[aB 9 0 [s.a]]⟩))
  (fun k c ok i l _=>by
   refine⟨?_,trivial⟩;have n:∀h:k<L.length,L[k]'h=c:=fun h=>(ak.1 l).2;have p:=cU i o;have f:c.a=aH [aO c.table,aO c.name]:=rfl;have j:=nZ c.name;have g:=MS c.table;cases ok<;>cases hkb:iy c.name<;>rw[hkb]at j<;>simp[HY,i,l,n,f,j,g,p,m1,m3,bN,bA,cq,dF,nmB,hkb])
  (fun ok _=>by simp[HY]) ok trivial).1
 rw[tU nmB]at key;simpa using key
abbrev adP(s:mL):aq:=aH [.aa false ((s.whr.getD []).map eO.a),.aa false ((s.having.getD []).map eO.a)]
theorem aat(s:mL)(ok:Bool)(h i j:List aq)(n0 a b:Int) :
  bT code 1 [7,23] uH ⟨qM s ok (.aa false h) (ap n0) (ap n0) (aC false) (.aa false i) (ap a) (ap a) (aC false) (.aa false j) (ap b) (ap b) (aC false) (adP s) (ap 0) am,[aB 9 0 [s.a]]⟩ =
   some (.ext 6,⟨qM s (ok&&xW (s.whr.getD [])&&xW (s.having.getD [])) (.aa false h) (ap n0) (ap n0) (aC false) (.aa false i) (ap a) (ap a) (aC false) (.aa false j) (ap b) (ap b) (aC false) (adP s) (ap 2) (aC false),[aB 9 0 [s.a]]⟩):=by
 have n:=s.hw;have l:=s.hh;have m1:∀fl top base σ m,fz fl top base σ (m+3) s.a=s.a:=fun fl top base σ m=>Fx.fx fl top base σ m s;have m3:aM s.a=9:=rfl;have q:IntKind.i64.wrap 1=1:=rfl;have t:IntKind.i64.wrap 2=2:=rfl;have step:∀(c:List eO) (ok:Bool),c.length≤1300→∃d,d=(ok&&xW c)∧((c.length:Int)=0∧c.length=0∧c=[]∧d=ok∨((c.length:Int)≠0)∧c.length≠0∧c≠[]∧d=(ok&&Nw c)):=fun c ok B=>by
  refine⟨_,rfl,?_⟩;unfold xW;cases c with
  |nil=>left;simp
  |cons x r=>right;simp;omega
 have p:bB I.qk [.aa true [aH [.aa false ((s.whr.getD []).map eO.a)]]]=some (aC (Nw (s.whr.getD []))):=F8 true (s.whr.getD []) n;have o:bB I.qk [.aa true [aH [.aa false ((s.having.getD []).map eO.a)]]]=some (aC (Nw (s.having.getD []))):=F8 true (s.having.getD []) l;obtain⟨k1,w,u⟩:=step (s.whr.getD []) ok n;obtain⟨k2,y,v⟩:=step (s.having.getD []) k1 l;rw[←w,←y];simp only[adP];generalize s.whr.getD []=W at *;generalize s.having.getD []=V at *;have z:bT code 1 [7,23] uH ⟨qM s ok (.aa false h) (ap n0) (ap n0) (aC false) (.aa false i) (ap a) (ap a) (aC false) (.aa false j) (ap b) (ap b) (aC false) (aH [.aa false (W.map eO.a),.aa false (V.map eO.a)]) (ap 0) am,[aB 9 0 [s.a]]⟩ =
   bT code 1 [7,23] uH ⟨qM s k1 (.aa false h) (ap n0) (ap n0) (aC false) (.aa false i) (ap a) (ap a) (aC false) (.aa false j) (ap b) (ap b) (aC false) (aH [.aa false (W.map eO.a),.aa false (V.map eO.a)]) (ap 1) am,[aB 9 0 [s.a]]⟩:=by
  rw[aZ];rcases u with⟨e,f,k,g⟩|⟨e,f,k,g⟩
  ·subst g;cases k1<;>simp[uH,e,f,q,m1,m3,bN,bA,cq,dF]
  subst g;cases ok<;>cases hkb:Nw W<;>rw[hkb]at p<;>simp[uH,q,m1,m3,e,f,p,bN,bA,cq,dF]
 have A:bT code 1 [7,23] uH ⟨qM s k1 (.aa false h) (ap n0) (ap n0) (aC false) (.aa false i) (ap a) (ap a) (aC false) (.aa false j) (ap b) (ap b) (aC false) (aH [.aa false (W.map eO.a),.aa false (V.map eO.a)]) (ap 1) am,[aB 9 0 [s.a]]⟩ =
   bT code 1 [7,23] uH ⟨qM s k2 (.aa false h) (ap n0) (ap n0) (aC false) (.aa false i) (ap a) (ap a) (aC false) (.aa false j) (ap b) (ap b) (aC false) (aH [.aa false (W.map eO.a),.aa false (V.map eO.a)]) (ap 2) am,[aB 9 0 [s.a]]⟩:=by
  rw[aZ];rcases v with⟨e,f,k,g⟩|⟨e,f,k,g⟩
  ·subst g;cases k2<;>simp[uH,e,f,t,m1,m3,bN,bA,cq,dF]
  subst g;cases k1<;>cases hkb:Nw V<;>rw[hkb]at o<;>simp[uH,t,m1,m3,e,f,o,bN,bA,cq,dF]
 rw[z,A,aZ];simp[uH]
noncomputable def HA(s:mL):Bool:=(s.star==((s.items.getD []).length==0))&&(iy s.table&&sM s.as')&&(s.items.getD []).all zr&&s.joins.all AY&&(s.group.getD []).all nmB&&xW (s.whr.getD [])&&xW (s.having.getD [])
theorem VP(s:mL):bB I.qi [s.a]=some (aC (HA s)):=by
 rw[aR aps rfl];have A:∀fl top base σ m,fz fl top base σ (m+3) s.a=s.a:=fun fl top base σ m=>Fx.fx fl top base σ m s;have n3:aM s.a=9:=rfl;have w:=O6 s.table s.as';have hi:=s.hi;have z:=s.hj;have y:=s.hg;have x:s.a=aH [aC s.distinct,aC s.star,.aa false ((s.items.getD []).map pU.a),aO s.table,aO s.as',.aa false (s.joins.map o7.a),gN (s.whr.getD []),gN (s.having.getD []),.aa false ((s.group.getD []).map uV.a)]:=rfl;have r:¬(6:Int)<((s.items.getD []).length:Int):=by omega
 have t:¬(2:Int)<(s.joins.length:Int):=by omega
 have u:¬(3:Int)<((s.group.getD []).length:Int):=by omega
 have j:=abI s (iy s.table&&sM s.as');have i:=Xy s (iy s.table&&sM s.as'&&(s.items.getD []).all zr) ((s.items.getD []).map pU.a) (s.items.getD []).length;have h:=abe s (iy s.table&&sM s.as'&&(s.items.getD []).all zr&&s.joins.all AY) ((s.items.getD []).map pU.a) (s.items.getD []).length (s.joins.map o7.a) s.joins.length;have g:=aat s (iy s.table&&sM s.as'&&(s.items.getD []).all zr&&s.joins.all AY&&(s.group.getD []).all nmB) ((s.items.getD []).map pU.a) (s.joins.map o7.a) ((s.group.getD []).map uV.a) (s.items.getD []).length s.joins.length (s.group.getD []).length;have l:(((s.items.getD []).length:Int)==0)=((s.items.getD []).length==0):=by cases s.items.getD []<;>simp;omega
 unfold HA;simp only[qM,adP]at j i h g;rw[x]at j i h g ⊢;generalize v:(iy s.table&&sM s.as')=k at *;generalize b:(k&&(s.items.getD []).all zr)=n at *;generalize c:(n&&s.joins.all AY)=o at *;generalize d:(o&&(s.group.getD []).all nmB)=p at *;generalize e:(p&&xW (s.whr.getD [])&&xW (s.having.getD []))=q at *;have f:(s.star==((s.items.getD []).length==0)&&k&&(s.items.getD []).all zr&&s.joins.all AY&&(s.group.getD []).all nmB&&xW (s.whr.getD [])&&xW (s.having.getD []))=(s.star==((s.items.getD []).length==0)&&q):=by
  rw[←e,←d,←c,←b];simp only[kN]
 rw[f];cases hst:(s.star==((s.items.getD []).length==0)) with
 |false=>
  have a:(s.star==(((s.items.getD []).length:Int)==0))=false:=by rw[l];exact hst
  simp[asZ,ahW,a,-beq_eq_false_iff_ne]
 |true=>
  have a:(s.star==(((s.items.getD []).length:Int)==0))=true:=by rw[l];exact hst
  simp[asZ,ahW,a,r,t,u,w,j,i,h,g]
def Wp(n:Int):Bool:=decide (0≤n)&&decide (n≤2147483647)
def Qz(k:BZ):Bool:=(k.name==[]&&Wp k.number) ||(iy k.name&&k.number==0)
def Mw(n:Int):Bool:=n == -1 ||Wp n
noncomputable def R5(q:tX):Bool:=Mw q.limit&&(q.keys.getD []).all Qz&&q.sels.all HA
abbrev OM(q:tX)(ok:Bool)(a5 a6 a7 a8 a9:aq):List aq:=[q.a,aI 0 0 0 0,ap 0,aC ok,am,a5,a6,a7,a8,a9]
theorem acG(q:tX)(ok:Bool) :
  bT code 1 [4,8] Dw ⟨OM q ok (.aa false ((q.keys.getD []).map BZ.a)) (ap (q.keys.getD []).length) (ap 0) am am,[aB 3 0 [q.a]]⟩ =
   some (.ext 0,⟨OM q (ok&&(q.keys.getD []).all Qz) (.aa false ((q.keys.getD []).map BZ.a)) (ap (q.keys.getD []).length) (ap (q.keys.getD []).length) (aC false) am,[aB 3 0 [q.a]]⟩):=by
 have hi:=q.hk;have o:∀fl top base σ m,fz fl top base σ (m+3) q.a=q.a:=fun fl top base σ m=>by simp[tX.a]
 have n3:aM q.a=3:=rfl;generalize q.keys.getD []=L at *;have r:L.length≤bD:=by unfold bD;omega
 have key:=(gL (base:=1) (clr:=[4,8]) (b:=Dw) L (fun k ok=>⟨OM q ok (.aa false (L.map BZ.a)) (ap L.length) (ap k) am am,[aB 3 0 [q.a]]⟩) (fun _ _=>True) (fun b c=>b&&Qz c)
  (fun ok=>(.ext 0,⟨OM q ok (.aa false (L.map BZ.a)) (ap L.length) (ap L.length) (aC false) am,[aB 3 0 [q.a]]⟩))
  (fun k c ok f l _=>by
   refine⟨?_,trivial⟩;have n:∀h:k<L.length,L[k]'h=c:=fun h=>(ak.1 l).2;have p:=cU f r;have d:c.a=aH [aO c.name,ap c.number,aC c.desc]:=rfl;have j:=JR c.number;have e:=nZ c.name;have g:Qz c=((c.name==[]&&Wp c.number) ||(iy c.name&&c.number==0)):=rfl;rw[g];have i:(decide (0≤c.number)&&decide (c.number≤2147483647))=Wp c.number:=rfl;rw[i]at j;generalize Wp c.number=t at *;generalize iy c.name=nf at *;cases hc:c.name with
   |nil=>
    rw[hc]at e d;cases ok<;>cases t<;>cases nf<;>simp[Dw,f,l,n,d,j,e,eT,p,o,n3,bN,bA,cq,dF]
   |cons a s=>
    rw[hc]at e d;cases ok<;>cases nf<;>simp[Dw,f,l,n,d,j,e,eT,p,o,n3,bN,bA,cq,dF])
  (fun ok _=>by simp[Dw]) ok trivial).1
 rw[tU Qz]at key;simpa using key
theorem abs(s:mL):bB I.qc [s.a]=some (aC (!HA s)):=by
 have h:=VP s;rw[aR ap9 rfl];have a:s.a=aH [aC s.distinct,aC s.star,.aa false ((s.items.getD []).map pU.a),aO s.table,aO s.as',.aa false (s.joins.map o7.a),gN (s.whr.getD []),gN (s.having.getD []),.aa false ((s.group.getD []).map uV.a)]:=rfl;rw[a]at h ⊢;simp[arz,al7,h]
theorem Jk(q:tX):bB I.qa [q.a]=some (ap (if R5 q then 0 else 180)):=by
 have d:=acG q (Mw q.limit);have w:=q.hk;have E:=q.h1;have F:=q.h3
 have k:=rq (enc:=mL.a) (b:=false) (l:=q.sels) (f:=.fn I.qc [] []) (p:=fun s=>!HA s) (by unfold bD;omega) (fun _=>⟨rfl,rfl⟩) (fun _=>rfl) (fun y G=>by
  have C:fz true false 0 [] 20 y.a=y.a:=Fx.fx true false 0 [] 17 y;simp[abs y,C])
 have g:q.sels.any (fun s=>!HA s)=!q.sels.all HA:=by
  generalize q.sels=l;induction l with
  |nil=>rfl
  |cons x r B=>simp[iF,lQ,B]
 rw[g]at k;have z:=JR q.limit;have h:q.a=aH [.aa false (q.sels.map mL.a),.aa false ((q.keys.getD []).map BZ.a),ap q.limit]:=rfl;have o:(0:Int)<(q.sels.length:Int):=by omega
 have e:0<q.sels.length:=by omega
 have t:(q.sels.length:Int)≤3:=by omega
 have u:((q.keys.getD []).length:Int)≤3:=by omega
 rw[aR aqe rfl];simp only[OM]at d;have a:Mw q.limit=(q.limit == -1 ||(decide (0≤q.limit)&&decide (q.limit≤2147483647))):=rfl;have c:R5 q=(Mw q.limit&&(q.keys.getD []).all Qz&&q.sels.all HA):=rfl;rw[c];generalize A:(Mw q.limit&&(q.keys.getD []).all Qz)=i at *;generalize q.sels.all HA=v at *;rw[h]at d ⊢;clear c h;generalize q.limit=j at *;by_cases m:j=-1
 ·subst m;have a:Mw (-1)=true:=rfl;rw[a]at d;cases i<;>cases v<;>simp[arA,ah5,o,e,t,u,d,k]
 have n:(j == -1)=false:=by simpa using m
 rw[n,jG]at a;rw[a]at d;generalize (decide (0≤j)&&decide (j≤2147483647))=D at *;cases D<;>cases i<;>cases v<;>simp[arA,ah5,o,e,t,u,m,d,k,z]
structure kM where
 tag:Int
 arg:Option (List EN)
def kM.a(x:kM):aq:=aH [ap x.tag,sv (x.arg.map (·.map EN.a))]
structure fA where
 cat:List cK
 fr:mL
 tables:List Int
 joins:List JX
 whr:Option (List EN)
 having:Option (List EN)
 grouped:Bool
 distinct:Bool
 keys:List Int
 ah:List kM
 items:List (List EN)
 ac:List Int
 groups:List Int
 at':Int
 m1:List (aq×aq)
 m2:List (aq×aq)
 m3:List (aq×aq)
abbrev kA(n k:Nat):aq:=.sl n k 0 k
abbrev eD(l:List Int):List aq:=l.map (.int .i64)
abbrev iH(n:Nat)(S:fA):List aq:=[.aa false (S.cat.map cK.a),aC S.fr.distinct,aC S.fr.star,.aa false ((S.fr.items.getD []).map pU.a),aO S.fr.table,aO S.fr.as',.aa false (S.fr.joins.map o7.a),gN (S.fr.whr.getD []),gN (S.fr.having.getD []),.aa false ((S.fr.group.getD []).map uV.a),kA (n+4) S.tables.length,kA (n+5) S.joins.length,sv (S.whr.map (·.map EN.a)),sv (S.having.map (·.map EN.a)),aC S.grouped,aC S.distinct,kA (n+6) S.keys.length,kA (n+7) S.ah.length,kA (n+8) S.items.length,.mp n,.mp (n+1),.mp (n+2),kA (n+9) S.ac.length,kA (n+10) S.groups.length,ap S.at']
abbrev Bm(n:Nat)(S:fA):aw:=[.map S.m1,.map S.m2,.map S.m3,aB 25 0 [aH (iH n S)],aB 1 S.tables.length (eD S.tables),aB 2 S.joins.length (S.joins.map JX.a),aB 1 S.keys.length (eD S.keys),aB 2 S.ah.length (S.ah.map kM.a),aB 1 S.items.length (S.items.map jm),aB 1 S.ac.length (eD S.ac),aB 1 S.groups.length (eD S.groups)]
structure adO (σ:aw) (n:Nat) (m:List (aq×aq)) (K:Nat):Prop where
 ks:∀e∈m,∃s,e.1=aO s
 al:∀s,dz [] (aO s) m=some none∨∃(id:Nat) (l:List Int),dz [] (aO s) m=some (some (.sl id (l.length-1) 0 l.length))∧n+11≤id∧σ[id]?=some (aB 1 (l.length-1) (eD l))∧1≤l.length∧l.length≤K∧∀x∈l,0≤x∧x<K
 inj:∀s s' id e e' o o' k k',dz [] (aO s) m=some (some (.sl id e o k))→dz [] (aO s') m=some (some (.sl id e' o' k'))→s=s'
structure acg (m:List (aq×aq)) (K:Nat):Prop where
 ks:∀e∈m,∃t s,e.1=aH [aO t,aO s]
 bh:∀t s,dz [2,2] (aH [aO t,aO s]) m=some none∨∃x,dz [2,2] (aH [aO t,aO s]) m=some (some (ap x))∧0≤x∧x<K
structure al8 (m:List (aq×aq)):Prop where
 ks:∀e∈m,∃s,e.1=aO s
 cl:∀s,dz [] (aO s) m=some none∨dz [] (aO s) m=some (some (aC true))
structure ey (σ:aw) (n:Nat) (S:fA):Prop where
 called:al8 S.m1
 alone:adO σ n S.m2 S.ac.length
 behind:acg S.m3 S.ac.length
def SA(σ:aw)(n:Nat)(S:fA):Prop:=∃P J,P.length=n∧σ=P++(Bm n S++J)
structure Fr (n:Nat) (σ σ':aw):Prop where
 le:σ.length≤σ'.length
 kp:∀(i:Nat) (o:Obj),i<n∨n+11≤i→σ[i]?=some o→σ'[i]?=some o
theorem Fr.rfl'(n:Nat)(σ:aw):Fr n σ σ:=⟨aF _,fun _ _ _ h=>h⟩
theorem Fr.trans{n:Nat}{a b c:aw}(h:Fr n a b)(d:Fr n b c):Fr n a c:=⟨bH h.le d.le,fun i o hi e=>d.kp i o hi (h.kp i o hi e)⟩
theorem Fr.app(n:Nat)(σ X:aw):Fr n σ (σ++X):=⟨by simp,fun i o _ a=>by
 have:=(ak.1 a).1;rw[aQ this,a]⟩
theorem SA.app{σ:aw}{n:Nat}{S:fA}(h:SA σ n S)(X:aw):SA (σ++X) n S:=by
 obtain⟨P,J,a,b⟩:=h;exact⟨P,J++X,a,by rw[b];simp⟩
theorem SA.at3{σ:aw}{n:Nat}{S:fA}(h:SA σ n S)(X:aw):(σ++X)[n+3]?=some (aB 25 0 [aH (iH n S)]):=by
 obtain⟨P,J,rfl,rfl⟩:=h;simp
theorem SA.at0{σ:aw}{n:Nat}{S:fA}(h:SA σ n S)(X:aw):(σ++X)[n]?=some (.map S.m1):=by
 obtain⟨P,J,rfl,rfl⟩:=h;simp
theorem SA.at1{σ:aw}{n:Nat}{S:fA}(h:SA σ n S)(X:aw):(σ++X)[n+1]?=some (.map S.m2):=by
 obtain⟨P,J,rfl,rfl⟩:=h;simp
theorem SA.at2{σ:aw}{n:Nat}{S:fA}(h:SA σ n S)(X:aw):(σ++X)[n+2]?=some (.map S.m3):=by
 obtain⟨P,J,rfl,rfl⟩:=h;simp
theorem SA.at4{σ:aw}{n:Nat}{S:fA}(h:SA σ n S)(X:aw):(σ++X)[n+4]?=some (aB 1 S.tables.length (eD S.tables)):=by
 obtain⟨P,J,rfl,rfl⟩:=h;simp
theorem SA.at6{σ:aw}{n:Nat}{S:fA}(h:SA σ n S)(X:aw):(σ++X)[n+6]?=some (aB 1 S.keys.length (eD S.keys)):=by
 obtain⟨P,J,rfl,rfl⟩:=h;simp
theorem SA.at7{σ:aw}{n:Nat}{S:fA}(h:SA σ n S)(X:aw):(σ++X)[n+7]?=some (aB 2 S.ah.length (S.ah.map kM.a)):=by
 obtain⟨P,J,rfl,rfl⟩:=h;simp
theorem SA.at8{σ:aw}{n:Nat}{S:fA}(h:SA σ n S)(X:aw):(σ++X)[n+8]?=some (aB 1 S.items.length (S.items.map jm)):=by
 obtain⟨P,J,rfl,rfl⟩:=h;simp
theorem SA.at9{σ:aw}{n:Nat}{S:fA}(h:SA σ n S)(X:aw):(σ++X)[n+9]?=some (aB 1 S.ac.length (eD S.ac)):=by
 obtain⟨P,J,rfl,rfl⟩:=h;simp
theorem SA.at10{σ:aw}{n:Nat}{S:fA}(h:SA σ n S)(X:aw):(σ++X)[n+10]?=some (aB 1 S.groups.length (eD S.groups)):=by
 obtain⟨P,J,rfl,rfl⟩:=h;simp
theorem ey.app{σ:aw}{n:Nat}{S:fA}(h:ey σ n S)(X:aw):ey (σ++X) n S:=⟨h.called,⟨h.alone.ks,fun s=>(h.alone.al s).imp id fun ⟨id,l,b,c,a,d⟩=>⟨id,l,b,c,by
 rw[aQ (ak.1 a).1,a],d⟩,h.alone.inj⟩,h.behind⟩
theorem FO{σ:aw}{n:Nat}{S:fA}(h:SA σ n S)(k:ey σ n S)(t s:List UInt8) :
  ∃(x e:Int),cD code I.qae [aI (n+3) 0 0 0,aH [aO t,aO s]] σ=some (fb [ap x,ap e],σ++[aB 2 0 [aH [aO t,aO s]]])∧(e=0→0≤x∧x<S.ac.length):=by
 rw[cz anV rfl];have d:=h.at3;have f:=h.at1;have j:=h.at2;cases t with
 |cons c t=>
  rcases k.behind.bh (c::t) s with a|⟨x,a,g⟩
  ·exact⟨0,222,by simp[ar5,JN,eT,d,j,a],fun e=>by cases e⟩
  exact⟨x,0,by simp[ar5,JN,eT,d,j,a],fun _=>g⟩
 |nil=>
  rcases k.alone.al s with a|⟨id,l,a,hid,m,r,u,g⟩
  ·exact⟨0,222,by simp[ar5,JN,eT,d,f,a],fun e=>by cases e⟩
  have b:∀X,(σ++X)[id]?=some (aB 1 (l.length-1) (eD l)):=fun X=>by rw[aQ (ak.1 m).1,m]
  by_cases o:l.length=1
  ·obtain⟨x,rfl⟩:=kB.1 o;exact⟨x,0,by simp at a b;simp[ar5,JN,eT,d,f,a,b],fun _=>g x (by simp)⟩
  have p:¬(l.length:Int)=0:=by omega
  have q:¬(l.length:Int)=1:=by omega
  have i:¬l.length=0:=by omega
  exact⟨0,223,by simp[ar5,JN,eT,d,f,a,b,p,q,i,o],fun e=>by cases e⟩
theorem ey.fr{σ a:aw}{n:Nat}{S S':fA}(h:ey σ n S)(m:Fr n σ a)(g:S'.m1=S.m1)(j:S'.m2=S.m2)(k:S'.m3=S.m3)(c:S'.ac=S.ac):ey a n S':=by
 refine⟨?_,?_,?_⟩
 ·rw[g];exact h.called
 ·rw[j,c];exact⟨h.alone.ks,fun s=>(h.alone.al s).imp id fun ⟨i,l,d,b,e,f⟩=>⟨i,l,d,b,m.kp i _ (.inr b) e,f⟩,h.alone.inj⟩
 rw[k,c];exact h.behind
def kM.es(x:kM):List EN:=x.arg.getD []
def kM.x(g:kM):kU:=⟨g.tag,false,g.es⟩
def kM.z(g:kM):aq:=aH [ap g.tag,.aa false (g.es.map EN.a)]
theorem kM.fzz(g:kM)(base:Nat)(σ:aw)(m:Nat):fz true false base σ (m+4) g.a=g.z:=by
 obtain⟨t,o⟩:=g;cases o<;>simp[kM.a,kM.z,kM.es,sv]
structure wd (S:fA):Prop where
 kl:S.keys.length≤3
 kr:∀k∈S.keys,0≤k∧k<S.ac.length
 al:S.ah.length≤12
 ag:∀g∈S.ah,(Cz S.ac g.x).1=true
 ae:∀g∈S.ah,g.es.length≤1000
 gr:S.groups=S.keys.map (fun k=>S.ac.getD k.toNat 0)++S.ah.map (fun g=>vb S.ac g.x)
theorem aiv(x y:kM)(b:Bool)(g:x.es.length≤8000):bB I.qy [x.z,.cptr b y.z 0]=some (aC (x.tag==y.tag&&decide (x.es=y.es))):=by
 rw[aR ap2 rfl];have h:=To false false x.es y.es g;have a:=To true true x.es y.es g;have e:x.z=aH [ap x.tag,.aa false (x.es.map EN.a)]:=rfl;have f:y.z=aH [ap y.tag,.aa false (y.es.map EN.a)]:=rfl;rw[e,f];by_cases c:x.tag=y.tag
 ·cases b<;>simp[asT,aji,c,h,a]
 have d:(x.tag==y.tag)=false:=by simpa using c
 cases b<;>simp[asT,aji,c,d]
theorem kM.z_fz(g:kM)(fl top:Bool)(base:Nat)(σ:aw)(m:Nat):fz fl top base σ (m+3) g.z=g.z:=by
 unfold kM.z;simp
theorem kM.z_nc(g:kM):aM g.z=2∧isAgg g.z=true:=⟨rfl,rfl⟩
theorem kM.a_nc(g:kM):aM g.a=2∧isAgg g.a=true:=⟨rfl,rfl⟩
noncomputable def Dl(y:kM)(l:List kM):Int:=wc (fun x:kM=>x.tag==y.tag&&decide (x.es=y.es)) l
theorem acu(b a:Bool)(y:kM)(l:List kM)(j:l.length≤8000)(i:∀x∈l,x.es.length≤8000):bB I.qgv [.aa b (l.map kM.z),.fn I.qy [] [.cptr a y.z 0]]=some (ap (Dl y l)):=by
 refine yt (enc:=kM.z) (b:=b) (l:=l) (f:=.fn I.qy [] [.cptr a y.z 0]) (p:=fun x:kM=>x.tag==y.tag&&decide (x.es=y.es)) (by unfold bD;omega) (fun x=>x.z_nc) (fun τ=>?_) (fun x c=>?_)
 ·have:=fun base m=>y.z_fz true false base τ m;cases a<;>simp[this]
 have d:=aiv x y;have e:=fun fl top base σ m=>x.z_fz fl top base σ m;have g:=fun fl top base σ m=>y.z_fz fl top base σ m;have h:=y.z_nc;cases a<;>simp[d,e,g,h,i x c]
abbrev yd(σ:aw)(n:Nat)(a:kM)(e3 e4 k e6 e7 e8 e9 e10 e11:aq):List aq:=[aI (n+3) 0 0 0,a.a,aI σ.length 0 0 0,e3,e4,k,e6,e7,e8,e9,e10,e11,am,am]
abbrev i0:aq:=ap 0
theorem aiI{σ:aw}{n:Nat}{S:fA}(h:SA σ n S)(a:kM)(D:a.es.length≤1000)(F:1≤a.tag∧a.tag≤5)(z:a.tag=1→a.es=[])(E:S.ac.length≤8000) :
  (∃w x y m o,run code ei ⟨yd σ n a i0 i0 (ap 2) am am am am am am,σ++[aB 2 0 [a.a]]⟩=some (.nrm,⟨yd σ n a i0 i0 (ap (vb S.ac a.x)) w x am y m o,σ++[aB 2 0 [a.a]]⟩)∧(Cz S.ac a.x).1=true) ∨
  (∃env,run code ei ⟨yd σ n a i0 i0 (ap 2) am am am am am am,σ++[aB 2 0 [a.a]]⟩=some (.ret,⟨env,σ++[aB 2 0 [a.a]]⟩)∧env[3]?=some i0∧env[4]?=some (ap 201)):=by
 have g:=h.at3;have i:=h.at9;have r:a.x.tag=a.tag:=rfl;have s:a.x.arg=a.es:=rfl;unfold vb Cz;rw[r,s];have e:∀j,fz true false 0 j 19 (sv (a.arg.map (·.map EN.a)))=.aa false (a.es.map EN.a):=fun j=>by
  unfold kM.es;cases a.arg<;>simp[sv]
 have b:a.a=aH [ap a.tag,sv (a.arg.map (·.map EN.a))]:=rfl;have c:=vj (a.arg.map (·.map EN.a));have d:=fun v=>pK false a.es v S.ac (by unfold bD;omega) (by unfold bD;omega);rw[b];generalize sv (a.arg.map (·.map EN.a))=C at *;by_cases f:a.tag=1
 ·left;have A:=z f;refine⟨am,am,aC false,am,am,?_,by rw[if_pos f,A];rfl⟩;rw[if_pos (.inl f)];simp[ei,b,f,c]
 by_cases k2:(eG a.es S.ac).2=0
 ·have p:((eG a.es S.ac).2==0)=true:=by simpa using k2
  have q:a.tag=2∨a.tag=3∨a.tag=4∨a.tag=5:=by omega
  generalize eG a.es S.ac=K at *;obtain⟨u,B⟩:=K;simp only at k2 p;subst k2;rcases q with t|t|t|t
  ·left;refine⟨_,_,_,_,_,by simp[ei,b,t,c,g,i,e,d];exact⟨rfl,rfl,rfl,rfl,rfl⟩,?_⟩;rw[if_neg f];simp[t]
  ·by_cases k:u=2
   ·left;refine⟨_,_,_,_,_,by simp[ei,b,t,c,g,i,e,d,k];exact⟨rfl,rfl,rfl,rfl,rfl⟩,?_⟩;rw[if_neg f];simp[t,k]
   by_cases l:u=0
   ·left;refine⟨_,_,_,_,_,by simp[ei,b,t,c,g,i,e,d,k,l];exact⟨rfl,rfl,rfl,rfl,rfl⟩,?_⟩;rw[if_neg f];simp[t,l]
   right;refine⟨_,by simp[ei,b,t,c,g,i,e,d,k,l];rfl,rfl,rfl⟩
  ·left;refine⟨_,_,_,_,_,by simp[ei,b,t,c,g,i,e,d];exact⟨rfl,rfl,rfl,rfl,rfl⟩,?_⟩;rw[if_neg f];simp[t]
  left;refine⟨_,_,_,_,_,by simp[ei,b,t,c,g,i,e,d];exact⟨rfl,rfl,rfl,rfl,rfl⟩,?_⟩;rw[if_neg f];simp[t]
 right;refine⟨_,by simp[ei,b,f,c,g,i,e,d,k2];rfl,rfl,rfl⟩
theorem adN(y:kM)(l:List kM):Dl y l<l.length∧-1≤Dl y l:=by
 unfold Dl wc;split
 ·rename_i h;have:=bQ (cB.1 h);omega
 omega
def fA.agg(S:fA)(a:kM)(k:Int):fA:={ S with ah:=S.ah++[a],groups:=S.groups++[k] }
theorem Fr.sc{P J X:aw}{S S':fA}:Fr P.length (P++(Bm P.length S++J)) (P++(Bm P.length S'++(J++X))):=by
 refine⟨by simp,fun i o hi a=>?_⟩;rcases hi with hi|hi
 ·rw[aQ hi]at a ⊢;exact a
 have b:∀(T:fA) (K:aw),(P++(Bm P.length T++K))[i]?=K[i-P.length-11]?:=fun T K=>by
  rw[bC (by omega),bC (by simp;omega)];rfl
 rw[b]at a ⊢;have:=(ak.1 a).1;rw[aQ this,a]
theorem wd.agg{S:fA}(h:wd S){a:kM}(d:a.es.length≤1000)(c:(Cz S.ac a.x).1=true)(e:S.ah.length+1≤12):wd { S with ah:=S.ah++[a],groups:=S.groups++[vb S.ac a.x] }:=by
 refine⟨h.kl,h.kr,by simp;omega,?_,?_,?_⟩
 ·intro g b;rcases ba.1 b with b|b
  ·exact h.ag g b
  rw[aP.1 b];exact c
 ·intro g b;rcases ba.1 b with b|b
  ·exact h.ae g b
  rw[aP.1 b];exact d
 show S.groups++[vb S.ac a.x]=_;rw[h.gr];simp
theorem Pf{σ:aw}{n:Nat}{S:fA}(h:SA σ n S)(b:Int)(hi:-1≤b∧b≤100)(u:S.keys.length≤3)(t:S.ah.length≤100)(k l m o p q c d f:aq) :
  ∃(x e:Int) (env:List aq),run code (.seq gK gG) ⟨[aI (n+3) 0 0 0,k,l,i0,i0,m,o,p,ap b,q,c,d,f,am],σ⟩=some (.ret,⟨env,σ⟩)∧env[3]?=some (ap x)∧env[4]?=some (ap e)∧(e=0→S.ah.length≤12):=by
 have g:σ[n+3]?=some (aB 25 0 [aH (iH n S)]):=by simpa using h.at3 []
 have j:σ[n+6]?=some (aB 1 S.keys.length (eD S.keys)):=by simpa using h.at6 []
 have i:σ[n+7]?=some (aB 2 S.ah.length (S.ah.map kM.a)):=by simpa using h.at7 []
 by_cases r:S.ah.length≤12
 ·have a:¬(12:Int)<(S.ah.length:Int):=by omega
  have s:IntKind.i64.wrap ((S.keys.length:Int)+b)=(S.keys.length:Int)+b:=pT (by omega) (by omega);exact⟨(S.keys.length:Int)+b,0,_,by simp[gK,gG,nS,nU,g,j,i,a,s];rfl,rfl,rfl,fun _=>r⟩
 have a:(12:Int)<(S.ah.length:Int):=by omega
 exact⟨0,228,_,by simp[gK,gG,nS,nU,g,i,a];rfl,rfl,rfl,fun e=>by cases e⟩
theorem Xu{σ:aw}{n:Nat}{S:fA}(h:SA σ n S)(hM:ey σ n S)(p:wd S)(a:kM)(T:a.es.length≤1000)(ht:1≤a.tag∧a.tag≤5)(h1:a.tag=1→a.es=[])(hk:S.ac.length≤8000) :
  ∃(x e:Int) (r:aw) (A:List kM) (G:List Int),cD code I.qx [aI (n+3) 0 0 0,a.a] σ=some (fb [ap x,ap e],r)∧SA r n { S with ah:=S.ah++A,groups:=S.groups++G }∧Fr n σ r∧(e=0→wd { S with ah:=S.ah++A,groups:=S.groups++G }):=by
 rw[cz aph rfl];have W:=h.at3;have K:=aiI h a T ht h1 hk;have hb:arN.body=.seq nJ (.seq nX (.seq ei rT)):=rfl;have hn:[aq.ptr (n+3) 0 0 0,a.a].take arN.np++List.replicate (arN.nenv-arN.np) aq.any=[aI (n+3) 0 0 0,a.a,am,am,am,am,am,am,am,am,am,am,am,am]:=rfl;have q0:run code nJ ⟨[aI (n+3) 0 0 0,a.a,am,am,am,am,am,am,am,am,am,am,am,am],σ⟩=some (.nrm,⟨yd σ n a i0 i0 am am am am am am am,σ++[aB 2 0 [a.a]]⟩):=by
  have:=a.a_nc;simp[nJ,this]
 have q1:run code nX ⟨yd σ n a i0 i0 am am am am am am am,σ++[aB 2 0 [a.a]]⟩=some (.nrm,⟨yd σ n a i0 i0 (ap 2) am am am am am am,σ++[aB 2 0 [a.a]]⟩):=by
  simp[nX]
 rw[hb,hn,fy,q0,bW,fy,q1,bW,fy];rcases K with⟨k,l,o,c,d,L,H⟩|⟨env,L,h3,h4⟩
 rotate_left
 ·rw[L,Pm];exact⟨0,201,σ++[aB 2 0 [a.a]],[],[],by simp[arN,h3,h4],by simpa using h.app _,Fr.app _ _ _,fun e=>by cases e⟩
 rw[L,bW];have X:=h.at7;have ab:=p.al;have C:=fun b Y=>acu b Y a S.ah (by omega) (fun x hx=>by have:=p.ae x hx;omega);obtain⟨af,ag⟩:=adN a S.ah;have w:=fun (g:kM) base σ m=>g.fzz base σ m;have z:∀base σ m,(S.ah.map kM.a).map (fz true false base σ (m+4))=S.ah.map kM.z:=fun base σ m=>by
  rw[bU];exact aU fun y _=>y.fzz base σ m
 have u:List.take S.ah.length (S.ah.map kM.a)=S.ah.map kM.a:=ay (by simp);have s:=fun g:kM=>g.a_nc;have F:=fun g:kM=>g.z_nc;have q3:run code kF ⟨yd σ n a i0 i0 (ap (vb S.ac a.x)) k l am o c d,σ++[aB 2 0 [a.a]]⟩=some (.nrm,⟨yd σ n a i0 i0 (ap (vb S.ac a.x)) k l (ap (Dl a S.ah)) o c d,σ++[aB 2 0 [a.a]]⟩):=by
  generalize Dl a S.ah=N at *;simp[kF,W,X,C,w,u,z,s,F]
 have Z:rT=.seq kF (.seq gC (.seq gK gG)):=rfl;rw[Z,fy,q3,bW,fy];by_cases f:Dl a S.ah<0
 ·
  obtain⟨P,J,rfl,rfl⟩:=h;have E:S.ah.length+1≤bD:=by unfold bD;omega
  have ae:S.groups.length≤15:=by
   have:=p.gr;have:=p.kl;rw[p.gr];simp;omega
  have B:S.groups.length+1≤bD:=by unfold bD;omega
  have M:List.take S.groups.length (eD S.groups)=eD S.groups:=ay (by simp);have U:decide (Dl a S.ah<0)=true:=by simpa using f
  generalize Dl a S.ah=N at *;generalize D:vb S.ac a.x=i at *;have v:∃j,run code gC ⟨yd (P++(Bm P.length S++J)) P.length a i0 i0 (ap i) k l (ap N) o c d,P++(Bm P.length S++J)++[aB 2 0 [a.a]]⟩=some (.nrm,⟨(yd (P++(Bm P.length S++J)) P.length a i0 i0 (ap i) k l (ap S.ah.length) o c d).set 12 j,P++(Bm P.length (S.agg a i)++J++[aB 2 0 [a.a]])⟩):=by
   refine⟨aC true,?_⟩;simp[gC,f,s,E,B,u,M,append,fA.agg]
  obtain⟨j,v⟩:=v;rw[v,bW];have R:SA (P++(Bm P.length (S.agg a i)++J++[aB 2 0 [a.a]])) P.length (S.agg a i):=⟨P,J++[aB 2 0 [a.a]],rfl,by simp⟩;obtain⟨x,e,env,q,O,Q,V⟩:=Pf R S.ah.length ⟨by omega,by omega⟩ p.kl (by show (S.ah++[a]).length≤100;simp;omega) a.a (aI (P++(Bm P.length S++J)).length 0 0 0) (ap i) k l o c d j;have t:run code (.seq gK gG) ⟨(yd (P++(Bm P.length S++J)) P.length a i0 i0 (ap i) k l (ap S.ah.length) o c d).set 12 j,P++(Bm P.length (S.agg a i)++J++[aB 2 0 [a.a]])⟩=some (.ret,⟨env,P++(Bm P.length (S.agg a i)++J++[aB 2 0 [a.a]])⟩):=q;rw[t];refine⟨x,e,_,[a],[i],by simp[arN,O,Q],R,?_,fun he=>?_⟩
  ·rw[dy];exact Fr.sc
  have hl:(S.ah++[a]).length≤12:=V he;have:=p.agg T H (by simpa using hl);rw[D]at this;exact this
 have ad:decide (Dl a S.ah<0)=false:=by simpa using f
 obtain⟨x,e,env,q,O,Q,V⟩:=Pf (h.app [aB 2 0 [a.a]]) (Dl a S.ah) ⟨by omega,by omega⟩ p.kl (by omega) a.a (aI σ.length 0 0 0) (ap (vb S.ac a.x)) k l o c d (aC false);have v:run code gC ⟨yd σ n a i0 i0 (ap (vb S.ac a.x)) k l (ap (Dl a S.ah)) o c d,σ++[aB 2 0 [a.a]]⟩=some (.nrm,⟨[aI (n+3) 0 0 0,a.a,aI σ.length 0 0 0,i0,i0,ap (vb S.ac a.x),k,l,ap (Dl a S.ah),o,c,d,aC false,am],σ++[aB 2 0 [a.a]]⟩):=by
  generalize Dl a S.ah=N at *;simp[gC,f]
 rw[v,bW,q];exact⟨x,e,σ++[aB 2 0 [a.a]],[],[],by simp[arN,O,Q],by simpa using h.app [aB 2 0 [a.a]],Fr.app _ _ _,fun _=>by simpa using p⟩
abbrev IQ:aq:=.imap false [(ap 3,ap 1),(ap 8,ap 2),(ap 9,ap 3),(ap 10,ap 4),(ap 11,ap 5)]
theorem aaY:bB I.qt []=some IQ:=kQ (n:=20) (σ:=[]) (by kernel_rfl)
theorem Lt(root:EN):∃(es:List EN) (a:Int),bB I.qab [root.a]=some (fb [jm es,ap a])∧es.length≤1000∧(a=0→wk es=true):=by
 obtain⟨es,a,h,b,c⟩:=ahB root;refine⟨es,a,?_,b,c⟩;have d:root.a=aH [ap root.tag,ap root.l,ap root.r,ap root.col,ap root.v.k,ap root.v.n,.int .u64 root.v.u,aO root.v.s]:=rfl;rw[aR amT rfl];rw[d]at h ⊢;simp[aud,agl,h]
structure CL (σ:aw) (n:Nat) (ns:List eO) (j:Nat):Prop where
 ge:n+11≤j
 b3:σ[j]?=some (aB 1 0 [aI (n+3) 0 0 0])
 b4:σ[j+1]?=some (aB 1 0 [aH [.aa false (ns.map eO.a)]])
 b8:σ[j+3]?=some (aB 1 0 [IQ])
 b9:σ[j+4]?=some (aB 1 0 [.fn 100 [] []])
 b10:σ[j+5]?=some (aB 1 0 [.fn 103 [] [aI j 0 0 0]])
 b11:σ[j+6]?=some (aB 1 0 [.fn 82 [] [aI (j+1) 0 0 0,aI (j+4) 0 0 0,aI j 0 0 0,aI (j+3) 0 0 0,aI (j+6) 0 0 0,aI (j+5) 0 0 0]])
theorem CL.fr{σ b:aw}{n:Nat}{c:List eO}{j:Nat}(h:CL σ n c j)(a:Fr n σ b):CL b n c j:=by
 have d:=h.ge;exact⟨d,a.kp _ _ (.inr (by omega)) h.b3,a.kp _ _ (.inr (by omega)) h.b4,a.kp _ _ (.inr (by omega)) h.b8,a.kp _ _ (.inr (by omega)) h.b9,a.kp _ _ (.inr (by omega)) h.b10,a.kp _ _ (.inr (by omega)) h.b11⟩
theorem fu{σ:aw}{i:Nat}{o:Obj}(h:σ[i]?=some o)(X:aw):(σ++X)[i]?=some o:=by
 rw[aQ (ak.1 h).1,h]
theorem A9{σ:aw}{n:Nat}{S:fA}(h:SA σ n S){d:List eO}{j:Nat}(c:CL σ n d j)(g:Bool):cD code I.qac [aC g,aI j 0 0 0] σ=some (if g then kA (n+10) S.groups.length else kA (n+9) S.ac.length,σ):=by
 rw[cz anN rfl];have a:σ[n+3]?=some (aB 25 0 [aH (iH n S)]):=by simpa using h.at3 []
 have b:=c.b3;cases g<;>simp[auR,agR,a,b]
def pR(t:Int):Int:=if t=3 then 1 else if t=8 then 2 else if t=9 then 3 else if t=10 then 4 else if t=11 then 5 else 0
theorem QR(t:Int):0≤pR t∧pR t≤5:=by unfold pR;repeat' split<;>omega
theorem Ib{t:Int}(h:0<pR t):(pR t=1∧iD t=0)∨(2≤pR t∧iD t=1):=by
 unfold pR iD at *
 repeat' split at h
 all_goals (first|omega|(subst_vars;simp))
def HM(σ:aw)(n:Nat)(S:fA)(g:Bool)(r:Option (aq×aw)):Prop:=
 ∃(o:Option (List EN)) (e:Int) (σ':aw) (A:List kM) (G:List Int),r=some (fb [aH [sv (o.map (·.map EN.a))],ap e],σ')∧(o.getD []).length≤1000∧SA σ' n { S with ah:=S.ah++A,groups:=S.groups++G }∧Fr n σ σ'∧(g=false→A=[]∧G=[])∧(e=0→wd { S with ah:=S.ah++A,groups:=S.groups++G }∧o.isSome=true)
abbrev si(i:Nat)(g:Bool)(j:Nat):List aq:=[ap i,aC g,aI (j+1) 0 0 0,aI (j+4) 0 0 0,aI j 0 0 0,aI (j+3) 0 0 0,aI (j+6) 0 0 0,aI (j+5) 0 0 0]
theorem Zg{σ:aw}{n:Nat}{S:fA}{b:List eO}{j:Nat}(h:SA σ n S)(s:wd S)(m:CL σ n b j)(i:Nat)(a:eO)(hi:b[i]?=some a)(g:Bool)(t:a.tag=1):HM σ n S g (cD code I.qad (si i g j) σ):=by
 rw[cz YU rfl];have p:=fu m.b4;have q:=fu m.b9;have f:i<b.length:=(ak.1 hi).1;have e:(i:Int)<(b.length:Int):=by omega
 have d:∀h:i<b.length,b[i]'h=a:=fun h=>(ak.1 hi).2;have c:a.a=aH [ap a.tag,ap a.l,ap a.r,ap a.v.k,ap a.v.n,.int .u64 a.v.u,aO a.v.s,aO a.table,aO a.name]:=rfl;obtain⟨es,r,o,l,_⟩:=Lt ⟨1,0,0,0,a.v⟩;have k:(⟨1,0,0,0,a.v⟩:EN).a=aH [ap 1,ap 0,ap 0,ap 0,ap a.v.k,ap a.v.n,.int .u64 a.v.u,aO a.v.s]:=rfl;rw[k]at o;rw[t]at c;refine⟨some es,r,σ++[aB 1 0 [jm es],aB 9 0 [a.a]],[],[],?_,l,by simpa using h.app _,Fr.app _ _ _,fun _=>⟨rfl,rfl⟩,fun _=>⟨by simpa using s,rfl⟩⟩;simp[arG,B6,p,q,hi,f,e,d,c,o,sv]
theorem V3{σ:aw}{n:Nat}{S:fA}{s:List eO}{j:Nat}(h:SA σ n S)(L:ey σ n S)(E:wd S)(C:CL σ n s j)(i:Nat)(a:eO)(hi:s[i]?=some a)(g:Bool)(N:a.tag=2):HM σ n S g (cD code I.qad (si i g j) σ):=by
 rw[cz YU rfl];have z:=fu C.b4;have w:=fu C.b3;have A:=fu C.b9;have G:=h.at3;have H:=h.at6;have p:i<s.length:=(ak.1 hi).1;have o:(i:Int)<(s.length:Int):=by omega
 have l:∀h:i<s.length,s[i]'h=a:=fun h=>(ak.1 hi).2;have f:a.a=aH [ap a.tag,ap a.l,ap a.r,ap a.v.k,ap a.v.n,.int .u64 a.v.u,aO a.v.s,aO a.table,aO a.name]:=rfl;rw[N]at f;obtain⟨x,J,d,_⟩:=FO (h.app [aB 1 0 [aH [.ai]],aB 9 0 [a.a]]) (L.app _) a.table a.name;have k:=fun c:Int=>Lt ⟨2,0,0,c,zE⟩;have v:∀c:Int,(⟨2,0,0,c,zE⟩:EN).a=aH [ap 2,ap 0,ap 0,ap c,ap 0,ap 0,.int .u64 0,aO []]:=fun _=>rfl;have F:S.keys.length≤bD:=by have:=E.kl;unfold bD;omega
 have t:List.take S.keys.length (eD S.keys)=eD S.keys:=ay (by simp);have M:∀base σ m,(eD S.keys).map (fz true false base σ (m+1))=eD S.keys:=fun base σ m=>by
  rw[bU];exact aU fun y _=>by simp
 rw[f]at d;by_cases D:J=0
 ·subst D;cases g with
  |false=>
   obtain⟨es,B,u,r,_⟩:=k x;rw[v]at u;refine⟨some es,B,σ++[aB 1 0 [jm es],aB 9 0 [a.a],aB 2 0 [aH [aO a.table,aO a.name]]],[],[],?_,r,by simpa using h.app _,Fr.app _ _ _,fun _=>⟨rfl,rfl⟩,fun _=>⟨by simpa using E,rfl⟩⟩;simp[arG,B6,z,w,A,hi,p,o,l,f,d,u,sv]
  |true=>
   have q:=fun b=>Wb b S.keys x F;simp only[cV]at q;generalize wc (fun y=>x==y) S.keys=ix at *;by_cases K:ix<0
   ·refine⟨none,225,σ++[aB 1 0 [aH [.ai]],aB 9 0 [a.a],aB 2 0 [aH [aO a.table,aO a.name]]],[],[],?_,by simp,by simpa using h.app _,Fr.app _ _ _,fun _=>⟨rfl,rfl⟩,fun e=>by cases e⟩;simp[arG,B6,z,w,A,G,H,hi,p,o,l,f,d,t,q,K,sv]
   obtain⟨es,B,u,r,_⟩:=k ix;rw[v]at u;refine⟨some es,B,σ++[aB 1 0 [jm es],aB 9 0 [a.a],aB 2 0 [aH [aO a.table,aO a.name]]],[],[],?_,r,by simpa using h.app _,Fr.app _ _ _,fun _=>⟨rfl,rfl⟩,fun _=>⟨by simpa using E,rfl⟩⟩;simp[arG,B6,z,w,A,G,H,hi,p,o,l,f,d,t,q,K,u,sv]
 refine⟨none,J,σ++[aB 1 0 [aH [.ai]],aB 9 0 [a.a],aB 2 0 [aH [aO a.table,aO a.name]]],[],[],?_,by simp,by simpa using h.app _,Fr.app _ _ _,fun _=>⟨rfl,rfl⟩,fun e=>absurd e D⟩;simp[arG,B6,z,w,A,hi,p,o,l,f,d,D,sv]
theorem AF:B6=.seq lP pC:=rfl
theorem fv(base:Nat)(clr:List Nat)(s:St):bN base (9999::clr) s=⟨clear s.env (9999::clr),s.st⟩:=by
 unfold bN;rw[if_pos (.inr rfl)]
theorem SA.set{σ:aw}{n:Nat}{S:fA}(h:SA σ n S)(i:Nat)(o:Obj)(hi:n+11≤i):SA (σ.set i o) n S:=by
 obtain⟨P,J,rfl,rfl⟩:=h;refine⟨P,J.set (i-P.length-11) o,rfl,?_⟩;rw[fp _ _ (by omega),fp _ _ (by simp;omega)];rfl
theorem Fr.set{n:Nat}{σ τ:aw}(h:Fr n σ τ)(i:Nat)(o:Obj)(hi:σ.length≤i):Fr n σ (τ.set i o):=⟨by simpa using h.le,fun k p b a=>by
 have:=(ak.1 a).1;rw[aD (by omega)];exact h.kp k p b a⟩
abbrev oD(o:Option (List EN)):aq:=aH [sv (o.map (·.map EN.a))]
structure LS (σ:aw) (n:Nat) (S:fA) (nd:eO) (g:Bool) (τ:aw) (os:List (Option (List EN))) (A:List kM) (G:List Int):Prop where
 sa:SA τ n { S with ah:=S.ah++A,groups:=S.groups++G }
 fr:Fr n σ τ
 nog:g=false→A=[]∧G=[]
 gk:wd { S with ah:=S.ah++A,groups:=S.groups++G }
 b8:τ[σ.length]?=some (aB 1 0 [aH [.ai]])
 b10:τ[σ.length+1]?=some (aB 9 0 [nd.a])
 b14:τ[σ.length+2]?=some (aB 1 os.length (os.map oD))
 le:∀o∈os,(o.getD []).length≤1000
abbrev lpE(σ:aw)(i:Nat)(g:Bool)(j:Nat)(t:Int)(q:Nat)(l r:Int)(k:Int)(y9:aq):List aq:=[ap i,aC g,aI (j+1) 0 0 0,aI (j+4) 0 0 0,aI j 0 0 0,aI (j+3) 0 0 0,aI (j+6) 0 0 0,aI (j+5) 0 0 0,aI σ.length 0 0 0,y9,aI (σ.length+1) 0 0 0,am,am,ap t,.sl (σ.length+2) q 0 q,am,am,am,am,am,am,am,am,aC false,aC false,am,am,am,aH [ap l,ap r],ap k,am,am,am,am,am,am,am,am,am]
noncomputable abbrev PS(σ:aw)(i:Nat)(g:Bool)(j:Nat)(t:Int)(q:Nat)(l r:Int)(k:Int)(y9:aq)(τ:aw):Option (Ex×St):=bT code (σ.length+3) [9999,9,15,16,17,30,31,32] qJ ⟨lpE σ i g j t q l r k y9,τ⟩
def Zk(σ:aw)(n:Nat)(S:fA)(g:Bool)(r:Option (Ex×St)):Prop:=∃(o:Option (List EN)) (e:Int) (env:List aq) (τ:aw) (A:List kM) (G:List Int),r=some (.ret,⟨env,τ⟩)∧e≠0∧env[8]?=some (aI σ.length 0 0 0)∧env[9]?=some (ap e)∧τ[σ.length]?=some (aB 1 0 [oD o])∧(o.getD []).length≤1000∧SA τ n { S with ah:=S.ah++A,groups:=S.groups++G }∧Fr n σ τ∧(g=false→A=[]∧G=[])
theorem Zm{σ:aw}{n:Nat}{S:fA}{ns:List eO}{j:Nat}{V:eO}{τ:aw}{os:List (Option (List EN))}{A:List kM}{G:List Int}(g:Bool)(h:LS σ n S V g τ os A G)(hn:n+11≤σ.length)(hc:CL σ n ns j)(i:Nat)(t l r:Int)(k:Nat)(hk:k<2)(p:Nat)(L:(if k=0 then l else r)=(p:Int))(ho:os.length≤2)(U:aq)
  (ih:HM τ n { S with ah:=S.ah++A,groups:=S.groups++G } (g&&t==0) (cD code I.qad (si p (g&&t==0) j) τ)) :
  Zk σ n S g (PS σ i g j t os.length l r k U τ)∨∃(J:aw) (o:Option (List EN)) (W:List kM) (X:List Int),PS σ i g j t os.length l r k U τ=PS σ i g j t (os.length+1) l r (k+1:Nat) am J∧LS σ n S V g J (os++[o]) W X:=by
 obtain⟨o,e,τ1,N,O,c,C,v,f,R,z⟩:=ih;have s:g=false→A++N=[]∧G++O=[]:=fun w=>by
  have a:=h.nog w;have b:=R (by rw[w];rfl);simp[a,b]
 have d:=(hc.fr h.fr).b11;have M:¬((p:Int)<0):=by omega
 have K:=fu (f.kp _ _ (.inr (by omega)) h.b8);have P:=fu (f.kp _ _ (.inr (by omega)) h.b10);have u:=fu (f.kp _ _ (.inr (by omega)) h.b14);have m:=vj (o.map (·.map EN.a));simp only[dy]at v z;have l8:σ.length<(τ1++[Obj.arr 1 0 [oD o]]).length:=(ak.1 (K [Obj.arr 1 0 [oD o]])).1;have T:σ.length+2<(τ1++[Obj.arr 1 0 [oD o]]).length:=(ak.1 (u [Obj.arr 1 0 [oD o]])).1;have q:Fr n σ (τ1++[Obj.arr 1 0 [oD o]]):=(h.fr.trans f).trans (Fr.app _ _ _);unfold PS;have D:(k=0∧l=(p:Int))∨(k=1∧r=(p:Int)):=by
  by_cases w:k=0
  ·rw[if_pos w]at L;exact .inl ⟨w,L⟩
  rw[if_neg w]at L;exact .inr ⟨by omega,L⟩
 by_cases y:e=0
 ·right;refine⟨(τ1++[Obj.arr 1 0 [oD o]]).set (σ.length+2) (aB 1 (os.length+1) (os.map oD++[oD o])),o,A++N,G++O,?_,?_⟩
  ·subst y;have F:List.take os.length (os.map oD)=os.map oD:=ay (by simp);have B:os.length+1≤bD:=by unfold bD;omega
   have w1:IntKind.i64.wrap 1=1:=rfl;have w2:IntKind.i64.wrap 2=2:=rfl;rw[show oD o=aq.agg [sv (o.map (·.map EN.a))] from rfl];generalize sv (o.map (·.map EN.a))=ov at *;rw[aZ];rcases D with⟨rfl,rfl⟩|⟨rfl,rfl⟩
   ·cases g<;>simp only[ej,iR]at c<;>simp[qJ,d,M,c,m,u,append,F,B,w1,fv]
   cases g<;>simp only[ej,iR]at c<;>simp[qJ,d,M,c,m,u,append,F,B,w2,fv]
  have Q:n+11≤σ.length+2:=by omega
  refine⟨(v.app _).set _ _ Q,q.set _ _ (by omega),s,(z y).1,?_,?_,?_,?_⟩
  ·rw[aD (by omega)];exact K _
  ·rw[aD (by omega)];exact P _
  ·rw[aW T];simp
  intro x H;rcases ba.1 H with H|H
  ·exact h.le x H
  rw[aP.1 H];exact C
 left;have E:∃env,bT code (σ.length+3) [9999,9,15,16,17,30,31,32] qJ ⟨lpE σ i g j t os.length l r k U,τ⟩=some (.ret,⟨env,(τ1++[Obj.arr 1 0 [oD o]]).set σ.length (aB 1 0 [oD o])⟩)∧env[8]?=some (aI σ.length 0 0 0)∧env[9]?=some (ap e):=by
  rw[show oD o=aq.agg [sv (o.map (·.map EN.a))] from rfl];generalize sv (o.map (·.map EN.a))=ov at *;rcases D with⟨rfl,rfl⟩|⟨rfl,rfl⟩
  ·cases g<;>simp only[ej,iR]at c<;>(rw[aZ];exact⟨_,by simp[qJ,d,M,c,m,K,y];rfl,rfl,rfl⟩)
  cases g<;>simp only[ej,iR]at c<;>(rw[aZ];exact⟨_,by simp[qJ,d,M,c,m,K,y];rfl,rfl,rfl⟩)
 obtain⟨env,hr,Y,Z⟩:=E;exact⟨o,e,env,(τ1++[Obj.arr 1 0 [oD o]]).set σ.length (aB 1 0 [oD o]),A++N,G++O,hr,y,Y,Z,by rw[aW l8],C,(v.app _).set _ _ (by omega),q.set _ _ (by omega),s⟩
abbrev Kw(σ:aw)(i:Nat)(g:Bool)(j:Nat)(t:Int)(q:Nat)(y9 y15 y16 y17 y28 y29 y30 y31 y32:aq):List aq:=[ap i,aC g,aI (j+1) 0 0 0,aI (j+4) 0 0 0,aI j 0 0 0,aI (j+3) 0 0 0,aI (j+6) 0 0 0,aI (j+5) 0 0 0,aI σ.length 0 0 0,y9,aI (σ.length+1) 0 0 0,am,am,ap t,.sl (σ.length+2) q 0 q,y15,y16,y17,am,am,am,am,am,aC false,aC false,am,am,am,y28,y29,y30,y31,y32,am,am,am,am,am,am]
theorem SM{σ:aw}(i:Nat)(g:Bool)(j:Nat)(t:Int)(q:Nat)(l r:Int)(k:Nat)(o:k=2∨(k=0∧l=-1)∨(k=1∧r=-1))(n:aq)(τ:aw) :
  ∃a b c d e f h m,PS σ i g j t q l r k n τ=some (.ext 0,⟨Kw σ i g j t q n a b c d e f h m,τ⟩):=by
 unfold PS;rcases o with rfl|⟨rfl,rfl⟩|⟨rfl,rfl⟩
 ·rw[aZ];exact⟨am,am,am,aH [ap l,ap r],ap 2,aC false,am,am,by simp[qJ]⟩
 ·rw[aZ];exact⟨ap (-1),am,am,aH [ap (-1),ap r],ap 0,aC true,aC true,am,by simp[qJ]⟩
 rw[aZ];exact⟨ap (-1),am,am,aH [ap l,ap (-1)],ap 1,aC true,aC true,am,by simp[qJ]⟩
def abm(n:Nat)(ns:List eO)(j i:Nat)(S:fA):Prop:=∀(p:Nat),p<i→∀(g:Bool) (τ:aw) (A:List kM) (G:List Int),SA τ n { S with ah:=S.ah++A,groups:=S.groups++G }→ey τ n { S with ah:=S.ah++A,groups:=S.groups++G }→wd { S with ah:=S.ah++A,groups:=S.groups++G }→CL τ n ns j→HM τ n { S with ah:=S.ah++A,groups:=S.groups++G } g (cD code I.qad (si p g j) τ)
theorem aib{σ:aw}{n:Nat}{S:fA}{P:List eO}{j:Nat}{a:eO}{τ:aw}(g:Bool)(h:LS σ n S a g τ [] [] [])(X:ey σ n S)(Y:n+11≤σ.length)(L:CL σ n P j)(i:Nat)(t:Int)(I:El i a)(s:aq)(Z:abm n P j i S) :
  Zk σ n S g (PS σ i g j t 0 a.l a.r 0 s τ)∨∃(u:aw) (os:List (Option (List EN))) (A:List kM) (G:List Int) (z9 b c d e f l m q:aq),PS σ i g j t 0 a.l a.r 0 s τ=some (.ext 0,⟨Kw σ i g j t os.length z9 b c d e f l m q,u⟩)∧LS σ n S a g u os A G∧(os.length:Int)=iD a.tag:=by
 have F:∀{τ:aw} {os:List (Option (List EN))} {A:List kM} {G:List Int} (h:LS σ n S a g τ os A G) (k:Nat) (M:k<2) (p:Nat) (r:p<i) (O:(if k=0 then a.l else a.r)=(p:Int)) (N:os.length≤2) (s:aq),
   Zk σ n S g (PS σ i g j t os.length a.l a.r k s τ)∨∃(u:aw) (o:Option (List EN)) (Q:List kM) (T:List Int),PS σ i g j t os.length a.l a.r k s τ=PS σ i g j t (os.length+1) a.l a.r (k+1:Nat) am u∧LS σ n S a g u (os++[o]) Q T:=
  fun h k M p r O N s=>Zm g h Y L i t a.l a.r k M p O N s (Z p r _ _ _ _ h.sa (X.fr h.fr rfl rfl rfl rfl) h.gk (L.fr h.fr))
 rcases I with⟨v,y,D⟩|⟨v,⟨p,y,r⟩,D⟩|⟨v,⟨p,y,r⟩,⟨p2,D,z⟩⟩
 ·right;obtain⟨b,c,d,e,f,l,m,q,x⟩:=SM (σ:=σ) i g j t 0 a.l a.r 0 (.inr (.inl ⟨rfl,y⟩)) s τ;exact⟨τ,[],[],[],s,b,c,d,e,f,l,m,q,x,h,by rw[v];rfl⟩
 ·rcases F h 0 (by omega) p r y (by simp) s with w|⟨τ1,E,J,K,C,H⟩
  ·exact .inl w
  right;obtain⟨b,c,d,e,f,l,m,q,x⟩:=SM (σ:=σ) i g j t 1 a.l a.r 1 (.inr (.inr ⟨rfl,D⟩)) am τ1;exact⟨τ1,[E],J,K,am,b,c,d,e,f,l,m,q,Eq.trans C x,H,by rw[v];rfl⟩
 rcases F h 0 (by omega) p r y (by simp) s with w|⟨τ1,E,J,K,C,H⟩
 ·exact .inl w
 rcases F H 1 (by omega) p2 z D (by simp) am with w|⟨B,o2,R,U,V,W⟩
 ·left;have:PS σ i g j t 0 a.l a.r 0 s τ=PS σ i g j t ([]++[E]).length a.l a.r (1:Nat) am τ1:=C;rw[this];exact w
 right;obtain⟨b,c,d,e,f,l,m,q,x⟩:=SM (σ:=σ) i g j t 2 a.l a.r 2 (.inl rfl) am B;exact⟨B,[E,o2],R,U,am,b,c,d,e,f,l,m,q,Eq.trans (Eq.trans C V) x,W,by rw[v];rfl⟩
def FR(σ:aw)(n:Nat)(S:fA)(g:Bool)(r:Option (Ex×St)):Prop:=∃(o:Option (List EN)) (e:Int) (env:List aq) (τ:aw) (A:List kM) (G:List Int),r=some (.ret,⟨env,τ⟩)∧env[8]?=some (aI σ.length 0 0 0)∧env[9]?=some (ap e)∧τ[σ.length]?=some (aB 1 0 [oD o])∧(o.getD []).length≤1000∧SA τ n { S with ah:=S.ah++A,groups:=S.groups++G }∧Fr n σ τ∧(g=false→A=[]∧G=[])∧(e=0→wd { S with ah:=S.ah++A,groups:=S.groups++G }∧o.isSome=true)
theorem Zt{σ:aw}{n:Nat}{S:fA}{j:Nat}{w:eO}{τ:aw}{os:List (Option (List EN))}{A:List kM}{G:List Int}(h:LS σ n S w false τ os A G)(s:n+11≤σ.length)(i:Nat)(t:Int)(u:0<t)(p a b c d f g k l:aq) :
  FR σ n S false (run code bv ⟨Kw σ i false j t os.length p a b c d f g k l,τ⟩):=by
 have o:=h.b8;have v:=(ak.1 o).1;have m:∃env,run code bv ⟨Kw σ i false j t os.length p a b c d f g k l,τ⟩=some (.ret,⟨env,τ.set σ.length (aB 1 0 [aH [.ai]])⟩)∧env[8]?=some (aI σ.length 0 0 0)∧env[9]?=some (ap 224):=
  ⟨_,by simp[bv,dC,u,o];rfl,rfl,rfl⟩
 obtain⟨env,m,q,r⟩:=m;exact⟨none,224,env,_,A,G,m,q,r,by rw[aW v];rfl,by simp,h.sa.set _ _ s,h.fr.set _ _ (aF _),h.nog,fun e=>by cases e⟩
theorem ajx{σ:aw}{n:Nat}{S:fA}{ns:List eO}{j:Nat}{nd:eO}{τ:aw}{os:List (Option (List EN))}{A:List kM}{G:List Int}(h:LS σ n S nd true τ os A G)(hM:ey σ n S)(hk:S.ac.length≤8000)(hn:n+11≤σ.length)(hc:CL σ n ns j)(i:Nat)(t:Int)(ht:1≤t∧t≤5)(hq:os.length≤1)(T:t=1→os=[])(F g k l m p q s u:aq) :
  FR σ n S true (run code bv ⟨Kw σ i true j t os.length F g k l m p q s u,τ⟩):=by
 have b8:=fu h.b8;have b:=fu h.b14;have H:=fu (hc.fr h.fr).b3;have w:0<t:=by omega
 have N:(os.headD none).getD []=[]∨(os.headD none).getD []∈os.map (·.getD []):=by
  cases os with
  |nil=>left;rfl
  |cons o r=>right;simp
 have M:(kM.mk t (os.headD none)).es.length≤1000:=by
  rcases N with K|K
  ·show ((os.headD none).getD []).length≤1000;rw[K];simp
  obtain⟨o,ho,B⟩:=bM.1 K;show ((os.headD none).getD []).length≤1000;rw[←B];exact h.le o ho
 obtain⟨x,e,τ1,W,X,a,z,D,E⟩:=Xu (h.sa.app [aB 2 0 [(kM.mk t (os.headD none)).a]]) ((hM.fr h.fr rfl rfl rfl rfl:ey τ n { S with ah:=S.ah++A,groups:=S.groups++G }).app _) h.gk (kM.mk t (os.headD none)) M ht (fun e=>by rw[show os=[] from T e];rfl) hk;have L:(kM.mk t (os.headD none)).a=aH [ap t,sv ((os.headD none).map (·.map EN.a))]:=rfl;rw[L]at a D;simp only[dy]at z E;have d:Fr n τ τ1:=(Fr.app _ _ _).trans D;have f:Fr n σ τ1:=h.fr.trans d;have f8:=fu (d.kp _ _ (.inr (by omega)) h.b8);have c:=d.kp _ _ (.inr (by omega)) h.b8;have Z:=(hc.fr f).b9;have l8:=(ak.1 c).1;have v:=vj ((os.headD none).map (·.map EN.a));have U:∀(P:Option (Ex×St)→Prop),P (run code bv ⟨Kw σ i true j t os.length F g k l m p q s u,τ⟩)→P (run code bv ⟨Kw σ i true j t os.length F g k l m p q s u,τ⟩):=fun _ h=>h;by_cases B:e=0
 ·subst B;obtain⟨es,Y,O,R,_⟩:=Lt ⟨2,0,0,x,zE⟩;have Q:(⟨2,0,0,x,zE⟩:EN).a=aH [ap 2,ap 0,ap 0,ap x,ap 0,ap 0,.int .u64 0,aO []]:=rfl;rw[Q]at O;have y:∃env,run code bv ⟨Kw σ i true j t os.length F g k l m p q s u,τ⟩=some (.ret,⟨env,τ1.set σ.length (aB 1 0 [jm es])⟩)∧env[8]?=some (aI σ.length 0 0 0)∧env[9]?=some (ap Y):=by
   rcases os with _|⟨V,_|⟨o2,r⟩⟩
   ·simp only[List.headD_nil,Option.map_none,sv]at a;simp only[bm,bE]at b;exact⟨_,by simp[bv,dC,w,H,b,a,Z,c,O];rfl,rfl,rfl⟩
   ·simp only[List.headD_cons]at a v;simp only[aV,bm,oD,bw,bE]at b;generalize sv (V.map (·.map EN.a))=ov at *;exact⟨_,by simp[bv,dC,w,H,b,a,v,Z,c,O];rfl,rfl,rfl⟩
   simp at hq
  obtain⟨env,y,I,J⟩:=y;exact⟨some es,Y,env,_,A++W,G++X,y,I,J,by rw[aW l8];rfl,R,z.set _ _ hn,f.set _ _ (aF _),(fun C=>by cases C),fun _=>⟨E rfl,rfl⟩⟩
 have y:∃env,run code bv ⟨Kw σ i true j t os.length F g k l m p q s u,τ⟩=some (.ret,⟨env,τ1.set σ.length (aB 1 0 [aH [.ai]])⟩)∧env[8]?=some (aI σ.length 0 0 0)∧env[9]?=some (ap e):=by
  rcases os with _|⟨V,_|⟨o2,r⟩⟩
  ·simp only[List.headD_nil,Option.map_none,sv]at a;simp only[bm,bE]at b;exact⟨_,by simp[bv,dC,w,H,b,a,c,B];rfl,rfl,rfl⟩
  ·simp only[List.headD_cons]at a v;simp only[aV,bm,oD,bw,bE]at b;generalize sv (V.map (·.map EN.a))=ov at *;exact⟨_,by simp[bv,dC,w,H,b,a,v,c,B];rfl,rfl,rfl⟩
  simp at hq
 obtain⟨env,y,I,J⟩:=y;exact⟨none,e,env,_,A++W,G++X,y,I,J,by rw[aW l8];rfl,by simp,z.set _ _ hn,f.set _ _ (aF _),(fun C=>by cases C),fun C=>absurd C B⟩
theorem WR{σ:aw}{n:Nat}{S:fA}{ns:List eO}{j:Nat}{f:eO}{τ:aw}(z:Option (List EN)){A:List kM}{G:List Int}(g:Bool)(h:LS σ n S f g τ [z] A G)(hk:S.ac.length≤8000)(hn:n+11≤σ.length)(hc:CL σ n ns j)(i:Nat)(V o p q r s t u v:aq) :
  FR σ n S g (run code bv ⟨Kw σ i g j 0 1 V o p q r s t u v,τ⟩):=by
 have W:=fu h.b8;have w:=fu h.b10;have b:=h.b10;have x:=fu h.b14;have c:=h.b14;have Z:=fu (hc.fr h.fr).b10;have R:=h.le z (by simp);have ad:f.a=aH [ap f.tag,ap f.l,ap f.r,ap f.v.k,ap f.v.n,.int .u64 f.v.u,aO f.v.s,aO f.table,aO f.name]:=rfl;rw[ad]at w b;obtain⟨a,D,h1,l1,_⟩:=agQ f.tag (z.getD []) R;have l:∀base σ m,fz true false base σ (m+4) (sv (z.map (·.map EN.a)))=.aa false ((z.getD []).map EN.a):=fun base σ m=>by cases z<;>simp[sv]
 have k:=vj (z.map (·.map EN.a));have ab:S.groups.length+G.length≤8000:=by
  have:=h.gk.gr;have a1:=h.gk.kl;have a2:=h.gk.al;have a3:({ S with ah:=S.ah++A,groups:=S.groups++G }:fA).groups.length=S.groups.length+G.length:=by simp
  rw[←a3,this];simp at a1 a2 ⊢;omega
 simp only[aV,bm,oD,bw,bE]at x c;have Q:=fun J (kk:List Int) (ae:kk.length≤8000)=>pK false a J kk (by unfold bD;omega) (by unfold bD;omega);have T:∀(e:Int) (d:aw),d[σ.length]?=some (aB 1 0 [jm a])→SA d n { S with ah:=S.ah++A,groups:=S.groups++G }→Fr n σ d→∀env:List aq,env[8]?=some (aI σ.length 0 0 0)→env[9]?=some (ap e)→run code bv ⟨Kw σ i g j 0 1 V o p q r s t u v,τ⟩=some (.ret,⟨env,d⟩)→FR σ n S g (run code bv ⟨Kw σ i g j 0 1 V o p q r s t u v,τ⟩):=
  fun e d hb hs hf env L M y=>⟨some a,e,env,d,A,G,y,L,M,hb,l1,hs,hf,h.nog,fun _=>⟨h.gk,rfl⟩⟩
 have aj:σ.length<(τ++[Obj.arr 1 0 [jm a]]).length:=(ak.1 (W [Obj.arr 1 0 [jm a]])).1;have N:((τ++[Obj.arr 1 0 [jm a]]).set σ.length (aB 1 0 [jm a]))[σ.length]?=some (aB 1 0 [jm a]):=by rw[aW aj]
 have U:SA ((τ++[Obj.arr 1 0 [jm a]]).set σ.length (aB 1 0 [jm a])) n { S with ah:=S.ah++A,groups:=S.groups++G }:=(h.sa.app _).set _ _ hn;have O:Fr n σ ((τ++[Obj.arr 1 0 [jm a]]).set σ.length (aB 1 0 [jm a])):=(h.fr.trans (Fr.app _ _ _)).set _ _ (aF _);obtain⟨B,E⟩:∃B,B=S.groups++G:=⟨_,rfl⟩;have H:∀X,cD code I.qac [aC g,aI j 0 0 0] (τ++X)=some (if g then kA (n+10) B.length else kA (n+9) S.ac.length,τ++X):=fun X=>by
  rw[E];exact A9 (h.sa.app X) ((hc.fr h.fr).fr (Fr.app n τ X)) g
 have Y:∀X,(τ++X)[n+9]?=some (aB 1 S.ac.length (eD S.ac)):=h.sa.at9;have C:∀X,(τ++X)[n+10]?=some (aB 1 B.length (eD B)):=by rw[E];exact h.sa.at10
 have P:B.length≤8000:=by rw[E];simpa using ab
 by_cases he:D=0
 ·subst he;have y:∃(env:List aq) (e:Int),run code bv ⟨Kw σ i g j 0 1 V o p q r s t u v,τ⟩=some (.ret,⟨env,(τ++[Obj.arr 1 0 [jm a]]).set σ.length (aB 1 0 [jm a])⟩)∧env[8]?=some (aI σ.length 0 0 0)∧env[9]?=some (ap e):=by
   generalize sv (z.map (·.map EN.a))=ov at *;cases g with
   |false=>
    have F:=fun J=>Q J S.ac hk;generalize eG a S.ac=K at *;exact⟨_,K.2,by simp[bv,fF,fE,fq,fj,fh,dC,fG,fH,fw,fg,w,b,x,c,Z,W,h1,l,k,H,Y,C,F];rfl,rfl,rfl⟩
   |true=>
    have F:=fun J=>Q J B P;generalize eG a B=K at *;exact⟨_,K.2,by simp[bv,fF,fE,fq,fj,fh,dC,fG,fH,fw,fg,w,b,x,c,Z,W,h1,l,k,H,Y,C,F];rfl,rfl,rfl⟩
  obtain⟨env,e,y,L,M⟩:=y;exact T e _ N U O env L M y
 have y:∃(env:List aq),run code bv ⟨Kw σ i g j 0 1 V o p q r s t u v,τ⟩=some (.ret,⟨env,(τ++[Obj.arr 1 0 [jm a]]).set σ.length (aB 1 0 [jm a])⟩)∧env[8]?=some (aI σ.length 0 0 0)∧env[9]?=some (ap D):=by
  generalize sv (z.map (·.map EN.a))=ov at *;exact⟨_,by simp[bv,fF,fE,fq,fj,fh,dC,fG,fH,fw,fg,w,b,x,c,Z,W,h1,l,k,H,Y,C,he];rfl,rfl,rfl⟩
 obtain⟨env,y,L,M⟩:=y;exact T D _ N U O env L M y
theorem Wc{σ:aw}{n:Nat}{S:fA}{ns:List eO}{j:Nat}{d:eO}{τ:aw}(y D:Option (List EN)){A:List kM}{G:List Int}(g:Bool)(h:LS σ n S d g τ [y,D] A G)(hk:S.ac.length≤8000)(hn:n+11≤σ.length)(hc:CL σ n ns j)(i:Nat)(y9 q r s t u v w x:aq) :
  FR σ n S g (run code bv ⟨Kw σ i g j 0 2 y9 q r s t u v w x,τ⟩):=by
 have b8:=fu h.b8;have z:=fu h.b10;have b:=h.b10;have B:=fu h.b14;have c:=h.b14;have b7:=fu (hc.fr h.fr).b10;have F:=h.le y (by simp);have W:=h.le D (by simp);have ad:d.a=aH [ap d.tag,ap d.l,ap d.r,ap d.v.k,ap d.v.n,.int .u64 d.v.u,aO d.v.s,aO d.table,aO d.name]:=rfl;rw[ad]at z b;obtain⟨ag,af,h1,l1,_⟩:=agQ d.tag (y.getD []) F;obtain⟨a,J,h2,l2,_⟩:=aoe d.tag (y.getD []) (D.getD []) F W;have o:∀base σ m,fz true false base σ (m+4) (sv (y.map (·.map EN.a)))=.aa false ((y.getD []).map EN.a):=fun base σ m=>by cases y<;>simp[sv]
 have k:=vj (y.map (·.map EN.a));have p:∀base σ m,fz true false base σ (m+4) (sv (D.map (·.map EN.a)))=.aa false ((D.getD []).map EN.a):=fun base σ m=>by cases D<;>simp[sv]
 have l:=vj (D.map (·.map EN.a));have ab:S.groups.length+G.length≤8000:=by
  have:=h.gk.gr;have a1:=h.gk.kl;have a2:=h.gk.al;have a3:({ S with ah:=S.ah++A,groups:=S.groups++G }:fA).groups.length=S.groups.length+G.length:=by simp
  rw[←a3,this];simp at a1 a2 ⊢;omega
 simp only[aV,bm,oD,bw,bE]at B c;have V:=fun O (kk:List Int) (al:kk.length≤8000)=>pK false a O kk (by unfold bD;omega) (by unfold bD;omega);have Y:∀(e:Int) (f:aw),f[σ.length]?=some (aB 1 0 [jm a])→SA f n { S with ah:=S.ah++A,groups:=S.groups++G }→Fr n σ f→∀env:List aq,env[8]?=some (aI σ.length 0 0 0)→env[9]?=some (ap e)→run code bv ⟨Kw σ i g j 0 2 y9 q r s t u v w x,τ⟩=some (.ret,⟨env,f⟩)→FR σ n S g (run code bv ⟨Kw σ i g j 0 2 y9 q r s t u v w x,τ⟩):=
  fun e f hb hs hf env P Q C=>⟨some a,e,env,f,A,G,C,P,Q,hb,l2,hs,hf,h.nog,fun _=>⟨h.gk,rfl⟩⟩
 have aj:σ.length<(τ++[Obj.arr 1 0 [jm a]]).length:=(ak.1 (b8 [Obj.arr 1 0 [jm a]])).1;have R:((τ++[Obj.arr 1 0 [jm a]]).set σ.length (aB 1 0 [jm a]))[σ.length]?=some (aB 1 0 [jm a]):=by rw[aW aj]
 have Z:SA ((τ++[Obj.arr 1 0 [jm a]]).set σ.length (aB 1 0 [jm a])) n { S with ah:=S.ah++A,groups:=S.groups++G }:=(h.sa.app _).set _ _ hn;have T:Fr n σ ((τ++[Obj.arr 1 0 [jm a]]).set σ.length (aB 1 0 [jm a])):=(h.fr.trans (Fr.app _ _ _)).set _ _ (aF _);obtain⟨E,L⟩:∃E,E=S.groups++G:=⟨_,rfl⟩;have N:∀X,cD code I.qac [aC g,aI j 0 0 0] (τ++X)=some (if g then kA (n+10) E.length else kA (n+9) S.ac.length,τ++X):=fun X=>by
  rw[L];exact A9 (h.sa.app X) ((hc.fr h.fr).fr (Fr.app n τ X)) g
 have a9:∀X,(τ++X)[n+9]?=some (aB 1 S.ac.length (eD S.ac)):=h.sa.at9;have H:∀X,(τ++X)[n+10]?=some (aB 1 E.length (eD E)):=by rw[L];exact h.sa.at10
 have U:E.length≤8000:=by rw[L];simpa using ab
 by_cases he:J=0
 ·subst he;have C:∃(env:List aq) (e:Int),run code bv ⟨Kw σ i g j 0 2 y9 q r s t u v w x,τ⟩=some (.ret,⟨env,(τ++[Obj.arr 1 0 [jm a]]).set σ.length (aB 1 0 [jm a])⟩)∧env[8]?=some (aI σ.length 0 0 0)∧env[9]?=some (ap e):=by
   generalize sv (y.map (·.map EN.a))=ov at *;generalize sv (D.map (·.map EN.a))=ae at *;cases g with
   |false=>
    have M:=fun O=>V O S.ac hk;generalize eG a S.ac=K at *;exact⟨_,K.2,by simp[bv,fF,fE,fq,fj,fh,dC,fG,fH,fw,fg,z,b,B,c,b7,b8,h1,h2,p,l,o,k,N,a9,H,M];rfl,rfl,rfl⟩
   |true=>
    have M:=fun O=>V O E U;generalize eG a E=K at *;exact⟨_,K.2,by simp[bv,fF,fE,fq,fj,fh,dC,fG,fH,fw,fg,z,b,B,c,b7,b8,h1,h2,p,l,o,k,N,a9,H,M];rfl,rfl,rfl⟩
  obtain⟨env,e,C,P,Q⟩:=C;exact Y e _ R Z T env P Q C
 have C:∃(env:List aq),run code bv ⟨Kw σ i g j 0 2 y9 q r s t u v w x,τ⟩=some (.ret,⟨env,(τ++[Obj.arr 1 0 [jm a]]).set σ.length (aB 1 0 [jm a])⟩)∧env[8]?=some (aI σ.length 0 0 0)∧env[9]?=some (ap J):=by
  generalize sv (y.map (·.map EN.a))=ov at *;generalize sv (D.map (·.map EN.a))=ae at *;exact⟨_,by simp[bv,fF,fE,fq,fj,fh,dC,fG,fH,fw,fg,z,b,B,c,b7,b8,h1,h2,p,l,o,k,N,a9,H,he];rfl,rfl,rfl⟩
 obtain⟨env,C,P,Q⟩:=C;exact Y J _ R Z T env P Q C
abbrev JF(nd:eO):aw:=[aB 1 0 [aH [.ai]],aB 9 0 [nd.a]]
theorem acb{σ:aw}{n:Nat}{t:List eO}{j:Nat}(s:CL σ n t j)(i:Nat)(a:eO)(g:Bool):run code eu ⟨[ap i,aC g,aI (j+1) 0 0 0,aI (j+4) 0 0 0,aI j 0 0 0,aI (j+3) 0 0 0,aI (j+6) 0 0 0,aI (j+5) 0 0 0,aI σ.length 0 0 0,ap 0,aI (σ.length+1) 0 0 0,am,am,am,am,am,am,am,am,am,am,am,am,aC false,aC false,am,am,am,am,am,am,am,am,am,am,am,am,am,am],σ++JF a⟩=some (.nrm,⟨[ap i,aC g,aI (j+1) 0 0 0,aI (j+4) 0 0 0,aI j 0 0 0,aI (j+3) 0 0 0,aI (j+6) 0 0 0,aI (j+5) 0 0 0,aI σ.length 0 0 0,ap 0,aI (σ.length+1) 0 0 0,am,am,ap (pR a.tag),am,am,am,am,am,am,am,am,am,aC false,aC false,am,am,am,am,am,am,am,am,am,am,am,am,am,am],σ++JF a⟩):=by
 have e:=fu s.b8;have o:a.a=aH [ap a.tag,ap a.l,ap a.r,ap a.v.k,ap a.v.n,.int .u64 a.v.u,aO a.v.s,aO a.table,aO a.name]:=rfl;unfold pR;simp only[JF,o];generalize a.tag=b;by_cases k:b=3
 ·subst k;simp[eu,e,lookup,qK]
 by_cases l:b=8
 ·subst l;simp[eu,e,lookup,qK]
 by_cases m:b=9
 ·subst m;simp[eu,e,lookup,qK]
 by_cases c:b=10
 ·subst c;simp[eu,e,lookup,qK]
 by_cases d:b=11
 ·subst d;simp[eu,e,lookup,qK]
 have p:((3:Int)==b)=false:=by simp;omega
 have q:((8:Int)==b)=false:=by simp;omega
 have r:((9:Int)==b)=false:=by simp;omega
 have f:((10:Int)==b)=false:=by simp;omega
 have h:((11:Int)==b)=false:=by simp;omega
 simp[eu,e,lookup,qK,k,l,m,c,d,p,q,r,f,h,Ne.symm k,Ne.symm l,Ne.symm m,Ne.symm c,Ne.symm d]
theorem aar{σ:aw}{n:Nat}{c:List eO}{j:Nat}(k:CL σ n c j)(i:Nat)(a:eO)(hi:c[i]?=some a)(g:Bool)(s:a.tag≠1)(t:a.tag≠2) :
  run code B6 ⟨[ap i,aC g,aI (j+1) 0 0 0,aI (j+4) 0 0 0,aI j 0 0 0,aI (j+3) 0 0 0,aI (j+6) 0 0 0,aI (j+5) 0 0 0,am,am,am,am,am,am,am,am,am,am,am,am,am,am,am,am,am,am,am,am,am,am,am,am,am,am,am,am,am,am,am],σ⟩=sY bv (rO 0 (PS σ i g j (pR a.tag) 0 a.l a.r 0 am (σ++JF a++[aB 1 0 []]))):=by
 have o:=fu k.b4;have f:i<c.length:=(ak.1 hi).1;have e:(i:Int)<(c.length:Int):=by omega
 have d:∀h:i<c.length,c[i]'h=a:=fun h=>(ak.1 hi).2;have b:a.a=aH [ap a.tag,ap a.l,ap a.r,ap a.v.k,ap a.v.n,.int .u64 a.v.u,aO a.v.s,aO a.table,aO a.name]:=rfl;have u:run code lP ⟨[ap i,aC g,aI (j+1) 0 0 0,aI (j+4) 0 0 0,aI j 0 0 0,aI (j+3) 0 0 0,aI (j+6) 0 0 0,aI (j+5) 0 0 0,am,am,am,am,am,am,am,am,am,am,am,am,am,am,am,am,am,am,am,am,am,am,am,am,am,am,am,am,am,am,am],σ⟩=some (.nrm,⟨[ap i,aC g,aI (j+1) 0 0 0,aI (j+4) 0 0 0,aI j 0 0 0,aI (j+3) 0 0 0,aI (j+6) 0 0 0,aI (j+5) 0 0 0,aI σ.length 0 0 0,ap 0,am,am,am,am,am,am,am,am,am,am,am,am,am,am,am,am,am,am,am,am,am,am,am,am,am,am,am,am,am],σ++[aB 1 0 [aH [.ai]]]⟩):=by
  simp[lP]
 have v:run code iX ⟨[ap i,aC g,aI (j+1) 0 0 0,aI (j+4) 0 0 0,aI j 0 0 0,aI (j+3) 0 0 0,aI (j+6) 0 0 0,aI (j+5) 0 0 0,aI σ.length 0 0 0,ap 0,am,am,am,am,am,am,am,am,am,am,am,am,am,am,am,am,am,am,am,am,am,am,am,am,am,am,am,am,am],σ++[aB 1 0 [aH [.ai]]]⟩=some (.nrm,⟨[ap i,aC g,aI (j+1) 0 0 0,aI (j+4) 0 0 0,aI j 0 0 0,aI (j+3) 0 0 0,aI (j+6) 0 0 0,aI (j+5) 0 0 0,aI σ.length 0 0 0,ap 0,aI (σ.length+1) 0 0 0,am,am,am,am,am,am,am,am,am,am,am,am,am,am,am,am,am,am,am,am,am,am,am,am,am,am,am,am],σ++JF a⟩):=by
  simp only[JF,b];simp[iX,o,hi,f,e,d,b]
 have w:run code (.seq gD (.seq gH gF)) ⟨[ap i,aC g,aI (j+1) 0 0 0,aI (j+4) 0 0 0,aI j 0 0 0,aI (j+3) 0 0 0,aI (j+6) 0 0 0,aI (j+5) 0 0 0,aI σ.length 0 0 0,ap 0,aI (σ.length+1) 0 0 0,am,am,am,am,am,am,am,am,am,am,am,am,am,am,am,am,am,am,am,am,am,am,am,am,am,am,am,am],σ++JF a⟩=run code gF ⟨[ap i,aC g,aI (j+1) 0 0 0,aI (j+4) 0 0 0,aI j 0 0 0,aI (j+3) 0 0 0,aI (j+6) 0 0 0,aI (j+5) 0 0 0,aI σ.length 0 0 0,ap 0,aI (σ.length+1) 0 0 0,am,am,am,am,am,am,am,am,am,am,am,am,aC false,aC false,am,am,am,am,am,am,am,am,am,am,am,am,am,am],σ++JF a⟩:=by
  have l:run code gD ⟨[ap i,aC g,aI (j+1) 0 0 0,aI (j+4) 0 0 0,aI j 0 0 0,aI (j+3) 0 0 0,aI (j+6) 0 0 0,aI (j+5) 0 0 0,aI σ.length 0 0 0,ap 0,aI (σ.length+1) 0 0 0,am,am,am,am,am,am,am,am,am,am,am,am,am,am,am,am,am,am,am,am,am,am,am,am,am,am,am,am],σ++JF a⟩=some (.nrm,⟨([ap i,aC g,aI (j+1) 0 0 0,aI (j+4) 0 0 0,aI j 0 0 0,aI (j+3) 0 0 0,aI (j+6) 0 0 0,aI (j+5) 0 0 0,aI σ.length 0 0 0,ap 0,aI (σ.length+1) 0 0 0,am,am,am,am,am,am,am,am,am,am,am,am,am,am,am,am,am,am,am,am,am,am,am,am,am,am,am,am]:List aq).set 23 (aC false),σ++JF a⟩):=by
   simp only[JF,b];simp[gD,s]
  have m:run code gH ⟨([ap i,aC g,aI (j+1) 0 0 0,aI (j+4) 0 0 0,aI j 0 0 0,aI (j+3) 0 0 0,aI (j+6) 0 0 0,aI (j+5) 0 0 0,aI σ.length 0 0 0,ap 0,aI (σ.length+1) 0 0 0,am,am,am,am,am,am,am,am,am,am,am,am,am,am,am,am,am,am,am,am,am,am,am,am,am,am,am,am]:List aq).set 23 (aC false),σ++JF a⟩=some (.nrm,⟨[ap i,aC g,aI (j+1) 0 0 0,aI (j+4) 0 0 0,aI j 0 0 0,aI (j+3) 0 0 0,aI (j+6) 0 0 0,aI (j+5) 0 0 0,aI σ.length 0 0 0,ap 0,aI (σ.length+1) 0 0 0,am,am,am,am,am,am,am,am,am,am,am,am,aC false,aC false,am,am,am,am,am,am,am,am,am,am,am,am,am,am],σ++JF a⟩):=by
   simp only[JF,b];simp[gH,t]
  rw[fy,l,bW,fy,m,bW]
 have q:lA=.seq gD (.seq gH gF):=rfl;have r:gF=.seq eu (.seq iS (.seq jc bv)):=rfl;have p:pC=.seq iX lA:=rfl;have x:run code iS ⟨[ap i,aC g,aI (j+1) 0 0 0,aI (j+4) 0 0 0,aI j 0 0 0,aI (j+3) 0 0 0,aI (j+6) 0 0 0,aI (j+5) 0 0 0,aI σ.length 0 0 0,ap 0,aI (σ.length+1) 0 0 0,am,am,ap (pR a.tag),am,am,am,am,am,am,am,am,am,aC false,aC false,am,am,am,am,am,am,am,am,am,am,am,am,am,am],σ++JF a⟩=some (.nrm,⟨[ap i,aC g,aI (j+1) 0 0 0,aI (j+4) 0 0 0,aI j 0 0 0,aI (j+3) 0 0 0,aI (j+6) 0 0 0,aI (j+5) 0 0 0,aI σ.length 0 0 0,ap 0,aI (σ.length+1) 0 0 0,am,am,ap (pR a.tag),.sl (σ.length+2) 0 0 0,am,am,am,am,am,am,am,am,aC false,aC false,am,am,am,am,am,am,am,am,am,am,am,am,am,am],σ++JF a++[aB 1 0 []]⟩):=by
  simp[iS]
 have y:run code jc ⟨[ap i,aC g,aI (j+1) 0 0 0,aI (j+4) 0 0 0,aI j 0 0 0,aI (j+3) 0 0 0,aI (j+6) 0 0 0,aI (j+5) 0 0 0,aI σ.length 0 0 0,ap 0,aI (σ.length+1) 0 0 0,am,am,ap (pR a.tag),.sl (σ.length+2) 0 0 0,am,am,am,am,am,am,am,am,aC false,aC false,am,am,am,am,am,am,am,am,am,am,am,am,am,am],σ++JF a++[aB 1 0 []]⟩=rO 0 (PS σ i g j (pR a.tag) 0 a.l a.r 0 am (σ++JF a++[aB 1 0 []])):=by
  unfold PS;simp only[JF,b];simp[jc]
 rw[AF,fy,u,bW,p,fy,v,bW,q,w,r,fy,acb k,bW,fy,x,bW,fy,y]
theorem Ug{σ:aw}{n:Nat}{S:fA}{g:Bool}{r:Option (Ex×St)}(h:FR σ n S g r):HM σ n S g (wn arG.res r):=by
 obtain⟨o,e,env,τ,A,G,rfl,d,f,c,k,l,i,b,j⟩:=h;refine⟨o,e,τ,A,G,?_,k,l,i,b,j⟩;have a:=vj (o.map (·.map EN.a));simp only[oD]at c;generalize sv (o.map (·.map EN.a))=m at *;simp[arG,d,f,c,a]
theorem abG{σ:aw}{n:Nat}{S:fA}{z:List eO}{j:Nat}(h:SA σ n S)(s:ey σ n S)(t:wd S)(f:CL σ n z j)(u:S.ac.length≤8000)(m:n+11≤σ.length)(i:Nat)(a:eO)(hi:z[i]?=some a)(p:El i a)(g:Bool)(ih:abm n z j i S):HM σ n S g (cD code I.qad (si i g j) σ):=by
 by_cases N:a.tag=1
 ·exact Zg h t f i a hi g N
 by_cases O:a.tag=2
 ·exact V3 h s t f i a hi g O
 rw[cz YU rfl];have R:arG.body=B6:=rfl;have v:(si i g j).take arG.np++List.replicate (arG.nenv-arG.np) aq.any=[ap i,aC g,aI (j+1) 0 0 0,aI (j+4) 0 0 0,aI j 0 0 0,aI (j+3) 0 0 0,aI (j+6) 0 0 0,aI (j+5) 0 0 0,am,am,am,am,am,am,am,am,am,am,am,am,am,am,am,am,am,am,am,am,am,am,am,am,am,am,am,am,am,am,am]:=rfl;rw[R,v,aar f i a hi g N O];have T:LS σ n S a g (σ++JF a++[aB 1 0 []]) [] [] []:=by
  refine⟨by simpa using (h.app (JF a)).app [aB 1 0 []],(Fr.app _ _ _).trans (Fr.app _ _ _),fun _=>⟨rfl,rfl⟩,by simpa using t,by simp,by simp,by simp,by simp⟩
 rcases aib g T s m f i (pR a.tag) p am ih with U|⟨M,os,A,G,z9,C,D,E,F,H,J,K,L,r,b,c⟩
 ·obtain⟨o,e,env,τ,A,G,Z,W,P,Q,V,Y,hs,X,w⟩:=U;refine Ug ⟨o,e,env,τ,A,G,?_,P,Q,V,Y,hs,X,w,fun d=>absurd d W⟩;rw[Z];rfl
 apply Ug;rw[r];show FR σ n S g (run code bv ⟨Kw σ i g j (pR a.tag) os.length z9 C D E F H J K L,M⟩);have ab:=QR a.tag;by_cases y:0<pR a.tag
 ·cases g with
  |false=>exact Zt b m i _ y _ _ _ _ _ _ _ _ _
  |true=>
   refine ajx b s u m f i _ ⟨by omega,by omega⟩ ?_ ?_ _ _ _ _ _ _ _ _ _
   ·rcases Ib y with⟨_,l⟩|⟨_,l⟩<;>rw[l]at c<;>omega
   intro e1;rcases Ib y with⟨_,l⟩|⟨h4,l⟩
   ·rw[l]at c;exact db.1 (by omega)
   omega
 have k:pR a.tag=0:=by omega
 rw[k];have q:iD a.tag=1∨iD a.tag=2:=by
  have l:a.tag≠3:=by intro e;rw[e]at k;cases k
  rcases p with⟨d,_⟩|⟨d,_⟩|⟨d,_⟩
  ·exfalso;unfold iD at d;split at d
   ·omega
   split at d
   ·omega
   split at d<;>omega
  ·exact .inl d
  exact .inr d
 rcases q with x|x
 ·rw[x]at c;obtain⟨B,rfl⟩:=kB.1 (show os.length=1 by omega);exact WR B g b u m f i _ _ _ _ _ _ _ _ _
 rw[x]at c
 match os,c,b with
 |[B,o2],_,b=>exact Wc B o2 g b u m f i _ _ _ _ _ _ _ _ _
 |[],c,_=>simp at c
 |[_],c,_=>simp at c
 |_::_::_::_,c,_=>simp at c;omega
theorem WN{n:Nat}{f:List eO}{j:Nat}(q:mu f):∀(i:Nat),i<f.length→∀(g:Bool) (σ:aw) (S:fA),SA σ n S→ey σ n S→wd S→CL σ n f j→S.ac.length≤8000→HM σ n S g (cD code I.qad (si i g j) σ):=by
 intro i;induction i using Nat.strongRecOn with
 |_ i u=>
  intro hi g σ S h o r c k;have s:n+11≤σ.length:=by
   have:=(ak.1 c.b3).1;have:=c.ge;omega
  have a:=au hi;refine abG h o r c k s i _ a (q.node i _ a) g ?_;intro p t l τ A G m b e d;exact u p t (by omega) l τ _ m b e d k
theorem B2:US=.seq mV qW:=rfl
theorem SA.len{σ:aw}{n:Nat}{S:fA}(h:SA σ n S):n+11≤σ.length:=by
 obtain⟨P,J,rfl,rfl⟩:=h;simp
def aow(σ:aw)(n:Nat)(S:fA)(g:Bool)(r:Option (aq×aw)):Prop:=
 ∃(o:Option (List EN)) (k e:Int) (σ':aw) (A:List kM) (G:List Int),r=some (fb [oD o,ap k,ap e],σ')∧(o.getD []).length≤1000∧SA σ' n { S with ah:=S.ah++A,groups:=S.groups++G }∧Fr n σ σ'∧(g=false→A=[]∧G=[])∧(e=0→wd { S with ah:=S.ah++A,groups:=S.groups++G }∧o.isSome=true∧eG (o.getD []) (if g then S.groups++G else S.ac)=(k,0))
abbrev bnX(σ:aw)(n:Nat)(ns:List eO):aw:=[aB 1 0 [aI (n+3) 0 0 0],aB 1 0 [aH [.aa false (ns.map eO.a)]],aB 1 0 [aH [.ai]],aB 1 0 [IQ],aB 1 0 [.fn 100 [] []],aB 1 0 [.fn 103 [] [aI σ.length 0 0 0]],aB 1 0 [.fn 82 [] [aI (σ.length+1) 0 0 0,aI (σ.length+4) 0 0 0,aI σ.length 0 0 0,aI (σ.length+3) 0 0 0,aI (σ.length+6) 0 0 0,aI (σ.length+5) 0 0 0]]]
abbrev bnE(σ:aw)(n:Nat)(ns:List eO)(g:Bool)(e12 e13 e14 e15:aq):List aq:=[aI (n+3) 0 0 0,aH [.aa false (ns.map eO.a)],aC g,aI σ.length 0 0 0,aI (σ.length+1) 0 0 0,aI (σ.length+2) 0 0 0,i0,i0,aI (σ.length+3) 0 0 0,aI (σ.length+4) 0 0 0,aI (σ.length+5) 0 0 0,aI (σ.length+6) 0 0 0,e12,e13,e14,e15]
theorem W0(σ:aw)(n:Nat)(a:List eO)(g:Bool):run code US ⟨[aI (n+3) 0 0 0,aH [.aa false (a.map eO.a)],aC g,am,am,am,am,am,am,am,am,am,am,am,am,am],σ⟩=run code kf ⟨bnE σ n a g am am am am,σ++bnX σ n a⟩:=by
 have c:=aaY;have d:run code mV ⟨[aI (n+3) 0 0 0,aH [.aa false (a.map eO.a)],aC g,am,am,am,am,am,am,am,am,am,am,am,am,am],σ⟩=some (.nrm,⟨[aI (n+3) 0 0 0,aH [.aa false (a.map eO.a)],aC g,aI σ.length 0 0 0,aI (σ.length+1) 0 0 0,aI (σ.length+2) 0 0 0,i0,i0,am,am,am,am,am,am,am,am],σ++[aB 1 0 [aI (n+3) 0 0 0],aB 1 0 [aH [.aa false (a.map eO.a)]],aB 1 0 [aH [.ai]]]⟩):=by
  simp[mV]
 have b:qW=.seq mO (.seq mS (.seq mN (.seq mT (.seq mP kf)))):=rfl;rw[B2,fy,d,bW,b];simp[mO,mS,mN,mT,mP,c]
theorem KF{σ:aw}{n:Nat}{S:fA}{a:List eO}(h:SA σ n S)(hM:ey σ n S)(hg:wd S)(Q:mu a)(Y:S.ac.length≤8000)(g:Bool):aow σ n S g (cD code I.qaa [aI (n+3) 0 0 0,aH [.aa false (a.map eO.a)],aC g] σ):=by
 rw[cz anS rfl];have hE:arT.body=US:=rfl;have V:[aq.ptr (n+3) 0 0 0,aH [.aa false (a.map eO.a)],aC g].take arT.np++List.replicate (arT.nenv-arT.np) aq.any=[aI (n+3) 0 0 0,aH [.aa false (a.map eO.a)],aC g,am,am,am,am,am,am,am,am,am,am,am,am,am]:=rfl;rw[hE,V,W0];have B:=h.len;have F:CL (σ++bnX σ n a) n a σ.length:=⟨B,by simp,by simp,by simp,by simp,by simp,by simp⟩;have Z:=Q.pos;have ad:=Q.le;obtain⟨o,e,τ,A,G,b,U,i,t,C,f⟩:=WN Q (a.length-1) (by omega) g (σ++bnX σ n a) S (h.app _) (hM.app _) hg F Y;have s:((a.length-1:Nat):Int)=(a.length:Int)-1:=by omega
 have w1:IntKind.i64.wrap ((a.length:Int)-1)=(a.length:Int)-1:=pT (by omega) (by omega);simp only[si,s]at b;have y:Fr n σ τ:=(Fr.app _ _ _).trans t;have p:=F.fr t;have N:=F.b11;have f4:=F.b4;have x:=fu p.b10;have O:τ[σ.length+2]?=some (aB 1 0 [aH [.ai]]):=t.kp _ _ (.inr (by omega)) (by simp);have v:=fu O;have l:=vj (o.map (·.map EN.a));have l5:σ.length+2<(τ++[Obj.arr 1 0 [oD o]]).length:=(ak.1 (v [Obj.arr 1 0 [oD o]])).1;have e6:kf=.seq kh (.seq fU (.seq gq gu)):=rfl;have q6:run code kh ⟨bnE σ n a g am am am am,σ++bnX σ n a⟩=some (.nrm,⟨bnE σ n a g (aI τ.length 0 0 0) (ap e) am am,τ++[Obj.arr 1 0 [oD o]]⟩):=by
  simp only[oD];generalize sv (o.map (·.map EN.a))=H at *;simp only[bnX]at N f4 b ⊢;simp[kh,w1,b,l]
 rw[e6,fy,q6,bW];have q:Fr n σ (τ++[Obj.arr 1 0 [oD o]]):=y.trans (Fr.app _ _ _);by_cases R:e=0
 ·subst R;obtain⟨c,j⟩:∃c,c=S.groups++G:=⟨_,rfl⟩;have D:∀X,cD code I.qac [aC g,aI σ.length 0 0 0] (τ++X)=some (if g then kA (n+10) c.length else kA (n+9) S.ac.length,τ++X):=fun X=>by
   rw[j];exact A9 (i.app X) (p.fr (Fr.app n τ X)) g
  have W:∀X,(τ++X)[n+9]?=some (aB 1 S.ac.length (eD S.ac)):=i.at9;have w:∀X,(τ++X)[n+10]?=some (aB 1 c.length (eD c)):=by rw[j];exact i.at10
  have z:c.length≤8000:=by
   have:=(f rfl).1.gr;have a1:=(f rfl).1.kl;have a2:=(f rfl).1.al;rw[j];have a3:S.groups++G=({ S with ah:=S.ah++A,groups:=S.groups++G }:fA).groups:=rfl;rw[a3,this];simp at a1 a2 ⊢;omega
  have E:∀base σ m,fz true false base σ (m+4) (sv (o.map (·.map EN.a)))=.aa false ((o.getD []).map EN.a):=fun base σ m=>by cases o<;>simp[sv]
  have T:=fun J (kk:List Int) (ab:kk.length≤8000)=>pK false (o.getD []) J kk (by unfold bD;omega) (by unfold bD;omega);have k:=fun J=>T J (if g then c else S.ac) (by cases g<;>simp[z,Y]);have u:∃env,run code (.seq fU (.seq gq gu)) ⟨bnE σ n a g (aI τ.length 0 0 0) i0 am am,τ++[Obj.arr 1 0 [oD o]]⟩=some (.ret,⟨env,(τ++[Obj.arr 1 0 [oD o]]).set (σ.length+2) (aB 1 0 [oD o])⟩)∧env[5]?=some (aI (σ.length+2) 0 0 0)∧env[6]?=some (ap (eG (o.getD []) (if g then c else S.ac)).1)∧env[7]?=some (ap (eG (o.getD []) (if g then c else S.ac)).2):=by
   simp only[oD]at v ⊢;generalize eG (o.getD []) (if g then c else S.ac)=K at *;generalize sv (o.map (·.map EN.a))=H at *;cases g with
   |false=>
    simp only[bq,cH]at k;exact⟨_,by simp[fU,gq,gu,mR,mg,x,v,D,W,w,E,l,k];rfl,rfl,rfl,rfl⟩
   |true=>
    simp only[cw]at k;exact⟨_,by simp[fU,gq,gu,mR,mg,x,v,D,W,w,E,l,k];rfl,rfl,rfl,rfl⟩
  obtain⟨env,u,L,r,M⟩:=u;rw[u];have d:((τ++[Obj.arr 1 0 [oD o]]).set (σ.length+2) (aB 1 0 [oD o]))[σ.length+2]?=some (aB 1 0 [oD o]):=by rw[aW l5]
  refine⟨o,(eG (o.getD []) (if g then c else S.ac)).1,(eG (o.getD []) (if g then c else S.ac)).2,(τ++[Obj.arr 1 0 [oD o]]).set (σ.length+2) (aB 1 0 [oD o]),A,G,?_,U,(i.app _).set _ _ (by omega),q.set _ _ (by omega),C,fun P=>⟨(f rfl).1,(f rfl).2,?_⟩⟩
  rotate_left 1
  ·rw[←j];exact Prod.ext rfl P
  simp only[oD]at d ⊢;generalize eG (o.getD []) (if g then c else S.ac)=K at *;generalize sv (o.map (·.map EN.a))=H at *;simp[arT,L,r,M,d,l]
 have u:∃env,run code (.seq fU (.seq gq gu)) ⟨bnE σ n a g (aI τ.length 0 0 0) (ap e) am am,τ++[Obj.arr 1 0 [oD o]]⟩=some (.ret,⟨env,(τ++[Obj.arr 1 0 [oD o]]).set (σ.length+2) (aB 1 0 [aH [.ai]])⟩)∧env[5]?=some (aI (σ.length+2) 0 0 0)∧env[6]?=some i0∧env[7]?=some (ap e):=by
  simp only[oD]at v ⊢;generalize sv (o.map (·.map EN.a))=H at *;exact⟨_,by simp[fU,v,R];rfl,rfl,rfl,rfl⟩
 obtain⟨env,u,L,r,M⟩:=u;rw[u];have d:((τ++[Obj.arr 1 0 [oD o]]).set (σ.length+2) (aB 1 0 [aH [.ai]]))[σ.length+2]?=some (aB 1 0 [aH [.ai]]):=by rw[aW l5]
 refine⟨none,0,e,(τ++[Obj.arr 1 0 [oD o]]).set (σ.length+2) (aB 1 0 [aH [.ai]]),A,G,?_,by simp,(i.app _).set _ _ (by omega),q.set _ _ (by omega),C,fun P=>absurd P R⟩;simp only[oD]at d ⊢;generalize sv (o.map (·.map EN.a))=H at *;simp[arT,L,r,M,d,sv]
def ajy(σ:aw)(n:Nat)(S:fA)(g:Bool)(r:Option (aq×aw)):Prop:=
 ∃(o:Option (List EN)) (e:Int) (σ':aw) (A:List kM) (G:List Int),r=some (fb [oD o,ap e],σ')∧(o.getD []).length≤1000∧SA σ' n { S with ah:=S.ah++A,groups:=S.groups++G }∧Fr n σ σ'∧(g=false→A=[]∧G=[])∧(e=0→wd { S with ah:=S.ah++A,groups:=S.groups++G }∧o.isSome=true∧jq (o.getD []) (if g then S.groups++G else S.ac)=true)
theorem BM{σ:aw}{n:Nat}{S:fA}{w:List eO}(h:SA σ n S)(D:ey σ n S)(F:wd S)(E:mu w)(H:S.ac.length≤8000)(g:Bool):ajy σ n S g (cD code I.qan [aI (n+3) 0 0 0,aH [.aa false (w.map eO.a)],aC g] σ):=by
 obtain⟨o,k,e,τ,A,G,a,i,m,p,l,u⟩:=KF (h.app [aB 1 0 [aH [.aa false (w.map eO.a)]],aB 1 0 [aH [.ai]]]) (D.app _) F E H g;have x:=h.len;have q:Fr n σ τ:=(Fr.app _ _ _).trans p;have r:τ[σ.length+1]?=some (aB 1 0 [aH [.ai]]):=p.kp _ _ (.inr (by omega)) (by simp);have f:=fu r;have j:=vj (o.map (·.map EN.a));have K:σ.length+1<(τ++[Obj.arr 1 0 [oD o]]).length:=(ak.1 (f [Obj.arr 1 0 [oD o]])).1;have b:((τ++[Obj.arr 1 0 [oD o]]).set (σ.length+1) (aB 1 0 [oD o]))[σ.length+1]?=some (aB 1 0 [oD o]):=by rw[aW K]
 have c:Fr n σ (τ++[Obj.arr 1 0 [oD o]]):=q.trans (Fr.app _ _ _);by_cases t:e=0
 ·subst t;obtain⟨z,B,C⟩:=u rfl;have v:jq (o.getD []) (if g then S.groups++G else S.ac)=(k==0 ||k==1):=by unfold jq;rw[C];rfl
  by_cases d:k=0∨k=1
  ·refine⟨o,0,(τ++[Obj.arr 1 0 [oD o]]).set (σ.length+1) (aB 1 0 [oD o]),A,G,?_,i,(m.app _).set _ _ (by omega),c.set _ _ (by omega),l,fun _=>⟨z,B,by rw[v];rcases d with h|h<;>simp[h]⟩⟩;rw[cz Xq rfl];simp only[oD]at b a f ⊢;generalize sv (o.map (·.map EN.a))=y at *;rcases d with rfl|rfl<;>simp[asu,UH,a,j,f,b]
  refine⟨o,226,(τ++[Obj.arr 1 0 [oD o]]).set (σ.length+1) (aB 1 0 [oD o]),A,G,?_,i,(m.app _).set _ _ (by omega),c.set _ _ (by omega),l,fun s=>by cases s⟩;rw[cz Xq rfl];have J:k≠0:=fun e=>d (.inl e);have k1:k≠1:=fun e=>d (.inr e);simp only[oD]at b a f ⊢;generalize sv (o.map (·.map EN.a))=y at *;simp[asu,UH,a,j,f,b,J,k1]
 refine⟨o,e,(τ++[Obj.arr 1 0 [oD o]]).set (σ.length+1) (aB 1 0 [oD o]),A,G,?_,i,(m.app _).set _ _ (by omega),c.set _ _ (by omega),l,fun s=>absurd s t⟩;rw[cz Xq rfl];simp only[oD]at b a f ⊢;generalize sv (o.map (·.map EN.a))=y at *;simp[asu,UH,a,j,f,b,t]
end Go.AM
