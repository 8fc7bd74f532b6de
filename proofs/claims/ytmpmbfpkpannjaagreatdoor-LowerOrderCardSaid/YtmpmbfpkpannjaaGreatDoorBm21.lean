/- Part of the proof. -/
import Derived.Test.YtmpmbfpkpannjaaGreatDoorBm20
set_option linter.unusedVariables false
set_option linter.unusedSimpArgs false
set_option linter.unusedSectionVars false
namespace Go.AM
open P
set_option maxHeartbeats 64000000
set_option maxRecDepth 40000
attribute [local simp] aG bj
abbrev quZ:aq:=aH [.ai,.ai,ap 0]
abbrev quV(σ:aw)(ep n:Nat)(k:Option (List aq))(l:Int):aq:=aH [.sl (σ.length+1) ep 0 n,sv k,ap l]
abbrev W5(σ:aw)(ep:Nat)(xs:List mC)(k:Option (List aq))(l:Int):aw:=[aB 3 0 [quZ],aB 9 ep (xs.map mC.r),aB 3 0 [quV σ ep xs.length k l]]
theorem aec(ep:Nat)(xs:List mC)(b:Nat)(τ:aw):bA b τ (aB 9 ep (xs.map mC.r))=aB 9 ep (xs.map mC.r):=by
 have h:(xs.map mC.r).map (cr b τ)=xs.map mC.r:=by
  rw[bT];exact aT fun y _=>mC.r_top y b τ 16
 simp only[bA,JN,h];simp
theorem AS{σ:aw}{id:Nat}{e:fV}(c:At σ id e)(r:fV)(ep:Nat)(xs:List mC)(k:Option (List aq))(l:Int):At (σ.set id (gw r)++W5 σ ep xs k l) id r:=(c.set r).app _ (fun τ b d=>by
 have a:σ.length+1<b:=by simp at d;omega
 rw[aW,aW,aW,bm,aec];simp[bA,cr,dH,Kj,a])
theorem Re{σ:aw}{id:Nat}{r:fV}(b:At σ id r):∀m (a:fV) (xs:List mC) (ep:Nat),xs.length+m=3→1≤xs.length→a.toks.length≤600 →
   ∃(k:List mC) (l:fV) (g:Nat) (c d:aq),bU code (σ.length+3) [3,4] vf ⟨[aI id 0 0 0,aI σ.length 0 0 0,aI (σ.length+2) 0 0 0,am,am,am,am],σ.set id (gw a)++W5 σ ep xs none (-1)⟩ =
    some (.ext 0,⟨[aI id 0 0 0,aI σ.length 0 0 0,aI (σ.length+2) 0 0 0,c,d,am,am],σ.set id (gw l)++W5 σ g k none (-1)⟩)∧Le l a∧k.length≤3∧1≤k.length:=by
 intro m;induction m with
 |zero=>
  intro a xs ep I z F;have e:=Jp a 1 [85,78,73,79,78];have j:=oF b (gw a);cases hb:uQ a 1 [[85,78,73,79,78]] with
  |false=>
   rw[hb]at e;refine⟨xs,a,ep,aC false,am,?_,Le.rfl' a,by omega,z⟩;rw[aZ];simp[vf,j,eE,e]
  |true=>
   rw[hb]at e;have h:((xs.length:Int)==3)=true:=by simp;omega
   have H:=sS a;have i:=oI (AS b a ep xs none (-1)) 191 (gT a);rw[set_set b]at i;refine⟨xs,nW a 191 (gT a),ep,aC true,aC true,?_,vB a _ _,by omega,z⟩;rw[aZ];simp[vf,j,eE,e,h,H,i]
 |succ m J=>
  intro a xs ep I x F;have e:=Jp a 1 [85,78,73,79,78];have j:=oF b (gw a);cases hb:uQ a 1 [[85,78,73,79,78]] with
  |false=>
   rw[hb]at e;refine⟨xs,a,ep,aC false,am,?_,Le.rfl' a,by omega,x⟩;rw[aZ];simp[vf,j,eE,e]
  |true=>
   rw[hb]at e;have h:((xs.length:Int)==3)=false:=by simp;omega
   obtain⟨t,B,O⟩:=u0 (AS b a ep xs none (-1)) hb;rw[set_set b]at B;obtain⟨P,M,A,K⟩:=oH (AS b a.nx ep xs none (-1)) 1 [65,76,76];rw[set_set b]at A;unfold Le at K;obtain⟨s,C,n,L⟩:=De (AS b M ep xs none (-1)) (by omega);rw[set_set b]at n;unfold Le at L;obtain⟨k,l,g,c,d,D,N,E⟩:=J C (xs++[s]) (ep+1) (by simp;omega) (by simp) (by omega);refine⟨k,l,g,c,d,?_,by unfold Le at *;omega,E⟩;rw[←D,aZ];have w:List.take xs.length (xs.map mC.r)=xs.map mC.r:=ay (by simp);have q:xs.length+1≤bC:=by unfold bC;omega
   have u:(xs++[s]).map mC.r=xs.map mC.r++[s.r]:=by simp
   have G:=(AS b C (ep+1) (xs++[s]) none (-1)).firm;have f:=fun env o=>Fp (base:=σ.length+3) (clr:=[3,4]) (env:=env) (o:=o) (t:=[]) (by simp) G (by simp);simp only[W5,u]at f ⊢;have v:s.r=ro s.distinct s.star (s.items.map (·.map pM.a)) s.table s.as' (some (s.joins.map oW.a)) (s.whr.map (·.map eP.a)) (s.having.map (·.map eP.a)) (s.group.map (·.map uO.a)):=rfl;rw[v]at f n ⊢;simp only[dv,bY,bX,cn,bB,bD,cD]at f;have p:∀y:aq,(if id<σ.length+3 then aq.ptr id 0 0 0 else y)=aq.ptr id 0 0 0:=fun y=>if_pos (by have:=b.lt;omega);simp[vf,j,eE,e,h,B,A,n,append,w,q,f,cr,dH,p]
structure sY where
 sels:List mC
 keys:Option (List BU)
 limit:Int
 h1:1≤sels.length
 h3:sels.length≤3
 hk:(keys.getD []).length≤3
def sY.r(q:sY):aq:=aH [.aa false (q.sels.map mC.a),sv (q.keys.map (·.map BU.a)),ap q.limit]
def sY.a(q:sY):aq:=aH [.aa false (q.sels.map mC.a),.aa false ((q.keys.getD []).map BU.a),ap q.limit]
theorem adb:Za=.seq yw (.seq zi (.seq (.blk 0 (.loop [3,4] vf)) (.seq vl (.seq uY ER)))):=rfl
theorem acM{σ:aw}{id:Nat}{q:fV}(a:At σ id q)(r:fV)(u:r.toks.length≤600)(ep:Nat)(xs:List mC)(c d:aq):∃(b:Bool) (o:Option (List BU)) (j:fV),run code vl ⟨[aI id 0 0 0,aI σ.length 0 0 0,aI (σ.length+2) 0 0 0,c,d,am,am],σ.set id (gw r)++W5 σ ep xs none (-1)⟩=some (.nrm,⟨[aI id 0 0 0,aI σ.length 0 0 0,aI (σ.length+2) 0 0 0,c,d,aC b,am],σ.set id (gw j)++W5 σ ep xs (o.map (·.map BU.a)) (-1)⟩)∧Le j r∧(o.getD []).length≤3:=by
 obtain⟨b,g,e,i,k⟩:=jw (AS a r ep xs none (-1)) 1 [79,82,68,69,82];rw[set_set a]at e;cases b with
 |false=>
  obtain rfl:=k rfl;exact⟨false,none,g,by simp[vl,e],Le.rfl' g,by simp⟩
 |true=>
  have i:=i rfl;obtain⟨v,s,h,l⟩:=oH (AS a g ep xs none (-1)) 1 [66,89];rw[set_set a]at h;unfold Le at l;obtain⟨p,t,f,m,n3,_⟩:=Nf (enc:=BU.a) (fun n=>⟨_,rfl,rfl⟩) I.qfg WU 3 (by omega) (by omega) (AS a s ep xs none (-1)) (by omega);rw[set_set a]at f;unfold Le at m;refine⟨true,some p,t,?_,by unfold Le;omega,n3⟩;rw[show ((3:Nat):Int)=3 from rfl]at f;simp[vl,e,h,f,←MB]
theorem adK{σ:aw}{id:Nat}{m:fV}(a:At σ id m)(r:fV)(ep:Nat)(xs:List mC)(k:Option (List aq))(c d x:aq):∃(b:Bool) (n:Int) (i:fV),run code uY ⟨[aI id 0 0 0,aI σ.length 0 0 0,aI (σ.length+2) 0 0 0,c,d,x,am],σ.set id (gw r)++W5 σ ep xs k (-1)⟩=some (.nrm,⟨[aI id 0 0 0,aI σ.length 0 0 0,aI (σ.length+2) 0 0 0,c,d,x,aC b],σ.set id (gw i)++W5 σ ep xs k n⟩)∧Le i r:=by
 obtain⟨b,f,e,h,j⟩:=jw (AS a r ep xs k (-1)) 1 [76,73,77,73,84];rw[set_set a]at e;cases b with
 |false=>
  obtain rfl:=j rfl;exact⟨false,-1,f,by simp[uY,e],Le.rfl' f⟩
 |true=>
  have h:=h rfl;obtain⟨n,o,g,l⟩:=FH (AS a f ep xs k (-1));rw[set_set a]at g;unfold Le at l;exact⟨true,n,o,by simp[uY,e,g],by unfold Le;omega⟩
theorem R1{σ:aw}{id:Nat}{r:fV}(f:At σ id r)(F:r.toks.length≤600):∃(q:sY) (s:fV),cC code I.qfq [aI id 0 0 0] σ=some (q.r,σ.set id (gw s))∧Le s r:=by
 have h:At (σ++[aB 3 0 [quZ]]) id r:=f.app _ (fun τ b _=>by simp[bA,cr,dH]);obtain⟨e,n,g,K⟩:=De h F;rw[tC f]at g;unfold Le at K;obtain⟨xs,u,ep,c,d,C,L,P,m⟩:=Re f 2 n [e] 0 (by simp) (by simp) (by omega);unfold Le at L;obtain⟨B,p,Q,D,M,n3⟩:=acM f u (by omega) ep xs c d;unfold Le at M;obtain⟨R,O,w,E,N⟩:=adK f Q ep xs (p.map (·.map BU.a)) c d (aC B);unfold Le at N;refine⟨⟨xs,p,O,m,P,n3⟩,w,?_,by unfold Le;omega⟩;have H:=fun o t v=>dM f w o t v;have G:arN.body=Za:=rfl;have J:[aq.ptr id 0 0 0].take arN.np++List.replicate (arN.nenv-arN.np) aq.any=[aI id 0 0 0,am,am,am,am,am,am]:=rfl;have x:run code yw ⟨[aI id 0 0 0,am,am,am,am,am,am],σ⟩=some (.nrm,⟨[aI id 0 0 0,aI σ.length 0 0 0,am,am,am,am,am],σ++[aB 3 0 [quZ]]⟩):=by simp[yw]
 have z:run code zi ⟨[aI id 0 0 0,aI σ.length 0 0 0,am,am,am,am,am],σ++[aB 3 0 [quZ]]⟩=some (.nrm,⟨[aI id 0 0 0,aI σ.length 0 0 0,aI (σ.length+2) 0 0 0,am,am,am,am],σ.set id (gw n)++W5 σ 0 [e] none (-1)⟩):=by
  have k:e.r=ro e.distinct e.star (e.items.map (·.map pM.a)) e.table e.as' (some (e.joins.map oW.a)) (e.whr.map (·.map eP.a)) (e.having.map (·.map eP.a)) (e.group.map (·.map uO.a)):=rfl;simp only[W5,aW,bm];rw[k]at g ⊢;simp[zi,g,sv]
 rw[cY anJ rfl,G,J,adb,fy,x,bW,fy,z,bW,fy];have A:run code (.blk 0 (.loop [3,4] vf)) ⟨[aI id 0 0 0,aI σ.length 0 0 0,aI (σ.length+2) 0 0 0,am,am,am,am],σ.set id (gw n)++W5 σ 0 [e] none (-1)⟩=some (.nrm,⟨[aI id 0 0 0,aI σ.length 0 0 0,aI (σ.length+2) 0 0 0,c,d,am,am],σ.set id (gw u)++W5 σ ep xs none (-1)⟩):=by
  simp[C]
 rw[A,bW,fy,D,bW,fy,E,bW];have l:List.take xs.length (xs.map mC.r)=xs.map mC.r:=ay (by simp);have i:∀b σ,(xs.map mC.r).map (fz false false b σ 18)=xs.map mC.a:=fun b σ=>by
  rw[bT];exact aT fun y _=>mC.r_fz y b σ 14
 have j:∀b σ (a:mC),aM (fz false false b σ 18 a.r)=aM a.r:=fun b σ a=>by rw[mC.r_fz a b σ 14];rfl
 simp[arN,ER,H,cr,dH,l,i,j,Kj,sY.r]
abbrev quE:aq:=aH [.aa false [],.aa false [],ap 0]
def NL(v:aq):Prop:=(∃a e:Int,e≠0∧v=fb [quE,ap a,ap e])∨∃q:sY,v=fb [q.a,ap 0,ap 0]
theorem apm(q:sY)(τ:aw):fz false false 0 τ 20 q.r=q.a:=by
 simp[sY.r,sY.a,RW,Ic]
theorem ad8(text:List UInt8)(A:text.length≤600):∃v,bw I.qfy [aO text,.fn I.qfq [] []]=some v∧NL v:=by
 obtain⟨c,a,e,z,h⟩:=Zc text A;rw[aS amH rfl];by_cases p:e=0
 ·subst p;have y:At [aB 3 0 [quZ],aB 3 0 [quZ],gw ⟨c,text.length,0,0⟩] 2 ⟨c,text.length,0,0⟩:=⟨rfl,fun τ b _=>by
   rw[aW,aW,aW,IE];simp[bA,cr,dH]⟩
  obtain⟨q,r,d,C⟩:=R1 y z;have o:At [aB 3 0 [quZ],aB 3 0 [quZ],gw r,aB 3 0 [q.r]] 2 r:=⟨rfl,fun τ b _=>by
   rw[aW,aW,aW,aW,IE];have:fz false true b τ 20 q.r=q.r:=by simp[sY.r,Kj]
   simp[bA,cr,dH,this]⟩
  have i:q.r=aH [.aa false (q.sels.map mC.a),sv (q.keys.map (·.map BU.a)),ap q.limit]:=rfl;have x:=sS r;have f:=oI o 190 (gT r);simp only[List.set,gw]at d f;have n:r.v=aH [.aa false (r.toks.map vb.a),ap r.en,ap r.at',ap r.er]:=rfl;have B:=eE r;have t:(⟨c,text.length,0,0⟩:fV).v=aH [.aa false (c.map vb.a),ap text.length,ap 0,ap 0]:=rfl;have l:=apm q;rw[t]at d;by_cases w:r.toks=[]
  ·have m:r.v=aH [.aa false [],ap r.en,ap r.at',ap r.er]:=by rw[n,w];rfl
   by_cases g:r.er=0
   ·refine⟨_,?_,.inr ⟨q,rfl⟩⟩;rw[m]at d;rw[i]at d l;simp[arZ,N0,h,d,g,RW,Ic,sY.a]
   refine⟨fb [quE,ap r.at',ap r.er],?_,.inl ⟨r.at',r.er,g,rfl⟩⟩;rw[m]at d;rw[i]at d l;simp[arZ,N0,h,d,g]
  have k:0<r.toks.length:=eV.2 w;have s:(0:Int)<(r.toks.length:Int):=by omega
  have u:(nW r 190 (gT r)).v=aH [.aa false (r.toks.map vb.a),ap r.en,ap (nW r 190 (gT r)).at',ap (nW r 190 (gT r)).er]:=by
   unfold nW;split<;>rfl
  have j:(nW r 190 (gT r)).er≠0:=by unfold nW;split<;>simp_all
  refine⟨fb [quE,ap (nW r 190 (gT r)).at',ap (nW r 190 (gT r)).er],?_,.inl ⟨_,_,j,rfl⟩⟩;rw[u]at f;rw[n]at d f x;rw[i]at d f;generalize nW r 190 (gT r)=E at *;generalize gT r=D at *;simp[arZ,N0,h,d,k,s,x,f,j]
 refine⟨fb [quE,ap a,ap e],?_,.inl ⟨a,e,p,rfl⟩⟩;simp[arZ,N0,h,p]
theorem acq(text:List UInt8)(d:text.length≤600):∃v,bw I.qes [aO text]=some v∧NL v:=by
 obtain⟨v,h,c⟩:=ad8 text d;refine⟨v,?_,c⟩;rw[aS al2 rfl];rcases c with⟨a,e,f,rfl⟩|⟨q,rfl⟩
 ·simp[as6,aaG,h]
 have b:q.a=aH [.aa false (q.sels.map mC.a),.aa false ((q.keys.getD []).map BU.a),ap q.limit]:=rfl;rw[b]at h ⊢;simp[as6,aaG,h]
theorem kw{s:Type}{enc:s→aq}{b:Bool}{l:List s}{f:aq}{p:s→Bool}(v:l.length≤bC)(t:∀y,aM (enc y)=3∧isAgg (enc y)=true)(x:rU f)
  (h:∀y∈l,iY code f [enc y] []=some (aC (p y),[])):bw I.qhb [.aa b (l.map enc),f]=some (ap (vX p l)):=by
 rw[aS ako rfl];have m:=x [];have c:∀k,k<l.length→∀y,l[k]?=some y→p y=false→dg 0 [2,3,6,7] tj (run code tj ⟨[.aa b (l.map enc),f,am,am,ap l.length,ap k,am,am],[]⟩) =
   bU code 0 [2,3,6,7] tj ⟨[.aa b (l.map enc),f,am,am,ap l.length,ap (k+1:Nat),am,am],[]⟩:=fun k d y o r=>by
  have q:=t y;have g:=h y (aN o);rw[r]at g;have e:((k:Int)<(l.length:Int)):=by omega
  simp[tj,o,q,g,e,cW d v,cM]
 unfold vX;by_cases n:l.any p=true
 ·have e:=bN (cB.1 n);have r:p l[l.findIdx p]=true:=dr (w:=e);have a:=cX (base:=0) (clr:=[2,3,6,7]) (b:=tj) (fun k=>⟨[.aa b (l.map enc),f,am,am,ap l.length,ap k,am,am],[]⟩) (l.findIdx p)
   (.ret,⟨[.aa b (l.map enc),f,ap (l.findIdx p),ap (l.findIdx p),ap l.length,ap (l.findIdx p),aC true,aC true],[]⟩)
   (fun k d=>c k (by omega) _ (au (by omega)) (by simpa using cV d))
   (by
    have u:l[l.findIdx p]?=some l[l.findIdx p]:=au e;have q:=t l[l.findIdx p];have g:=h _ (aJ e);rw[r]at g;have j:((l.findIdx p:Int)<(l.length:Int)):=by omega
    simp[tj,u,q,g,j])
  simp at a;simp[ast,Yc,m,a,n]
 have i:∀y∈l,p y=false:=fun y o=>by simpa using cR.1 (eD _▸n) y o
 have a:=cX (base:=0) (clr:=[2,3,6,7]) (b:=tj) (fun k=>⟨[.aa b (l.map enc),f,am,am,ap l.length,ap k,am,am],[]⟩) l.length
  (.ext 0,⟨[.aa b (l.map enc),f,am,am,ap l.length,ap l.length,aC false,am],[]⟩)
  (fun k d=>c k d _ (au d) (i _ (aJ d)))
  (by simp[tj])
 simp at a;simp[ast,Yc,m,a,n]
theorem tA{s:Type}{enc:s→aq}{b:Bool}{l:List s}{f:aq}{p:s→Bool}(v:l.length≤bC)(t:∀y,aM (enc y)=2∧isAgg (enc y)=true)(x:rU f)
  (h:∀y∈l,iY code f [enc y] []=some (aC (p y),[])):bw I.qgw [.aa b (l.map enc),f]=some (ap (vX p l)):=by
 rw[aS amd rfl];have m:=x [];have c:∀k,k<l.length→∀y,l[k]?=some y→p y=false→dg 0 [2,3,6,7] sZ (run code sZ ⟨[.aa b (l.map enc),f,am,am,ap l.length,ap k,am,am],[]⟩) =
   bU code 0 [2,3,6,7] sZ ⟨[.aa b (l.map enc),f,am,am,ap l.length,ap (k+1:Nat),am,am],[]⟩:=fun k d y o r=>by
  have q:=t y;have g:=h y (aN o);rw[r]at g;have e:((k:Int)<(l.length:Int)):=by omega
  simp[sZ,o,q,g,e,cW d v,cM]
 unfold vX;by_cases n:l.any p=true
 ·have e:=bN (cB.1 n);have r:p l[l.findIdx p]=true:=dr (w:=e);have a:=cX (base:=0) (clr:=[2,3,6,7]) (b:=sZ) (fun k=>⟨[.aa b (l.map enc),f,am,am,ap l.length,ap k,am,am],[]⟩) (l.findIdx p)
   (.ret,⟨[.aa b (l.map enc),f,ap (l.findIdx p),ap (l.findIdx p),ap l.length,ap (l.findIdx p),aC true,aC true],[]⟩)
   (fun k d=>c k (by omega) _ (au (by omega)) (by simpa using cV d))
   (by
    have u:l[l.findIdx p]?=some l[l.findIdx p]:=au e;have q:=t l[l.findIdx p];have g:=h _ (aJ e);rw[r]at g;have j:((l.findIdx p:Int)<(l.length:Int)):=by omega
    simp[sZ,u,q,g,j])
  simp at a;simp[ati,abh,m,a,n]
 have i:∀y∈l,p y=false:=fun y o=>by simpa using cR.1 (eD _▸n) y o
 have a:=cX (base:=0) (clr:=[2,3,6,7]) (b:=sZ) (fun k=>⟨[.aa b (l.map enc),f,am,am,ap l.length,ap k,am,am],[]⟩) l.length
  (.ext 0,⟨[.aa b (l.map enc),f,am,am,ap l.length,ap l.length,aC false,am],[]⟩)
  (fun k d=>c k d _ (au d) (i _ (aJ d)))
  (by simp[sZ])
 simp at a;simp[ati,abh,m,a,n]
theorem sD{c:Type}{enc:c→aq}{b:Bool}{l:List c}{f:aq}{p:c→Bool}(g:l.length≤bC)(e:∀y,aM (enc y)=3∧isAgg (enc y)=true)(d:rU f)
  (h:∀y∈l,iY code f [enc y] []=some (aC (p y),[])):bw I.qgk [.aa b (l.map enc),f]=some (aC (l.any p)):=by
 rw[aS aoh rfl];have h:=kw (b:=b) g e d h;have a:=d [];unfold vX at h;cases ha:l.any p<;>rw[ha]at h<;>simp[auP,afs,a,h]
theorem FI(t:cN):bw I.qbm [t.a]=some (aO t.name):=by
 rw[aS amM rfl];have a:t.a=aH [aO t.name,.aa false (t.af.map fE.a),.aa false (t.keys.map (.int .i64))]:=rfl;rw[a];simp[auX,ag1]
theorem Dl(c:fE):bw I.qbf [c.a]=some (aO c.name):=by
 rw[aS alD rfl];have a:c.a=aH [aO c.name,ap c.kind]:=rfl;rw[a];simp[atK,af4]
theorem TQ(t:cN)(n:List UInt8)(a b:Bool):bw I.qbj [t.a,.cptr a (.fn I.qbm [] []) 0,.cptr b (aO n) 0]=some (aC (t.name==n)):=by
 rw[aS alb rfl];have c:=FI t;have n3:aM t.a=3∧isAgg t.a=true:=⟨rfl,rfl⟩;have d:∀fl top base σ m,fz fl top base σ (m+3) t.a=t.a:=fun fl top base σ m=>Fx.fx fl top base σ m t;cases a<;>cases b<;>simp[aux,agU,c,d,n3,eR]
theorem adm(t:fE)(n:List UInt8)(a b:Bool):bw I.qbh [t.a,.cptr a (.fn I.qbf [] []) 0,.cptr b (aO n) 0]=some (aC (t.name==n)):=by
 rw[aS ami rfl];have c:=Dl t;have n3:aM t.a=2∧isAgg t.a=true:=⟨rfl,rfl⟩;have d:∀fl top base σ m,fz fl top base σ (m+3) t.a=t.a:=fun fl top base σ m=>Fx.fx fl top base σ m t;cases a<;>cases b<;>simp[auu,af1,c,d,n3,eR]
theorem aht(b:Bool)(l:List cN)(d:l.length≤8000)(n:List UInt8):∃k ok,bw I.qbi [.aa b (l.map cN.a),.fn I.qbm [] [],aO n]=some (fb [ap k,aC ok])∧k=max (vX (fun t=>t.name==n) l) 0:=by
 have a:=kw (enc:=cN.a) (b:=b) (l:=l) (f:=snap [aB 1 0 [.fn I.qbm [] []],aB 1 0 [aO n]] (.fn I.qbj [] [aI 0 0 0 0,aI 1 0 0 0])) (p:=fun t=>t.name==n) (by unfold bC;omega) (fun _=>⟨rfl,rfl⟩) (fun σ=>pI _ _ _) (fun t _=>by
  have c:∀fl top base σ m,fz fl top base σ (m+3) t.a=t.a:=fun fl top base σ m=>Fx.fx fl top base σ m t;simp[TQ,c])
 rw[aS ag5 rfl];simp at a;generalize vX (fun t=>t.name==n) l=ix at *;refine⟨max ix 0,decide (0≤ix),?_,rfl⟩;simp[atb,Zs,a];split<;>omega
theorem ahp(b:Bool)(l:List fE)(d:l.length≤8000)(n:List UInt8):∃k ok,bw I.qbg [.aa b (l.map fE.a),.fn I.qbf [] [],aO n]=some (fb [ap k,aC ok])∧k=max (vX (fun t=>t.name==n) l) 0:=by
 have a:=tA (enc:=fE.a) (b:=b) (l:=l) (f:=snap [aB 1 0 [.fn I.qbf [] []],aB 1 0 [aO n]] (.fn I.qbh [] [aI 0 0 0 0,aI 1 0 0 0])) (p:=fun t=>t.name==n) (by unfold bC;omega) (fun _=>⟨rfl,rfl⟩) (fun σ=>pI _ _ _) (fun t _=>by
  have c:∀fl top base σ m,fz fl top base σ (m+3) t.a=t.a:=fun fl top base σ m=>Fx.fx fl top base σ m t;simp[adm,c])
 rw[aS ame rfl];simp at a;generalize vX (fun t=>t.name==n) l=ix at *;refine⟨max ix 0,decide (0≤ix),?_,rfl⟩;simp[auF,afl,a];split<;>omega
def xg{α:Type}(g:Nat→α→Bool):List α→Nat→Bool
 |[],_=>true
 |x::l,k=>g k x&&xg g l (k+1)
theorem A5{a:Type}(g:Nat→a→Bool):∀(l:List a) (k:Nat),dA (fun k y (_:Unit)=>if g k y then (.inl ():Unit⊕Unit) else .inr ()) l k ()=if xg g l k then .inl () else .inr ()
 |[],k=>rfl
 |x::l,k=>by
  rw[dA,xg];cases g k x with
  |true=>simpa using A5 g l (k+1)
  |false=>rfl
def Dd{α:Type}(of:α→List UInt8)(l:List α)(k:Nat)(x:α):Bool:=!((l.take k).any fun y=>of y==of x)
theorem Xd{d:Type}(of:d→List UInt8){l:List d}{k:Nat}{x:d}(c:l[k]?=some x):(max (vX (fun t=>of t==of x) l) 0 != (k:Int))=!Dd of l k x:=by
 have r:=(ak.1 c).1;have f:=(ak.1 c).2;have a:l.any (fun t=>of t==of x)=true:=cB.2 ⟨x,aN c,by simp⟩;unfold vX Dd;rw[if_pos a,Bool.not_not];have n:l.findIdx (fun t=>of t==of x)≤k:=by
  apply fO;intro h;have:=cV (p:=fun t=>of t==of x) (xs:=l) (i:=k) (by omega);rw[f]at this;simp at this
 have e:=bN (cB.1 a);cases hq:(l.take k).any (fun y=>of y==of x) with
 |true=>
  obtain⟨y,q,b⟩:=cB.1 hq;obtain⟨i,hi,rfl⟩:=cK.1 q;have j:i<k:=by simp at hi;omega
  have m:i<l.length:=by omega
  have:l.findIdx (fun t=>of t==of x)≤i:=by
   apply fO;intro h;have:=cV (p:=fun t=>of t==of x) (xs:=l) (i:=i) (by omega);rw[dP]at b;rw[b]at this;simp at this
  simp;omega
 |false=>
  have g:k≤l.findIdx (fun t=>of t==of x):=by
   apply fO;intro h;have b:(fun t=>of t==of x) l[l.findIdx (fun t=>of t==of x)]=true:=dr (w:=e);have o:l[l.findIdx (fun t=>of t==of x)]∈l.take k:=by
    rw[cK];exact⟨l.findIdx (fun t=>of t==of x),by simp;omega,by rw[dP]⟩
   have:=cR.1 hq _ o;exact this b
  simp;omega
theorem aiU(b:Bool)(l:List cN)(r:l.length≤8000):bw I.qbl [.aa b (l.map cN.a),.fn I.qbm [] []]=some (aC (xg (fun k t=>Dd cN.name l k t&&iy t.name) l 0)):=by
 rw[aS akV rfl];have s:l.length≤bC:=by unfold bC;omega
 have key:=jA (base:=0) (clr:=[2,3,4,5,9,10]) (b:=Aw) l (fun k (_:Unit)=>⟨[.aa b (l.map cN.a),.fn I.qbm [] [],am,am,am,am,.aa b (l.map cN.a),ap l.length,ap k,am,am],[]⟩) (fun _ _=>True)
  (fun k t (_:Unit)=>if (Dd cN.name l k t&&iy t.name) then (.inl ():Unit⊕Unit) else .inr ())
  (fun _=>(.ext 0,⟨[.aa b (l.map cN.a),.fn I.qbm [] [],am,am,am,am,.aa b (l.map cN.a),ap l.length,ap l.length,aC false,am],[]⟩)) (fun _ o=>∃q,o=(.ret,q)∧q.env[2]?=some (aC false))
  (fun k t _ e d _=>by
   have g:∀h:k<l.length,l[k]'h=t:=fun h=>(ak.1 d).2;have u:=cW e s;have j:=FI t;have n3:aM t.a=3∧isAgg t.a=true:=⟨rfl,rfl⟩;have p:∀fl top base σ m,fz fl top base σ (m+3) t.a=t.a:=fun fl top base σ m=>Fx.fx fl top base σ m t;obtain⟨v,ok,f,i⟩:=aht b l r t.name;have a:=Xd cN.name d;rw[←i]at a;have c:=oe t.name;cases hA:Dd cN.name l k t with
   |false=>
    rw[hA]at a;simp only[iW,bq,cH];exact⟨_,by simp[Aw,e,d,g,j,p,n3,f,a];rfl,_,rfl,rfl⟩
   |true=>
    rw[hA]at a;simp only[ej];cases hB:iy t.name with
    |false=>
     rw[hB]at c;simp only[bq,cH];exact⟨_,by simp[Aw,e,d,g,j,p,n3,f,a,c];rfl,_,rfl,rfl⟩
    |true=>
     rw[hB]at c;simp only[cz];refine⟨?_,trivial⟩;simp[Aw,e,d,g,j,p,n3,f,a,c,u,bR,cr,dH])
  (fun _ _=>by simp[Aw]) () trivial
 rw[A5]at key;cases hq:xg (fun k t=>Dd cN.name l k t&&iy t.name) l 0 with
 |true=>
  rw[hq]at key;have key:=key.2;simp only[bd]at key;simp[as1,aau,key]
 |false=>
  rw[hq]at key;obtain⟨o,key,q,rfl,n⟩:=key;simp only[bd]at key;simp[as1,aau,key,n]
theorem aim(b:Bool)(l:List fE)(r:l.length≤8000):bw I.qbk [.aa b (l.map fE.a),.fn I.qbf [] []]=some (aC (xg (fun k t=>Dd fE.name l k t&&iy t.name) l 0)):=by
 rw[aS aol rfl];have s:l.length≤bC:=by unfold bC;omega
 have key:=jA (base:=0) (clr:=[2,3,4,5,9,10]) (b:=Aa) l (fun k (_:Unit)=>⟨[.aa b (l.map fE.a),.fn I.qbf [] [],am,am,am,am,.aa b (l.map fE.a),ap l.length,ap k,am,am],[]⟩) (fun _ _=>True)
  (fun k t (_:Unit)=>if (Dd fE.name l k t&&iy t.name) then (.inl ():Unit⊕Unit) else .inr ())
  (fun _=>(.ext 0,⟨[.aa b (l.map fE.a),.fn I.qbf [] [],am,am,am,am,.aa b (l.map fE.a),ap l.length,ap l.length,aC false,am],[]⟩)) (fun _ o=>∃q,o=(.ret,q)∧q.env[2]?=some (aC false))
  (fun k t _ e d _=>by
   have g:∀h:k<l.length,l[k]'h=t:=fun h=>(ak.1 d).2;have u:=cW e s;have j:=Dl t;have n3:aM t.a=2∧isAgg t.a=true:=⟨rfl,rfl⟩;have p:∀fl top base σ m,fz fl top base σ (m+3) t.a=t.a:=fun fl top base σ m=>Fx.fx fl top base σ m t;obtain⟨v,ok,f,i⟩:=ahp b l r t.name;have a:=Xd fE.name d;rw[←i]at a;have c:=oe t.name;cases hA:Dd fE.name l k t with
   |false=>
    rw[hA]at a;simp only[iW,bq,cH];exact⟨_,by simp[Aa,e,d,g,j,p,n3,f,a];rfl,_,rfl,rfl⟩
   |true=>
    rw[hA]at a;simp only[ej];cases hB:iy t.name with
    |false=>
     rw[hB]at c;simp only[bq,cH];exact⟨_,by simp[Aa,e,d,g,j,p,n3,f,a,c];rfl,_,rfl,rfl⟩
    |true=>
     rw[hB]at c;simp only[cz];refine⟨?_,trivial⟩;simp[Aa,e,d,g,j,p,n3,f,a,c,u,bR,cr,dH])
  (fun _ _=>by simp[Aa]) () trivial
 rw[A5]at key;cases hq:xg (fun k t=>Dd fE.name l k t&&iy t.name) l 0 with
 |true=>
  rw[hq]at key;have key:=key.2;simp only[bd]at key;simp[asu,Xp,key]
 |false=>
  rw[hq]at key;obtain⟨o,key,q,rfl,n⟩:=key;simp only[bd]at key;simp[asu,Xp,key,n]
def AP(k:Int):Bool:=k==1 ||k==2 ||k==3
theorem aib(k:Int):∃w,bw I.qbn [ap k]=some (aO w)∧(w==[])=!AP k:=by
 by_cases e:k=1
 ·subst e;exact⟨[98,111,111,108],kV (n:=20) (σ:=[]) (by kernel_rfl),rfl⟩
 by_cases f:k=2
 ·subst f;exact⟨[105,110,116],kV (n:=20) (σ:=[]) (by kernel_rfl),rfl⟩
 by_cases g:k=3
 ·subst g;exact⟨[116,101,120,116],kV (n:=20) (σ:=[]) (by kernel_rfl),rfl⟩
 refine⟨[],?_,by simp[AP,e,f,g]⟩;have h:((1:Int)==k)=false:=by rw[gf];omega
 have j:((2:Int)==k)=false:=by rw[gf];omega
 have l:((3:Int)==k)=false:=by rw[gf];omega
 have a:¬((1:Int)=k):=by omega
 have c:¬((2:Int)=k):=by omega
 have d:¬((3:Int)=k):=by omega
 rw[aS amz rfl];have m:IntKind.i64.wrap 1=1:=rfl;have o:IntKind.i64.wrap 2=2:=rfl;have p:IntKind.i64.wrap 3=3:=rfl;have loop:=cX (base:=0) (clr:=[1,2,5,6]) (b:=Au) (fun i=>⟨[ap k,am,am,gl0,ap i,am,am],[]⟩) 3
  (.ext 0,⟨[ap k,am,am,gl0,ap 3,aC false,am],[]⟩)
  (fun i hi=>by
   match i,hi with
   |0,_=>simp[Au,h,a,m,bR,cr,dH]
   |1,_=>simp[Au,j,c,o,bR,cr,dH]
   |2,_=>simp[Au,l,d,p,bR,cr,dH])
  (by simp[Au])
 simp only[bd]at loop;simp[at5,agr,loop]
def NE(n:Nat)(keys:List Int)(i:Nat)(k:Int):Bool:=decide (0≤k)&&decide (k<n)&&(i==0 ||decide (keys.getD (i-1) 0<k))
def ah2(af:List fE)(k:Nat)(c:fE):Bool:=Dd fE.name af k c&&iy c.name
def DX(t:cN):Bool:=iy t.name&&decide (1≤t.af.length)&&decide (t.af.length≤4)&&xg (ah2 t.af) t.af 0&&(t.af.all fun c=>AP c.kind)&&xg (NE t.af.length t.keys) t.keys 0
theorem tU{a:Type}(p:a→Bool):∀(l:List a) (b:Bool),l.foldl (fun b x=>b&&p x) b=(b&&l.all p)
 |[],b=>by simp
 |x::l,b=>by rw[eu,tU p l,lz,kD]
abbrev AD(t:cN)(ok:Bool)(a4 a7 a8 a9 a10 a11 a12 a13 a14:aq):List aq:=[t.a,aI 0 0 0 0,ap 0,aC ok,a4,am,am,a7,a8,a9,a10,a11,a12,a13,a14,am]
theorem ac5(t:cN)(p:t.af.length≤8000)(ok:Bool) :
  bU code 1 [4,10] Cd ⟨AD t ok am (.aa false (t.af.map fE.a)) (ap t.af.length) (ap 0) am am am am am,[aB 3 0 [t.a]]⟩ =
   some (.ext 0,⟨AD t (ok&&t.af.all fun c=>AP c.kind) am (.aa false (t.af.map fE.a)) (ap t.af.length) (ap t.af.length) (aC false) am am am am,[aB 3 0 [t.a]]⟩):=by
 have j:t.af.length≤bC:=by unfold bC;omega
 have key:=(gB (base:=1) (clr:=[4,10]) (b:=Cd) t.af (fun k ok=>⟨AD t ok am (.aa false (t.af.map fE.a)) (ap t.af.length) (ap k) am am am am am,[aB 3 0 [t.a]]⟩) (fun _ _=>True) (fun b c=>b&&AP c.kind)
  (fun ok=>(.ext 0,⟨AD t ok am (.aa false (t.af.map fE.a)) (ap t.af.length) (ap t.af.length) (aC false) am am am am,[aB 3 0 [t.a]]⟩))
  (fun k c ok f g _=>by
   refine⟨?_,trivial⟩;have i:∀h:k<t.af.length,t.af[k]'h=c:=fun h=>(ak.1 g).2;have o:=cW f j;obtain⟨w,l,a⟩:=aib c.kind;have e:c.a=aH [aO c.name,ap c.kind]:=rfl;have n:∀fl top base σ m,fz fl top base σ (m+3) t.a=t.a:=fun fl top base σ m=>Fx.fx fl top base σ m t;have n3:aM t.a=3:=rfl;have d:(w != [])=AP c.kind:=by show (!(w==[]))=_;rw[a,Bool.not_not]
   cases ok<;>cases hkb:AP c.kind<;>rw[hkb]at a d<;>simp[Cd,f,g,i,e,l,a,d,eR,o,n,n3,bR,bA,cr,dH])
  (fun ok _=>by simp[Cd]) ok trivial).1
 rw[tU (fun c:fE=>AP c.kind)]at key;simpa using key
theorem agp{a:Type}(g:Nat→a→Bool):∀(l:List a) (k:Nat) (b:Bool),dA (ρ:=Empty) (fun k y b=>.inl (b&&g k y)) l k b=.inl (b&&xg g l k)
 |[],k,b=>by rw[dA,xg,lQ]
 |x::l,k,b=>by
  rw[dA,xg];simp only;rw[agp g l (k+1),kD]
theorem aeo(t:cN)(H:t.keys.length≤8000)(E:t.af.length≤8000)(ok:Bool)(d:aq)(G:∀base σ m,fz false true base σ (m+3) d=d) :
  bU code 1 [5,6,14] s8 ⟨AD t ok am (.aa false (t.af.map fE.a)) (ap t.af.length) d (aC false) (.aa false (t.keys.map (.int .i64))) (ap t.keys.length) (ap 0) am,[aB 3 0 [t.a]]⟩ =
   some (.ext 2,⟨AD t (ok&&xg (NE t.af.length t.keys) t.keys 0) am (.aa false (t.af.map fE.a)) (ap t.af.length) d (aC false) (.aa false (t.keys.map (.int .i64))) (ap t.keys.length) (ap t.keys.length) (aC false),[aB 3 0 [t.a]]⟩):=by
 have F:t.keys.length≤bC:=by unfold bC;omega
 have q:t.a=aH [aO t.name,.aa false (t.af.map fE.a),.aa false (t.keys.map (.int .i64))]:=rfl;have key:=jA (ρ:=Empty) (base:=1) (clr:=[5,6,14]) (b:=s8) t.keys (fun k ok=>⟨AD t ok am (.aa false (t.af.map fE.a)) (ap t.af.length) d (aC false) (.aa false (t.keys.map (.int .i64))) (ap t.keys.length) (ap k) am,[aB 3 0 [t.a]]⟩) (fun _ _=>True)
  (fun k y b=>.inl (b&&NE t.af.length t.keys k y))
  (fun ok=>(.ext 2,⟨AD t ok am (.aa false (t.af.map fE.a)) (ap t.af.length) d (aC false) (.aa false (t.keys.map (.int .i64))) (ap t.keys.length) (ap t.keys.length) (aC false),[aB 3 0 [t.a]]⟩)) (fun r _=>r.elim)
  (fun k y ok e f _=>by
   refine⟨?_,trivial⟩;have g:∀h:k<t.keys.length,t.keys[k]'h=y:=fun h=>(ak.1 f).2;have l:=cW e F;have B:IntKind.i64.wrap 1=1:=rfl;unfold NE;simp only[AD,q];by_cases n:0≤y
   ·by_cases p:y<(t.af.length:Int)
    ·by_cases o:k=0
     ·subst o;cases ok<;>simp[s8,e,f,g,B,l,n,p,bR]
     have A:((k:Int)==0)=false:=by simp;omega
     have j:(k==0)=false:=by simp[o]
     have a:k-1<t.keys.length:=by omega
     have c:t.keys[k-1]?=some (t.keys.getD (k-1) 0):=by rw[aQ,au a];rfl
     have i:∀h:k-1<t.keys.length,t.keys[k-1]'h=t.keys.getD (k-1) 0:=fun h=>(ak.1 c).2;have C:IntKind.i64.wrap ((k:Int)-1)=(k:Int)-1:=qL (by omega) (by omega);have s:((k:Int)-1).toNat=k-1:=by omega
     have u:(0:Int)≤(k:Int)-1:=by omega
     have v:(1:Int)≤(k:Int):=by omega
     have w:(1:Nat)≤k:=by omega
     have x:(k:Int)-1<(t.keys.length:Int):=by omega
     generalize t.keys.getD (k-1) 0=z at *;by_cases D:z<y
     ·cases ok<;>simp[s8,e,f,g,l,n,p,o,A,j,a,c,i,C,s,u,v,w,x,D,bR]
     cases ok<;>simp[s8,e,f,g,l,n,p,o,A,j,a,c,i,C,s,u,v,w,x,D,bR]
    cases ok<;>simp[s8,e,f,g,B,l,n,p,bR]
   cases ok<;>simp[s8,e,f,g,l,n,bR])
  (fun ok _=>by simp[s8]) ok trivial
 rw[agp]at key;exact key.2
theorem Lb(t:cN)(x:t.keys.length≤8000)(f:t.af.length≤8000):bw I.qbc [t.a]=some (ap (if DX t then 0 else 211)):=by
 rw[aS akY rfl];have q:t.a=aH [aO t.name,.aa false (t.af.map fE.a),.aa false (t.keys.map (.int .i64))]:=rfl;have l:=oe t.name;have s:=aim false t.af f;have m:=ac5 t f;have n:=fun ok=>aeo t x f ok (ap t.af.length) (by simp);unfold DX;have p:xg (fun k u=>Dd fE.name t.af k u&&iy u.name) t.af 0=xg (ah2 t.af) t.af 0:=rfl;rw[p]at s;simp only[AD,q]at m n ⊢;generalize xg (ah2 t.af) t.af 0=w at *;generalize (t.af.all fun c=>AP c.kind)=i at *;generalize xg (NE t.af.length t.keys) t.keys 0=j at *;generalize iy t.name=v at *;have a:=m false;have g:=m true;have b:=n false;have h:=n true;clear m n;cases v with
 |false=>cases i<;>cases j<;>simp at a b<;>simp[ar2,Pw,l,a,b]
 |true=>
  by_cases o:1≤t.af.length
  ·have d:(1:Int)≤(t.af.length:Int):=by omega
   by_cases r:t.af.length≤4
   ·have e:(t.af.length:Int)≤4:=by omega
    cases w<;>cases i<;>cases j<;>simp at a b g h<;>simp[ar2,Pw,l,s,o,d,r,e,a,b,g,h]
   have e:¬(t.af.length:Int)≤4:=by omega
   cases i<;>cases j<;>simp at a b<;>simp[ar2,Pw,l,o,d,r,e,a,b]
  have d:¬(1:Int)≤(t.af.length:Int):=by omega
  cases i<;>cases j<;>simp at a b<;>simp[ar2,Pw,l,o,d,a,b]
def Ss(c:List cN):Bool:=decide (c.length≤4)&&c.all DX&&xg (fun k t=>Dd cN.name c k t&&iy t.name) c 0
structure Th (t:cN):Prop where
 keys:t.keys.length≤8000
 af:t.af.length≤8000
theorem abE(t:cN)(h:Th t):bw I.qbd [t.a]=some (aC (!DX t)):=by
 rw[aS aj6 rfl];have a:=Lb t h.keys h.af;have n3:aM t.a=3∧isAgg t.a=true:=⟨rfl,rfl⟩;have b:∀fl top base σ m,fz fl top base σ (m+3) t.a=t.a:=fun fl top base σ m=>Fx.fx fl top base σ m t;cases hb:DX t<;>rw[hb]at a<;>simp at a<;>simp[aui,afQ,a,b,n3]
theorem Qh(c:List cN)(o:c.length≤8000)(h:∀t∈c,Th t):bw I.qbb [nB c]=some (ap (if Ss c then 0 else 210)):=by
 rw[aS akm rfl]
 have e:=sD (enc:=cN.a) (b:=false) (l:=c) (f:=.fn I.qbd [] []) (p:=fun t=>!DX t) (by unfold bC;omega) (fun _=>⟨rfl,rfl⟩) (fun σ=>by simp) (fun t q=>by
  have s:∀fl top base σ m,fz fl top base σ (m+3) t.a=t.a:=fun fl top base σ m=>Fx.fx fl top base σ m t;simp[abE t (h t q),s])
 have i:=aiU false c o;have d:c.any (fun t=>!DX t)=!c.all DX:=by
  have:∀l:List cN,l.any (fun t=>!DX t)=!l.all DX:=fun l=>by
   induction l with
   |nil=>rfl
   |cons x l r=>rw[iz,r,lz,Bool.not_and]
  exact this c
 rw[d]at e;unfold Ss;generalize xg (fun k t=>Dd cN.name c k t&&iy t.name) c 0=n at *;generalize c.all DX=j at *;by_cases g:c.length≤4
 ·have a:¬(4:Int)<(c.length:Int):=by omega
  cases j<;>cases n<;>simp at e i<;>simp[asG,Xm,g,a,e,i]
 have a:(4:Int)<(c.length:Int):=by omega
 simp[asG,Xm,g,a]


noncomputable def MK(ns:List eP):Bool:=match bw I.qb [RC ns] with
 |some (.int .i64 e)=>e==0
 |_=>false
theorem U4(a:List eP)(f:a.length≤1300):∃e:Int,bw I.qb [RC a]=some (ap e)∧(e==0)=MK a∧(MK a=true→ml a):=by
 obtain⟨e,h,d⟩:=aaA false a (by omega);have c:MK a=(e==0):=by
  unfold MK;rw[h]
 exact⟨e,h,c.symm,fun b=>d (by rw[c]at b;simpa using b)⟩
theorem abG(a:List eP)(f:a.length≤1300):bw I.ql [RC a]=some (aC (!MK a)):=by
 obtain⟨e,h,c,_⟩:=U4 a f;rw[aS apo rfl];have d:(e != 0)=!MK a:=by rw[←c];rfl
 have b:(e=0)=(MK a=true):=by rw[←c];simp
 simp[atr,amk,h,d,b]
theorem F3(b:Bool)(a:List eP)(c:a.length≤1300):bw I.qk [.aa b [RC a]]=some (aC (MK a)):=by
 have h:=ut (enc:=RC) (b:=b) (l:=[a]) (f:=.fn I.ql [] []) (p:=fun a=>!MK a) (by simp;unfold bC;omega) (fun _=>⟨rfl,rfl⟩) (fun _=>rfl) (fun y d=>by
  rw[aP.1 d];simp[abG a c])
 simp only[aW,bm,iz,List.any_nil,oB]at h;rw[aS apK rfl];simp[atC,amO,h]
def sm(s:List UInt8):Bool:=s==[] ||iy s
theorem MM(s:List UInt8):bw I.qf [aO s]=some (aC (sm s)):=by
 have h:=oe s;rw[aS aly rfl];unfold sm;cases s with
 |nil=>simp[arl,aeg,eR]
 |cons a s=>simp[arl,aeg,eR,h]
theorem OQ(t a:List UInt8):bw I.qj [aH [aO t,aO a]]=some (aC (iy t&&sm a)):=by
 have h:=oe t;have b:=MM a;rw[aS apu rfl];cases hn:iy t<;>rw[hn]at h<;>simp[auM,am4,h,b]
theorem KV(n:Int):bw I.qg [ap n]=some (aC (decide (0≤n)&&decide (n≤2147483647))):=by
 rw[aS apJ rfl];by_cases h:0≤n<;>simp[ars,an1,h]
noncomputable def yH(x:pM):Bool:=MK x.ns&&sm x.as'
noncomputable def AK(j:oW):Bool:=MK j.on&&(iy j.table&&sm j.as')
def nmB(n:uO):Bool:=iy n.name&&sm n.table
noncomputable def xZ(ns:List eP):Bool:=ns.length==0 ||MK ns
abbrev pP(s:mC)(ok:Bool)(a9 a10 a11 a12 a13 a14 a15 a16 a17 a18 a19 a20 a21 a22 a23:aq):List aq:=[s.a,aI 0 0 0 0,aC false,aC ok,am,am,am,am,aC false,a9,a10,a11,a12,a13,a14,a15,a16,a17,a18,a19,a20,a21,a22,a23]
theorem ZJ(s:mC)(ok:Bool) :
  bU code 1 [4,12] IV ⟨pP s ok (.aa false ((s.items.getD []).map pM.a)) (ap (s.items.getD []).length) (ap 0) am am am am am am am am am am am am,[aB 9 0 [s.a]]⟩ =
   some (.ext 0,⟨pP s (ok&&(s.items.getD []).all yH) (.aa false ((s.items.getD []).map pM.a)) (ap (s.items.getD []).length) (ap (s.items.getD []).length) (aC false) am am am am am am am am am am am,[aB 9 0 [s.a]]⟩):=by
 have hi:=s.hi;have l:∀fl top base σ m,fz fl top base σ (m+3) s.a=s.a:=fun fl top base σ m=>Fx.fx fl top base σ m s;have n3:aM s.a=9:=rfl;generalize s.items.getD []=L at *;have j:L.length≤bC:=by unfold bC;omega
 have key:=(gB (base:=1) (clr:=[4,12]) (b:=IV) L (fun k ok=>⟨pP s ok (.aa false (L.map pM.a)) (ap L.length) (ap k) am am am am am am am am am am am am,[aB 9 0 [s.a]]⟩) (fun _ _=>True) (fun b c=>b&&yH c)
  (fun ok=>(.ext 0,⟨pP s ok (.aa false (L.map pM.a)) (ap L.length) (ap L.length) (aC false) am am am am am am am am am am am,[aB 9 0 [s.a]]⟩))
  (fun k c ok e g _=>by
   refine⟨?_,trivial⟩;have i:∀h:k<L.length,L[k]'h=c:=fun h=>(ak.1 g).2;have n:=cW e j;have a:c.a=aH [gK c.ns,aO c.as']:=rfl;have f:=F3 true c.ns c.h;have d:=MM c.as';cases ok<;>cases hkb:MK c.ns<;>rw[hkb]at f<;>simp[IV,e,g,i,a,f,d,n,l,n3,bR,bA,cr,dH,yH,hkb])
  (fun ok _=>by simp[IV]) ok trivial).1
 rw[tU yH]at key;simpa using key
theorem ZG(s:mC)(ok:Bool)(a:List aq)(n0:Int) :
  bU code 1 [5,16] Hk ⟨pP s ok (.aa false a) (ap n0) (ap n0) (aC false) (.aa false (s.joins.map oW.a)) (ap s.joins.length) (ap 0) am am am am am am am am,[aB 9 0 [s.a]]⟩ =
   some (.ext 2,⟨pP s (ok&&s.joins.all AK) (.aa false a) (ap n0) (ap n0) (aC false) (.aa false (s.joins.map oW.a)) (ap s.joins.length) (ap s.joins.length) (aC false) am am am am am am am,[aB 9 0 [s.a]]⟩):=by
 have hi:=s.hj;have m1:∀fl top base σ m,fz fl top base σ (m+3) s.a=s.a:=fun fl top base σ m=>Fx.fx fl top base σ m s;have m3:aM s.a=9:=rfl;generalize s.joins=L at *;have l:L.length≤bC:=by unfold bC;omega
 have key:=(gB (base:=1) (clr:=[5,16]) (b:=Hk) L (fun k ok=>⟨pP s ok (.aa false a) (ap n0) (ap n0) (aC false) (.aa false (L.map oW.a)) (ap L.length) (ap k) am am am am am am am am,[aB 9 0 [s.a]]⟩) (fun _ _=>True) (fun b c=>b&&AK c)
  (fun ok=>(.ext 2,⟨pP s ok (.aa false a) (ap n0) (ap n0) (aC false) (.aa false (L.map oW.a)) (ap L.length) (ap L.length) (aC false) am am am am am am am,[aB 9 0 [s.a]]⟩))
  (fun k c ok f i _=>by
   refine⟨?_,trivial⟩;have j:∀h:k<L.length,L[k]'h=c:=fun h=>(ak.1 i).2;have n:=cW f l;have d:c.a=aH [aC c.left,aO c.table,aO c.as',gK c.on]:=rfl;have g:=F3 true c.on c.h;have e:=OQ c.table c.as';cases ok<;>cases hkb:MK c.on<;>rw[hkb]at g<;>simp[Hk,f,i,j,d,g,e,n,m1,m3,bR,bA,cr,dH,AK,hkb])
  (fun ok _=>by simp[Hk]) ok trivial).1
 rw[tU AK]at key;simpa using key
theorem aat(s:mC)(ok:Bool)(d:List aq)(n0:Int)(e:List aq)(a:Int) :
  bU code 1 [6,20] IG ⟨pP s ok (.aa false d) (ap n0) (ap n0) (aC false) (.aa false e) (ap a) (ap a) (aC false) (.aa false ((s.group.getD []).map uO.a)) (ap (s.group.getD []).length) (ap 0) am am am am,[aB 9 0 [s.a]]⟩ =
   some (.ext 4,⟨pP s (ok&&(s.group.getD []).all nmB) (.aa false d) (ap n0) (ap n0) (aC false) (.aa false e) (ap a) (ap a) (aC false) (.aa false ((s.group.getD []).map uO.a)) (ap (s.group.getD []).length) (ap (s.group.getD []).length) (aC false) am am am,[aB 9 0 [s.a]]⟩):=by
 have hi:=s.hg;have m1:∀fl top base σ m,fz fl top base σ (m+3) s.a=s.a:=fun fl top base σ m=>Fx.fx fl top base σ m s;have m3:aM s.a=9:=rfl;generalize (s.group.getD [])=L at *;have o:L.length≤bC:=by unfold bC;omega
 have key:=(gB (base:=1) (clr:=[6,20]) (b:=IG) L (fun k ok=>⟨pP s ok (.aa false d) (ap n0) (ap n0) (aC false) (.aa false e) (ap a) (ap a) (aC false) (.aa false (L.map uO.a)) (ap L.length) (ap k) am am am am,[aB 9 0 [s.a]]⟩) (fun _ _=>True) (fun b c=>b&&nmB c)
  (fun ok=>(.ext 4,⟨pP s ok (.aa false d) (ap n0) (ap n0) (aC false) (.aa false e) (ap a) (ap a) (aC false) (.aa false (L.map uO.a)) (ap L.length) (ap L.length) (aC false) am am am,[aB 9 0 [s.a]]⟩))
  (fun k c ok i l _=>by
   refine⟨?_,trivial⟩;have n:∀h:k<L.length,L[k]'h=c:=fun h=>(ak.1 l).2;have p:=cW i o;have f:c.a=aH [aO c.table,aO c.name]:=rfl;have j:=oe c.name;have g:=MM c.table;cases ok<;>cases hkb:iy c.name<;>rw[hkb]at j<;>simp[IG,i,l,n,f,j,g,p,m1,m3,bR,bA,cr,dH,nmB,hkb])
  (fun ok _=>by simp[IG]) ok trivial).1
 rw[tU nmB]at key;simpa using key
abbrev aeh(s:mC):aq:=aH [.aa false ((s.whr.getD []).map eP.a),.aa false ((s.having.getD []).map eP.a)]
theorem Xg(s:mC)(ok:Bool)(h i j:List aq)(n0 a b:Int) :
  bU code 1 [7,23] uJ ⟨pP s ok (.aa false h) (ap n0) (ap n0) (aC false) (.aa false i) (ap a) (ap a) (aC false) (.aa false j) (ap b) (ap b) (aC false) (aeh s) (ap 0) am,[aB 9 0 [s.a]]⟩ =
   some (.ext 6,⟨pP s (ok&&xZ (s.whr.getD [])&&xZ (s.having.getD [])) (.aa false h) (ap n0) (ap n0) (aC false) (.aa false i) (ap a) (ap a) (aC false) (.aa false j) (ap b) (ap b) (aC false) (aeh s) (ap 2) (aC false),[aB 9 0 [s.a]]⟩):=by
 have n:=s.hw;have l:=s.hh;have m1:∀fl top base σ m,fz fl top base σ (m+3) s.a=s.a:=fun fl top base σ m=>Fx.fx fl top base σ m s;have m3:aM s.a=9:=rfl;have q:IntKind.i64.wrap 1=1:=rfl;have t:IntKind.i64.wrap 2=2:=rfl;have step:∀(c:List eP) (ok:Bool),c.length≤1300→∃d,d=(ok&&xZ c)∧((c.length:Int)=0∧c.length=0∧c=[]∧d=ok∨((c.length:Int)≠0)∧c.length≠0∧c≠[]∧d=(ok&&MK c)):=fun c ok B=>by
  refine⟨_,rfl,?_⟩;unfold xZ;cases c with
  |nil=>left;simp
  |cons x r=>right;simp;omega
 have p:bw I.qk [.aa true [aH [.aa false ((s.whr.getD []).map eP.a)]]]=some (aC (MK (s.whr.getD []))):=F3 true (s.whr.getD []) n;have o:bw I.qk [.aa true [aH [.aa false ((s.having.getD []).map eP.a)]]]=some (aC (MK (s.having.getD []))):=F3 true (s.having.getD []) l;obtain⟨k1,w,u⟩:=step (s.whr.getD []) ok n;obtain⟨k2,y,v⟩:=step (s.having.getD []) k1 l;rw[←w,←y];simp only[aeh];generalize s.whr.getD []=W at *;generalize s.having.getD []=V at *;have z:bU code 1 [7,23] uJ ⟨pP s ok (.aa false h) (ap n0) (ap n0) (aC false) (.aa false i) (ap a) (ap a) (aC false) (.aa false j) (ap b) (ap b) (aC false) (aH [.aa false (W.map eP.a),.aa false (V.map eP.a)]) (ap 0) am,[aB 9 0 [s.a]]⟩ =
   bU code 1 [7,23] uJ ⟨pP s k1 (.aa false h) (ap n0) (ap n0) (aC false) (.aa false i) (ap a) (ap a) (aC false) (.aa false j) (ap b) (ap b) (aC false) (aH [.aa false (W.map eP.a),.aa false (V.map eP.a)]) (ap 1) am,[aB 9 0 [s.a]]⟩:=by
  rw[aZ];rcases u with⟨e,f,k,g⟩|⟨e,f,k,g⟩
  ·subst g;cases k1<;>simp[uJ,e,f,q,m1,m3,bR,bA,cr,dH]
  subst g;cases ok<;>cases hkb:MK W<;>rw[hkb]at p<;>simp[uJ,q,m1,m3,e,f,p,bR,bA,cr,dH]
 have A:bU code 1 [7,23] uJ ⟨pP s k1 (.aa false h) (ap n0) (ap n0) (aC false) (.aa false i) (ap a) (ap a) (aC false) (.aa false j) (ap b) (ap b) (aC false) (aH [.aa false (W.map eP.a),.aa false (V.map eP.a)]) (ap 1) am,[aB 9 0 [s.a]]⟩ =
   bU code 1 [7,23] uJ ⟨pP s k2 (.aa false h) (ap n0) (ap n0) (aC false) (.aa false i) (ap a) (ap a) (aC false) (.aa false j) (ap b) (ap b) (aC false) (aH [.aa false (W.map eP.a),.aa false (V.map eP.a)]) (ap 2) am,[aB 9 0 [s.a]]⟩:=by
  rw[aZ];rcases v with⟨e,f,k,g⟩|⟨e,f,k,g⟩
  ·subst g;cases k2<;>simp[uJ,e,f,t,m1,m3,bR,bA,cr,dH]
  subst g;cases k1<;>cases hkb:MK V<;>rw[hkb]at o<;>simp[uJ,t,m1,m3,e,f,o,bR,bA,cr,dH]
 rw[z,A,aZ];simp[uJ]
noncomputable def I7(s:mC):Bool:=(s.star==((s.items.getD []).length==0))&&(iy s.table&&sm s.as')&&(s.items.getD []).all yH&&s.joins.all AK&&(s.group.getD []).all nmB&&xZ (s.whr.getD [])&&xZ (s.having.getD [])
theorem VL(s:mC):bw I.qi [s.a]=some (aC (I7 s)):=by
 rw[aS apr rfl];have A:∀fl top base σ m,fz fl top base σ (m+3) s.a=s.a:=fun fl top base σ m=>Fx.fx fl top base σ m s;have n3:aM s.a=9:=rfl;have w:=OQ s.table s.as';have hi:=s.hi;have z:=s.hj;have y:=s.hg;have x:s.a=aH [aC s.distinct,aC s.star,.aa false ((s.items.getD []).map pM.a),aO s.table,aO s.as',.aa false (s.joins.map oW.a),gK (s.whr.getD []),gK (s.having.getD []),.aa false ((s.group.getD []).map uO.a)]:=rfl;have r:¬(6:Int)<((s.items.getD []).length:Int):=by omega
 have t:¬(2:Int)<(s.joins.length:Int):=by omega
 have u:¬(3:Int)<((s.group.getD []).length:Int):=by omega
 have j:=ZJ s (iy s.table&&sm s.as');have i:=ZG s (iy s.table&&sm s.as'&&(s.items.getD []).all yH) ((s.items.getD []).map pM.a) (s.items.getD []).length;have h:=aat s (iy s.table&&sm s.as'&&(s.items.getD []).all yH&&s.joins.all AK) ((s.items.getD []).map pM.a) (s.items.getD []).length (s.joins.map oW.a) s.joins.length;have g:=Xg s (iy s.table&&sm s.as'&&(s.items.getD []).all yH&&s.joins.all AK&&(s.group.getD []).all nmB) ((s.items.getD []).map pM.a) (s.joins.map oW.a) ((s.group.getD []).map uO.a) (s.items.getD []).length s.joins.length (s.group.getD []).length;have l:(((s.items.getD []).length:Int)==0)=((s.items.getD []).length==0):=by cases s.items.getD []<;>simp;omega
 unfold I7;simp only[pP,aeh]at j i h g;rw[x]at j i h g ⊢;generalize v:(iy s.table&&sm s.as')=k at *;generalize b:(k&&(s.items.getD []).all yH)=n at *;generalize c:(n&&s.joins.all AK)=o at *;generalize d:(o&&(s.group.getD []).all nmB)=p at *;generalize e:(p&&xZ (s.whr.getD [])&&xZ (s.having.getD []))=q at *;have f:(s.star==((s.items.getD []).length==0)&&k&&(s.items.getD []).all yH&&s.joins.all AK&&(s.group.getD []).all nmB&&xZ (s.whr.getD [])&&xZ (s.having.getD []))=(s.star==((s.items.getD []).length==0)&&q):=by
  rw[←e,←d,←c,←b];simp only[kD]
 rw[f];cases hst:(s.star==((s.items.getD []).length==0)) with
 |false=>
  have a:(s.star==(((s.items.getD []).length:Int)==0))=false:=by rw[l];exact hst
  simp[ate,ajw,a,-beq_eq_false_iff_ne]
 |true=>
  have a:(s.star==(((s.items.getD []).length:Int)==0))=true:=by rw[l];exact hst
  simp[ate,ajw,a,r,t,u,w,j,i,h,g]
def Ry(n:Int):Bool:=decide (0≤n)&&decide (n≤2147483647)
def Rs(k:BU):Bool:=(k.name==[]&&Ry k.number) ||(iy k.name&&k.number==0)
def FM(n:Int):Bool:=n == -1 ||Ry n
noncomputable def Rk(q:sY):Bool:=FM q.limit&&(q.keys.getD []).all Rs&&q.sels.all I7
abbrev OR(q:sY)(ok:Bool)(a5 a6 a7 a8 a9:aq):List aq:=[q.a,aI 0 0 0 0,ap 0,aC ok,am,a5,a6,a7,a8,a9]
theorem ac6(q:sY)(ok:Bool) :
  bU code 1 [4,8] DP ⟨OR q ok (.aa false ((q.keys.getD []).map BU.a)) (ap (q.keys.getD []).length) (ap 0) am am,[aB 3 0 [q.a]]⟩ =
   some (.ext 0,⟨OR q (ok&&(q.keys.getD []).all Rs) (.aa false ((q.keys.getD []).map BU.a)) (ap (q.keys.getD []).length) (ap (q.keys.getD []).length) (aC false) am,[aB 3 0 [q.a]]⟩):=by
 have hi:=q.hk;have o:∀fl top base σ m,fz fl top base σ (m+3) q.a=q.a:=fun fl top base σ m=>by simp[sY.a]
 have n3:aM q.a=3:=rfl;generalize q.keys.getD []=L at *;have r:L.length≤bC:=by unfold bC;omega
 have key:=(gB (base:=1) (clr:=[4,8]) (b:=DP) L (fun k ok=>⟨OR q ok (.aa false (L.map BU.a)) (ap L.length) (ap k) am am,[aB 3 0 [q.a]]⟩) (fun _ _=>True) (fun b c=>b&&Rs c)
  (fun ok=>(.ext 0,⟨OR q ok (.aa false (L.map BU.a)) (ap L.length) (ap L.length) (aC false) am,[aB 3 0 [q.a]]⟩))
  (fun k c ok f l _=>by
   refine⟨?_,trivial⟩;have n:∀h:k<L.length,L[k]'h=c:=fun h=>(ak.1 l).2;have p:=cW f r;have d:c.a=aH [aO c.name,ap c.number,aC c.desc]:=rfl;have j:=KV c.number;have e:=oe c.name;have g:Rs c=((c.name==[]&&Ry c.number) ||(iy c.name&&c.number==0)):=rfl;rw[g];have i:(decide (0≤c.number)&&decide (c.number≤2147483647))=Ry c.number:=rfl;rw[i]at j;generalize Ry c.number=t at *;generalize iy c.name=nf at *;cases hc:c.name with
   |nil=>
    rw[hc]at e d;cases ok<;>cases t<;>cases nf<;>simp[DP,f,l,n,d,j,e,eR,p,o,n3,bR,bA,cr,dH]
   |cons a s=>
    rw[hc]at e d;cases ok<;>cases nf<;>simp[DP,f,l,n,d,j,e,eR,p,o,n3,bR,bA,cr,dH])
  (fun ok _=>by simp[DP]) ok trivial).1
 rw[tU Rs]at key;simpa using key
theorem abf(s:mC):bw I.qc [s.a]=some (aC (!I7 s)):=by
 have h:=VL s;rw[aS apA rfl];have a:s.a=aH [aC s.distinct,aC s.star,.aa false ((s.items.getD []).map pM.a),aO s.table,aO s.as',.aa false (s.joins.map oW.a),gK (s.whr.getD []),gK (s.having.getD []),.aa false ((s.group.getD []).map uO.a)]:=rfl;rw[a]at h ⊢;simp[arn,aoc,h]
theorem GZ(q:sY):bw I.qa [q.a]=some (ap (if Rk q then 0 else 180)):=by
 have d:=ac6 q (FM q.limit);have w:=q.hk;have E:=q.h1;have F:=q.h3
 have k:=ri (enc:=mC.a) (b:=false) (l:=q.sels) (f:=.fn I.qc [] []) (p:=fun s=>!I7 s) (by unfold bC;omega) (fun _=>⟨rfl,rfl⟩) (fun _=>rfl) (fun y G=>by
  have C:fz true false 0 [] 20 y.a=y.a:=Fx.fx true false 0 [] 17 y;simp[abf y,C])
 have g:q.sels.any (fun s=>!I7 s)=!q.sels.all I7:=by
  generalize q.sels=l;induction l with
  |nil=>rfl
  |cons x r B=>simp[iz,lz,B]
 rw[g]at k;have z:=KV q.limit;have h:q.a=aH [.aa false (q.sels.map mC.a),.aa false ((q.keys.getD []).map BU.a),ap q.limit]:=rfl;have o:(0:Int)<(q.sels.length:Int):=by omega
 have e:0<q.sels.length:=by omega
 have t:(q.sels.length:Int)≤3:=by omega
 have u:((q.keys.getD []).length:Int)≤3:=by omega
 rw[aS apP rfl];simp only[OR]at d;have a:FM q.limit=(q.limit == -1 ||(decide (0≤q.limit)&&decide (q.limit≤2147483647))):=rfl;have c:Rk q=(FM q.limit&&(q.keys.getD []).all Rs&&q.sels.all I7):=rfl;rw[c];generalize A:(FM q.limit&&(q.keys.getD []).all Rs)=i at *;generalize q.sels.all I7=v at *;rw[h]at d ⊢;clear c h;generalize q.limit=j at *;by_cases m:j=-1
 ·subst m;have a:FM (-1)=true:=rfl;rw[a]at d;cases i<;>cases v<;>simp[aro,ahB,o,e,t,u,d,k]
 have n:(j == -1)=false:=by simpa using m
 rw[n,jE]at a;rw[a]at d;generalize (decide (0≤j)&&decide (j≤2147483647))=D at *;cases D<;>cases i<;>cases v<;>simp[aro,ahB,o,e,t,u,m,d,k,z]
structure kH where
 tag:Int
 arg:Option (List EN)
def kH.a(x:kH):aq:=aH [ap x.tag,sv (x.arg.map (·.map EN.a))]
structure fG where
 cat:List cN
 fr:mC
 tables:List Int
 joins:List JX
 whr:Option (List EN)
 having:Option (List EN)
 grouped:Bool
 distinct:Bool
 keys:List Int
 ah:List kH
 items:List (List EN)
 ac:List Int
 groups:List Int
 at':Int
 m1:List (aq×aq)
 m2:List (aq×aq)
 m3:List (aq×aq)
abbrev kq(n k:Nat):aq:=.sl n k 0 k
abbrev eA(l:List Int):List aq:=l.map (.int .i64)
abbrev iE(n:Nat)(S:fG):List aq:=[.aa false (S.cat.map cN.a),aC S.fr.distinct,aC S.fr.star,.aa false ((S.fr.items.getD []).map pM.a),aO S.fr.table,aO S.fr.as',.aa false (S.fr.joins.map oW.a),gK (S.fr.whr.getD []),gK (S.fr.having.getD []),.aa false ((S.fr.group.getD []).map uO.a),kq (n+4) S.tables.length,kq (n+5) S.joins.length,sv (S.whr.map (·.map EN.a)),sv (S.having.map (·.map EN.a)),aC S.grouped,aC S.distinct,kq (n+6) S.keys.length,kq (n+7) S.ah.length,kq (n+8) S.items.length,.mp n,.mp (n+1),.mp (n+2),kq (n+9) S.ac.length,kq (n+10) S.groups.length,ap S.at']
abbrev BT(n:Nat)(S:fG):aw:=[.map S.m1,.map S.m2,.map S.m3,aB 25 0 [aH (iE n S)],aB 1 S.tables.length (eA S.tables),aB 2 S.joins.length (S.joins.map JX.a),aB 1 S.keys.length (eA S.keys),aB 2 S.ah.length (S.ah.map kH.a),aB 1 S.items.length (S.items.map jh),aB 1 S.ac.length (eA S.ac),aB 1 S.groups.length (eA S.groups)]
structure acm (σ:aw) (n:Nat) (m:List (aq×aq)) (K:Nat):Prop where
 ks:∀e∈m,∃s,e.1=aO s
 al:∀s,dy [] (aO s) m=some none∨∃(id:Nat) (l:List Int),dy [] (aO s) m=some (some (.sl id (l.length-1) 0 l.length))∧n+11≤id∧σ[id]?=some (aB 1 (l.length-1) (eA l))∧1≤l.length∧l.length≤K∧∀x∈l,0≤x∧x<K
 inj:∀s s' id e e' o o' k k',dy [] (aO s) m=some (some (.sl id e o k))→dy [] (aO s') m=some (some (.sl id e' o' k'))→s=s'
structure ad0 (m:List (aq×aq)) (K:Nat):Prop where
 ks:∀e∈m,∃t s,e.1=aH [aO t,aO s]
 bh:∀t s,dy [2,2] (aH [aO t,aO s]) m=some none∨∃x,dy [2,2] (aH [aO t,aO s]) m=some (some (ap x))∧0≤x∧x<K
structure amA (m:List (aq×aq)):Prop where
 ks:∀e∈m,∃s,e.1=aO s
 cl:∀s,dy [] (aO s) m=some none∨dy [] (aO s) m=some (some (aC true))
structure ey (σ:aw) (n:Nat) (S:fG):Prop where
 called:amA S.m1
 alone:acm σ n S.m2 S.ac.length
 behind:ad0 S.m3 S.ac.length
def SA(σ:aw)(n:Nat)(S:fG):Prop:=∃P J,P.length=n∧σ=P++(BT n S++J)
structure Fr (n:Nat) (σ σ':aw):Prop where
 le:σ.length≤σ'.length
 kp:∀(i:Nat) (o:Obj),i<n∨n+11≤i→σ[i]?=some o→σ'[i]?=some o
theorem Fr.rfl'(n:Nat)(σ:aw):Fr n σ σ:=⟨aF _,fun _ _ _ h=>h⟩
theorem Fr.trans{n:Nat}{a b c:aw}(h:Fr n a b)(d:Fr n b c):Fr n a c:=⟨bH h.le d.le,fun i o hi e=>d.kp i o hi (h.kp i o hi e)⟩
theorem Fr.app(n:Nat)(σ X:aw):Fr n σ (σ++X):=⟨by simp,fun i o _ a=>by
 have:=(ak.1 a).1;rw[aU this,a]⟩
theorem SA.app{σ:aw}{n:Nat}{S:fG}(h:SA σ n S)(X:aw):SA (σ++X) n S:=by
 obtain⟨P,J,a,b⟩:=h;exact⟨P,J++X,a,by rw[b];simp⟩
theorem SA.at3{σ:aw}{n:Nat}{S:fG}(h:SA σ n S)(X:aw):(σ++X)[n+3]?=some (aB 25 0 [aH (iE n S)]):=by
 obtain⟨P,J,rfl,rfl⟩:=h;simp
theorem SA.at0{σ:aw}{n:Nat}{S:fG}(h:SA σ n S)(X:aw):(σ++X)[n]?=some (.map S.m1):=by
 obtain⟨P,J,rfl,rfl⟩:=h;simp
theorem SA.at1{σ:aw}{n:Nat}{S:fG}(h:SA σ n S)(X:aw):(σ++X)[n+1]?=some (.map S.m2):=by
 obtain⟨P,J,rfl,rfl⟩:=h;simp
theorem SA.at2{σ:aw}{n:Nat}{S:fG}(h:SA σ n S)(X:aw):(σ++X)[n+2]?=some (.map S.m3):=by
 obtain⟨P,J,rfl,rfl⟩:=h;simp
theorem SA.at4{σ:aw}{n:Nat}{S:fG}(h:SA σ n S)(X:aw):(σ++X)[n+4]?=some (aB 1 S.tables.length (eA S.tables)):=by
 obtain⟨P,J,rfl,rfl⟩:=h;simp
theorem SA.at6{σ:aw}{n:Nat}{S:fG}(h:SA σ n S)(X:aw):(σ++X)[n+6]?=some (aB 1 S.keys.length (eA S.keys)):=by
 obtain⟨P,J,rfl,rfl⟩:=h;simp
theorem SA.at7{σ:aw}{n:Nat}{S:fG}(h:SA σ n S)(X:aw):(σ++X)[n+7]?=some (aB 2 S.ah.length (S.ah.map kH.a)):=by
 obtain⟨P,J,rfl,rfl⟩:=h;simp
theorem SA.at8{σ:aw}{n:Nat}{S:fG}(h:SA σ n S)(X:aw):(σ++X)[n+8]?=some (aB 1 S.items.length (S.items.map jh)):=by
 obtain⟨P,J,rfl,rfl⟩:=h;simp
theorem SA.at9{σ:aw}{n:Nat}{S:fG}(h:SA σ n S)(X:aw):(σ++X)[n+9]?=some (aB 1 S.ac.length (eA S.ac)):=by
 obtain⟨P,J,rfl,rfl⟩:=h;simp
theorem SA.at10{σ:aw}{n:Nat}{S:fG}(h:SA σ n S)(X:aw):(σ++X)[n+10]?=some (aB 1 S.groups.length (eA S.groups)):=by
 obtain⟨P,J,rfl,rfl⟩:=h;simp
theorem ey.app{σ:aw}{n:Nat}{S:fG}(h:ey σ n S)(X:aw):ey (σ++X) n S:=⟨h.called,⟨h.alone.ks,fun s=>(h.alone.al s).imp id fun ⟨id,l,b,c,a,d⟩=>⟨id,l,b,c,by
 rw[aU (ak.1 a).1,a],d⟩,h.alone.inj⟩,h.behind⟩
theorem EO{σ:aw}{n:Nat}{S:fG}(h:SA σ n S)(k:ey σ n S)(t s:List UInt8) :
  ∃(x e:Int),cC code I.qae [aI (n+3) 0 0 0,aH [aO t,aO s]] σ=some (fb [ap x,ap e],σ++[aB 2 0 [aH [aO t,aO s]]])∧(e=0→0≤x∧x<S.ac.length):=by
 rw[cw aj7 rfl];have d:=h.at3;have f:=h.at1;have j:=h.at2;cases t with
 |cons c t=>
  rcases k.behind.bh (c::t) s with a|⟨x,a,g⟩
  ·exact⟨0,222,by simp[arR,JP,eR,d,j,a],fun e=>by cases e⟩
  exact⟨x,0,by simp[arR,JP,eR,d,j,a],fun _=>g⟩
 |nil=>
  rcases k.alone.al s with a|⟨id,l,a,hid,m,r,u,g⟩
  ·exact⟨0,222,by simp[arR,JP,eR,d,f,a],fun e=>by cases e⟩
  have b:∀X,(σ++X)[id]?=some (aB 1 (l.length-1) (eA l)):=fun X=>by rw[aU (ak.1 m).1,m]
  by_cases o:l.length=1
  ·obtain⟨x,rfl⟩:=ky.1 o;exact⟨x,0,by simp at a b;simp[arR,JP,eR,d,f,a,b],fun _=>g x (by simp)⟩
  have p:¬(l.length:Int)=0:=by omega
  have q:¬(l.length:Int)=1:=by omega
  have i:¬l.length=0:=by omega
  exact⟨0,223,by simp[arR,JP,eR,d,f,a,b,p,q,i,o],fun e=>by cases e⟩
theorem ey.fr{σ a:aw}{n:Nat}{S S':fG}(h:ey σ n S)(m:Fr n σ a)(g:S'.m1=S.m1)(j:S'.m2=S.m2)(k:S'.m3=S.m3)(c:S'.ac=S.ac):ey a n S':=by
 refine⟨?_,?_,?_⟩
 ·rw[g];exact h.called
 ·rw[j,c];exact⟨h.alone.ks,fun s=>(h.alone.al s).imp id fun ⟨i,l,d,b,e,f⟩=>⟨i,l,d,b,m.kp i _ (.inr b) e,f⟩,h.alone.inj⟩
 rw[k,c];exact h.behind
def kH.es(x:kH):List EN:=x.arg.getD []
def kH.x(g:kH):lf:=⟨g.tag,false,g.es⟩
def kH.z(g:kH):aq:=aH [ap g.tag,.aa false (g.es.map EN.a)]
theorem kH.fzz(g:kH)(base:Nat)(σ:aw)(m:Nat):fz true false base σ (m+4) g.a=g.z:=by
 obtain⟨t,o⟩:=g;cases o<;>simp[kH.a,kH.z,kH.es,sv]
structure vW (S:fG):Prop where
 kl:S.keys.length≤3
 kr:∀k∈S.keys,0≤k∧k<S.ac.length
 al:S.ah.length≤12
 ag:∀g∈S.ah,(CR S.ac g.x).1=true
 ae:∀g∈S.ah,g.es.length≤1000
 gr:S.groups=S.keys.map (fun k=>S.ac.getD k.toNat 0)++S.ah.map (fun g=>uT S.ac g.x)
theorem ajq(x y:kH)(b:Bool)(g:x.es.length≤8000):bw I.qy [x.z,.cptr b y.z 0]=some (aC (x.tag==y.tag&&decide (x.es=y.es))):=by
 rw[aS apH rfl];have h:=UC false false x.es y.es g;have a:=UC true true x.es y.es g;have e:x.z=aH [ap x.tag,.aa false (x.es.map EN.a)]:=rfl;have f:y.z=aH [ap y.tag,.aa false (y.es.map EN.a)]:=rfl;rw[e,f];by_cases c:x.tag=y.tag
 ·cases b<;>simp[atc,ajr,c,h,a]
 have d:(x.tag==y.tag)=false:=by simpa using c
 cases b<;>simp[atc,ajr,c,d]
theorem kH.z_fz(g:kH)(fl top:Bool)(base:Nat)(σ:aw)(m:Nat):fz fl top base σ (m+3) g.z=g.z:=by
 unfold kH.z;simp
theorem kH.z_nc(g:kH):aM g.z=2∧isAgg g.z=true:=⟨rfl,rfl⟩
theorem kH.a_nc(g:kH):aM g.a=2∧isAgg g.a=true:=⟨rfl,rfl⟩
noncomputable def CJ(y:kH)(l:List kH):Int:=vX (fun x:kH=>x.tag==y.tag&&decide (x.es=y.es)) l
theorem acW(b a:Bool)(y:kH)(l:List kH)(j:l.length≤8000)(i:∀x∈l,x.es.length≤8000):bw I.qgv [.aa b (l.map kH.z),.fn I.qy [] [.cptr a y.z 0]]=some (ap (CJ y l)):=by
 refine yi (enc:=kH.z) (b:=b) (l:=l) (f:=.fn I.qy [] [.cptr a y.z 0]) (p:=fun x:kH=>x.tag==y.tag&&decide (x.es=y.es)) (by unfold bC;omega) (fun x=>x.z_nc) (fun τ=>?_) (fun x c=>?_)
 ·have:=fun base m=>y.z_fz true false base τ m;cases a<;>simp[this]
 have d:=ajq x y;have e:=fun fl top base σ m=>x.z_fz fl top base σ m;have g:=fun fl top base σ m=>y.z_fz fl top base σ m;have h:=y.z_nc;cases a<;>simp[d,e,g,h,i x c]
abbrev xP(σ:aw)(n:Nat)(a:kH)(e3 e4 k e6 e7 e8 e9 e10 e11:aq):List aq:=[aI (n+3) 0 0 0,a.a,aI σ.length 0 0 0,e3,e4,k,e6,e7,e8,e9,e10,e11,am,am]
abbrev i0:aq:=ap 0
theorem aiN{σ:aw}{n:Nat}{S:fG}(h:SA σ n S)(a:kH)(D:a.es.length≤1000)(F:1≤a.tag∧a.tag≤5)(z:a.tag=1→a.es=[])(E:S.ac.length≤8000) :
  (∃w x y m o,run code ee ⟨xP σ n a i0 i0 (ap 2) am am am am am am,σ++[aB 2 0 [a.a]]⟩=some (.nrm,⟨xP σ n a i0 i0 (ap (uT S.ac a.x)) w x am y m o,σ++[aB 2 0 [a.a]]⟩)∧(CR S.ac a.x).1=true) ∨
  (∃env,run code ee ⟨xP σ n a i0 i0 (ap 2) am am am am am am,σ++[aB 2 0 [a.a]]⟩=some (.ret,⟨env,σ++[aB 2 0 [a.a]]⟩)∧env[3]?=some i0∧env[4]?=some (ap 201)):=by
 have g:=h.at3;have i:=h.at9;have r:a.x.tag=a.tag:=rfl;have s:a.x.arg=a.es:=rfl;unfold uT CR;rw[r,s];have e:∀j,fz true false 0 j 19 (sv (a.arg.map (·.map EN.a)))=.aa false (a.es.map EN.a):=fun j=>by
  unfold kH.es;cases a.arg<;>simp[sv]
 have b:a.a=aH [ap a.tag,sv (a.arg.map (·.map EN.a))]:=rfl;have c:=vg (a.arg.map (·.map EN.a));have d:=fun v=>pA false a.es v S.ac (by unfold bC;omega) (by unfold bC;omega);rw[b];generalize sv (a.arg.map (·.map EN.a))=C at *;by_cases f:a.tag=1
 ·left;have A:=z f;refine⟨am,am,aC false,am,am,?_,by rw[if_pos f,A];rfl⟩;rw[if_pos (.inl f)];simp[ee,b,f,c]
 by_cases k2:(eF a.es S.ac).2=0
 ·have p:((eF a.es S.ac).2==0)=true:=by simpa using k2
  have q:a.tag=2∨a.tag=3∨a.tag=4∨a.tag=5:=by omega
  generalize eF a.es S.ac=K at *;obtain⟨u,B⟩:=K;simp only at k2 p;subst k2;rcases q with t|t|t|t
  ·left;refine⟨_,_,_,_,_,by simp[ee,b,t,c,g,i,e,d];exact⟨rfl,rfl,rfl,rfl,rfl⟩,?_⟩;rw[if_neg f];simp[t]
  ·by_cases k:u=2
   ·left;refine⟨_,_,_,_,_,by simp[ee,b,t,c,g,i,e,d,k];exact⟨rfl,rfl,rfl,rfl,rfl⟩,?_⟩;rw[if_neg f];simp[t,k]
   by_cases l:u=0
   ·left;refine⟨_,_,_,_,_,by simp[ee,b,t,c,g,i,e,d,k,l];exact⟨rfl,rfl,rfl,rfl,rfl⟩,?_⟩;rw[if_neg f];simp[t,l]
   right;refine⟨_,by simp[ee,b,t,c,g,i,e,d,k,l];rfl,rfl,rfl⟩
  ·left;refine⟨_,_,_,_,_,by simp[ee,b,t,c,g,i,e,d];exact⟨rfl,rfl,rfl,rfl,rfl⟩,?_⟩;rw[if_neg f];simp[t]
  left;refine⟨_,_,_,_,_,by simp[ee,b,t,c,g,i,e,d];exact⟨rfl,rfl,rfl,rfl,rfl⟩,?_⟩;rw[if_neg f];simp[t]
 right;refine⟨_,by simp[ee,b,f,c,g,i,e,d,k2];rfl,rfl,rfl⟩
theorem adl(y:kH)(l:List kH):CJ y l<l.length∧-1≤CJ y l:=by
 unfold CJ vX;split
 ·rename_i h;have:=bN (cB.1 h);omega
 omega
def fG.agg(S:fG)(a:kH)(k:Int):fG:={ S with ah:=S.ah++[a],groups:=S.groups++[k] }
theorem Fr.sc{P J X:aw}{S S':fG}:Fr P.length (P++(BT P.length S++J)) (P++(BT P.length S'++(J++X))):=by
 refine⟨by simp,fun i o hi a=>?_⟩;rcases hi with hi|hi
 ·rw[aU hi]at a ⊢;exact a
 have b:∀(T:fG) (K:aw),(P++(BT P.length T++K))[i]?=K[i-P.length-11]?:=fun T K=>by
  rw[bE (by omega),bE (by simp;omega)];rfl
 rw[b]at a ⊢;have:=(ak.1 a).1;rw[aU this,a]
theorem vW.agg{S:fG}(h:vW S){a:kH}(d:a.es.length≤1000)(c:(CR S.ac a.x).1=true)(e:S.ah.length+1≤12):vW { S with ah:=S.ah++[a],groups:=S.groups++[uT S.ac a.x] }:=by
 refine⟨h.kl,h.kr,by simp;omega,?_,?_,?_⟩
 ·intro g b;rcases aY.1 b with b|b
  ·exact h.ag g b
  rw[aP.1 b];exact c
 ·intro g b;rcases aY.1 b with b|b
  ·exact h.ae g b
  rw[aP.1 b];exact d
 show S.groups++[uT S.ac a.x]=_;rw[h.gr];simp
theorem NX{σ:aw}{n:Nat}{S:fG}(h:SA σ n S)(b:Int)(hi:-1≤b∧b≤100)(u:S.keys.length≤3)(t:S.ah.length≤100)(k l m o p q c d f:aq) :
  ∃(x e:Int) (env:List aq),run code (.seq gF gG) ⟨[aI (n+3) 0 0 0,k,l,i0,i0,m,o,p,ap b,q,c,d,f,am],σ⟩=some (.ret,⟨env,σ⟩)∧env[3]?=some (ap x)∧env[4]?=some (ap e)∧(e=0→S.ah.length≤12):=by
 have g:σ[n+3]?=some (aB 25 0 [aH (iE n S)]):=by simpa using h.at3 []
 have j:σ[n+6]?=some (aB 1 S.keys.length (eA S.keys)):=by simpa using h.at6 []
 have i:σ[n+7]?=some (aB 2 S.ah.length (S.ah.map kH.a)):=by simpa using h.at7 []
 by_cases r:S.ah.length≤12
 ·have a:¬(12:Int)<(S.ah.length:Int):=by omega
  have s:IntKind.i64.wrap ((S.keys.length:Int)+b)=(S.keys.length:Int)+b:=qL (by omega) (by omega);exact⟨(S.keys.length:Int)+b,0,_,by simp[gF,gG,nM,og,g,j,i,a,s];rfl,rfl,rfl,fun _=>r⟩
 have a:(12:Int)<(S.ah.length:Int):=by omega
 exact⟨0,228,_,by simp[gF,gG,nM,og,g,i,a];rfl,rfl,rfl,fun e=>by cases e⟩
theorem Z9{σ:aw}{n:Nat}{S:fG}(h:SA σ n S)(hM:ey σ n S)(p:vW S)(a:kH)(T:a.es.length≤1000)(ht:1≤a.tag∧a.tag≤5)(h1:a.tag=1→a.es=[])(hk:S.ac.length≤8000) :
  ∃(x e:Int) (r:aw) (A:List kH) (G:List Int),cC code I.qx [aI (n+3) 0 0 0,a.a] σ=some (fb [ap x,ap e],r)∧SA r n { S with ah:=S.ah++A,groups:=S.groups++G }∧Fr n σ r∧(e=0→vW { S with ah:=S.ah++A,groups:=S.groups++G }):=by
 rw[cw apc rfl];have W:=h.at3;have K:=aiN h a T ht h1 hk;have hb:arD.body=.seq oc (.seq nV (.seq ee sd)):=rfl;have hn:[aq.ptr (n+3) 0 0 0,a.a].take arD.np++List.replicate (arD.nenv-arD.np) aq.any=[aI (n+3) 0 0 0,a.a,am,am,am,am,am,am,am,am,am,am,am,am]:=rfl;have q0:run code oc ⟨[aI (n+3) 0 0 0,a.a,am,am,am,am,am,am,am,am,am,am,am,am],σ⟩=some (.nrm,⟨xP σ n a i0 i0 am am am am am am am,σ++[aB 2 0 [a.a]]⟩):=by
  have:=a.a_nc;simp[oc,this]
 have q1:run code nV ⟨xP σ n a i0 i0 am am am am am am am,σ++[aB 2 0 [a.a]]⟩=some (.nrm,⟨xP σ n a i0 i0 (ap 2) am am am am am am,σ++[aB 2 0 [a.a]]⟩):=by
  simp[nV]
 rw[hb,hn,fy,q0,bW,fy,q1,bW,fy];rcases K with⟨k,l,o,c,d,L,H⟩|⟨env,L,h3,h4⟩
 rotate_left
 ·rw[L,Oj];exact⟨0,201,σ++[aB 2 0 [a.a]],[],[],by simp[arD,h3,h4],by simpa using h.app _,Fr.app _ _ _,fun e=>by cases e⟩
 rw[L,bW];have X:=h.at7;have ab:=p.al;have C:=fun b Y=>acW b Y a S.ah (by omega) (fun x hx=>by have:=p.ae x hx;omega);obtain⟨af,ag⟩:=adl a S.ah;have w:=fun (g:kH) base σ m=>g.fzz base σ m;have z:∀base σ m,(S.ah.map kH.a).map (fz true false base σ (m+4))=S.ah.map kH.z:=fun base σ m=>by
  rw[bT];exact aT fun y _=>y.fzz base σ m
 have u:List.take S.ah.length (S.ah.map kH.a)=S.ah.map kH.a:=ay (by simp);have s:=fun g:kH=>g.a_nc;have F:=fun g:kH=>g.z_nc;have q3:run code kE ⟨xP σ n a i0 i0 (ap (uT S.ac a.x)) k l am o c d,σ++[aB 2 0 [a.a]]⟩=some (.nrm,⟨xP σ n a i0 i0 (ap (uT S.ac a.x)) k l (ap (CJ a S.ah)) o c d,σ++[aB 2 0 [a.a]]⟩):=by
  generalize CJ a S.ah=N at *;simp[kE,W,X,C,w,u,z,s,F]
 have Z:sd=.seq kE (.seq gz (.seq gF gG)):=rfl;rw[Z,fy,q3,bW,fy];by_cases f:CJ a S.ah<0
 ·
  obtain⟨P,J,rfl,rfl⟩:=h;have E:S.ah.length+1≤bC:=by unfold bC;omega
  have ae:S.groups.length≤15:=by
   have:=p.gr;have:=p.kl;rw[p.gr];simp;omega
  have B:S.groups.length+1≤bC:=by unfold bC;omega
  have M:List.take S.groups.length (eA S.groups)=eA S.groups:=ay (by simp);have U:decide (CJ a S.ah<0)=true:=by simpa using f
  generalize CJ a S.ah=N at *;generalize D:uT S.ac a.x=i at *;have v:∃j,run code gz ⟨xP (P++(BT P.length S++J)) P.length a i0 i0 (ap i) k l (ap N) o c d,P++(BT P.length S++J)++[aB 2 0 [a.a]]⟩=some (.nrm,⟨(xP (P++(BT P.length S++J)) P.length a i0 i0 (ap i) k l (ap S.ah.length) o c d).set 12 j,P++(BT P.length (S.agg a i)++J++[aB 2 0 [a.a]])⟩):=by
   refine⟨aC true,?_⟩;simp[gz,f,s,E,B,u,M,append,fG.agg]
  obtain⟨j,v⟩:=v;rw[v,bW];have R:SA (P++(BT P.length (S.agg a i)++J++[aB 2 0 [a.a]])) P.length (S.agg a i):=⟨P,J++[aB 2 0 [a.a]],rfl,by simp⟩;obtain⟨x,e,env,q,O,Q,V⟩:=NX R S.ah.length ⟨by omega,by omega⟩ p.kl (by show (S.ah++[a]).length≤100;simp;omega) a.a (aI (P++(BT P.length S++J)).length 0 0 0) (ap i) k l o c d j;have t:run code (.seq gF gG) ⟨(xP (P++(BT P.length S++J)) P.length a i0 i0 (ap i) k l (ap S.ah.length) o c d).set 12 j,P++(BT P.length (S.agg a i)++J++[aB 2 0 [a.a]])⟩=some (.ret,⟨env,P++(BT P.length (S.agg a i)++J++[aB 2 0 [a.a]])⟩):=q;rw[t];refine⟨x,e,_,[a],[i],by simp[arD,O,Q],R,?_,fun he=>?_⟩
  ·rw[dv];exact Fr.sc
  have hl:(S.ah++[a]).length≤12:=V he;have:=p.agg T H (by simpa using hl);rw[D]at this;exact this
 have ad:decide (CJ a S.ah<0)=false:=by simpa using f
 obtain⟨x,e,env,q,O,Q,V⟩:=NX (h.app [aB 2 0 [a.a]]) (CJ a S.ah) ⟨by omega,by omega⟩ p.kl (by omega) a.a (aI σ.length 0 0 0) (ap (uT S.ac a.x)) k l o c d (aC false);have v:run code gz ⟨xP σ n a i0 i0 (ap (uT S.ac a.x)) k l (ap (CJ a S.ah)) o c d,σ++[aB 2 0 [a.a]]⟩=some (.nrm,⟨[aI (n+3) 0 0 0,a.a,aI σ.length 0 0 0,i0,i0,ap (uT S.ac a.x),k,l,ap (CJ a S.ah),o,c,d,aC false,am],σ++[aB 2 0 [a.a]]⟩):=by
  generalize CJ a S.ah=N at *;simp[gz,f]
 rw[v,bW,q];exact⟨x,e,σ++[aB 2 0 [a.a]],[],[],by simp[arD,O,Q],by simpa using h.app [aB 2 0 [a.a]],Fr.app _ _ _,fun _=>by simpa using p⟩
abbrev Il:aq:=.imap false [(ap 3,ap 1),(ap 8,ap 2),(ap 9,ap 3),(ap 10,ap 4),(ap 11,ap 5)]
theorem Yx:bw I.qt []=some Il:=kV (n:=20) (σ:=[]) (by kernel_rfl)
theorem LH(root:EN):∃(es:List EN) (a:Int),bw I.qab [root.a]=some (fb [jh es,ap a])∧es.length≤1000∧(a=0→wa es=true):=by
 obtain⟨es,a,h,b,c⟩:=ajn root;refine⟨es,a,?_,b,c⟩;have d:root.a=aH [ap root.tag,ap root.l,ap root.r,ap root.col,ap root.v.k,ap root.v.n,.int .u64 root.v.u,aO root.v.s]:=rfl;rw[aS aot rfl];rw[d]at h ⊢;simp[aub,agW,h]
structure CL (σ:aw) (n:Nat) (ns:List eP) (j:Nat):Prop where
 ge:n+11≤j
 b3:σ[j]?=some (aB 1 0 [aI (n+3) 0 0 0])
 b4:σ[j+1]?=some (aB 1 0 [aH [.aa false (ns.map eP.a)]])
 b8:σ[j+3]?=some (aB 1 0 [Il])
 b9:σ[j+4]?=some (aB 1 0 [.fn 100 [] []])
 b10:σ[j+5]?=some (aB 1 0 [.fn 103 [] [aI j 0 0 0]])
 b11:σ[j+6]?=some (aB 1 0 [.fn 82 [] [aI (j+1) 0 0 0,aI (j+4) 0 0 0,aI j 0 0 0,aI (j+3) 0 0 0,aI (j+6) 0 0 0,aI (j+5) 0 0 0]])
theorem CL.fr{σ b:aw}{n:Nat}{c:List eP}{j:Nat}(h:CL σ n c j)(a:Fr n σ b):CL b n c j:=by
 have d:=h.ge;exact⟨d,a.kp _ _ (.inr (by omega)) h.b3,a.kp _ _ (.inr (by omega)) h.b4,a.kp _ _ (.inr (by omega)) h.b8,a.kp _ _ (.inr (by omega)) h.b9,a.kp _ _ (.inr (by omega)) h.b10,a.kp _ _ (.inr (by omega)) h.b11⟩
theorem fv{σ:aw}{i:Nat}{o:Obj}(h:σ[i]?=some o)(X:aw):(σ++X)[i]?=some o:=by
 rw[aU (ak.1 h).1,h]
theorem Bl{σ:aw}{n:Nat}{S:fG}(h:SA σ n S){d:List eP}{j:Nat}(c:CL σ n d j)(g:Bool):cC code I.qac [aC g,aI j 0 0 0] σ=some (if g then kq (n+10) S.groups.length else kq (n+9) S.ac.length,σ):=by
 rw[cw akc rfl];have a:σ[n+3]?=some (aB 25 0 [aH (iE n S)]):=by simpa using h.at3 []
 have b:=c.b3;cases g<;>simp[atT,afJ,a,b]
def pL(t:Int):Int:=if t=3 then 1 else if t=8 then 2 else if t=9 then 3 else if t=10 then 4 else if t=11 then 5 else 0
theorem QX(t:Int):0≤pL t∧pL t≤5:=by unfold pL;repeat' split<;>omega
theorem IN{t:Int}(h:0<pL t):(pL t=1∧iD t=0)∨(2≤pL t∧iD t=1):=by
 unfold pL iD at *
 repeat' split at h
 all_goals (first|omega|(subst_vars;simp))
def HF(σ:aw)(n:Nat)(S:fG)(g:Bool)(r:Option (aq×aw)):Prop:=
 ∃(o:Option (List EN)) (e:Int) (σ':aw) (A:List kH) (G:List Int),r=some (fb [aH [sv (o.map (·.map EN.a))],ap e],σ')∧(o.getD []).length≤1000∧SA σ' n { S with ah:=S.ah++A,groups:=S.groups++G }∧Fr n σ σ'∧(g=false→A=[]∧G=[])∧(e=0→vW { S with ah:=S.ah++A,groups:=S.groups++G }∧o.isSome=true)
abbrev rR(i:Nat)(g:Bool)(j:Nat):List aq:=[ap i,aC g,aI (j+1) 0 0 0,aI (j+4) 0 0 0,aI j 0 0 0,aI (j+3) 0 0 0,aI (j+6) 0 0 0,aI (j+5) 0 0 0]
theorem abM{σ:aw}{n:Nat}{S:fG}{b:List eP}{j:Nat}(h:SA σ n S)(s:vW S)(m:CL σ n b j)(i:Nat)(a:eP)(hi:b[i]?=some a)(g:Bool)(t:a.tag=1):HF σ n S g (cC code I.qad (rR i g j) σ):=by
 rw[cw abp rfl];have p:=fv m.b4;have q:=fv m.b9;have f:i<b.length:=(ak.1 hi).1;have e:(i:Int)<(b.length:Int):=by omega
 have d:∀h:i<b.length,b[i]'h=a:=fun h=>(ak.1 hi).2;have c:a.a=aH [ap a.tag,ap a.l,ap a.r,ap a.v.k,ap a.v.n,.int .u64 a.v.u,aO a.v.s,aO a.table,aO a.name]:=rfl;obtain⟨es,r,o,l,_⟩:=LH ⟨1,0,0,0,a.v⟩;have k:(⟨1,0,0,0,a.v⟩:EN).a=aH [ap 1,ap 0,ap 0,ap 0,ap a.v.k,ap a.v.n,.int .u64 a.v.u,aO a.v.s]:=rfl;rw[k]at o;rw[t]at c;refine⟨some es,r,σ++[aB 1 0 [jh es],aB 9 0 [a.a]],[],[],?_,l,by simpa using h.app _,Fr.app _ _ _,fun _=>⟨rfl,rfl⟩,fun _=>⟨by simpa using s,rfl⟩⟩;simp[arw,Cs,p,q,hi,f,e,d,c,o,sv]
theorem V7{σ:aw}{n:Nat}{S:fG}{s:List eP}{j:Nat}(h:SA σ n S)(L:ey σ n S)(E:vW S)(C:CL σ n s j)(i:Nat)(a:eP)(hi:s[i]?=some a)(g:Bool)(N:a.tag=2):HF σ n S g (cC code I.qad (rR i g j) σ):=by
 rw[cw abp rfl];have z:=fv C.b4;have w:=fv C.b3;have A:=fv C.b9;have G:=h.at3;have H:=h.at6;have p:i<s.length:=(ak.1 hi).1;have o:(i:Int)<(s.length:Int):=by omega
 have l:∀h:i<s.length,s[i]'h=a:=fun h=>(ak.1 hi).2;have f:a.a=aH [ap a.tag,ap a.l,ap a.r,ap a.v.k,ap a.v.n,.int .u64 a.v.u,aO a.v.s,aO a.table,aO a.name]:=rfl;rw[N]at f;obtain⟨x,J,d,_⟩:=EO (h.app [aB 1 0 [aH [.ai]],aB 9 0 [a.a]]) (L.app _) a.table a.name;have k:=fun c:Int=>LH ⟨2,0,0,c,zE⟩;have v:∀c:Int,(⟨2,0,0,c,zE⟩:EN).a=aH [ap 2,ap 0,ap 0,ap c,ap 0,ap 0,.int .u64 0,aO []]:=fun _=>rfl;have F:S.keys.length≤bC:=by have:=E.kl;unfold bC;omega
 have t:List.take S.keys.length (eA S.keys)=eA S.keys:=ay (by simp);have M:∀base σ m,(eA S.keys).map (fz true false base σ (m+1))=eA S.keys:=fun base σ m=>by
  rw[bT];exact aT fun y _=>by simp
 rw[f]at d;by_cases D:J=0
 ·subst D;cases g with
  |false=>
   obtain⟨es,B,u,r,_⟩:=k x;rw[v]at u;refine⟨some es,B,σ++[aB 1 0 [jh es],aB 9 0 [a.a],aB 2 0 [aH [aO a.table,aO a.name]]],[],[],?_,r,by simpa using h.app _,Fr.app _ _ _,fun _=>⟨rfl,rfl⟩,fun _=>⟨by simpa using E,rfl⟩⟩;simp[arw,Cs,z,w,A,hi,p,o,l,f,d,u,sv]
  |true=>
   have q:=fun b=>Ww b S.keys x F;simp only[cT]at q;generalize vX (fun y=>x==y) S.keys=ix at *;by_cases K:ix<0
   ·refine⟨none,225,σ++[aB 1 0 [aH [.ai]],aB 9 0 [a.a],aB 2 0 [aH [aO a.table,aO a.name]]],[],[],?_,by simp,by simpa using h.app _,Fr.app _ _ _,fun _=>⟨rfl,rfl⟩,fun e=>by cases e⟩;simp[arw,Cs,z,w,A,G,H,hi,p,o,l,f,d,t,q,K,sv]
   obtain⟨es,B,u,r,_⟩:=k ix;rw[v]at u;refine⟨some es,B,σ++[aB 1 0 [jh es],aB 9 0 [a.a],aB 2 0 [aH [aO a.table,aO a.name]]],[],[],?_,r,by simpa using h.app _,Fr.app _ _ _,fun _=>⟨rfl,rfl⟩,fun _=>⟨by simpa using E,rfl⟩⟩;simp[arw,Cs,z,w,A,G,H,hi,p,o,l,f,d,t,q,K,u,sv]
 refine⟨none,J,σ++[aB 1 0 [aH [.ai]],aB 9 0 [a.a],aB 2 0 [aH [aO a.table,aO a.name]]],[],[],?_,by simp,by simpa using h.app _,Fr.app _ _ _,fun _=>⟨rfl,rfl⟩,fun e=>absurd e D⟩;simp[arw,Cs,z,w,A,hi,p,o,l,f,d,D,sv]
theorem Az:Cs=.seq lF pJ:=rfl
theorem fg(base:Nat)(clr:List Nat)(s:St):bR base (9999::clr) s=⟨clear s.env (9999::clr),s.st⟩:=by
 unfold bR;rw[if_pos (.inr rfl)]
theorem SA.set{σ:aw}{n:Nat}{S:fG}(h:SA σ n S)(i:Nat)(o:Obj)(hi:n+11≤i):SA (σ.set i o) n S:=by
 obtain⟨P,J,rfl,rfl⟩:=h;refine⟨P,J.set (i-P.length-11) o,rfl,?_⟩;rw[fq _ _ (by omega),fq _ _ (by simp;omega)];rfl
theorem Fr.set{n:Nat}{σ τ:aw}(h:Fr n σ τ)(i:Nat)(o:Obj)(hi:σ.length≤i):Fr n σ (τ.set i o):=⟨by simpa using h.le,fun k p b a=>by
 have:=(ak.1 a).1;rw[aD (by omega)];exact h.kp k p b a⟩
abbrev oz(o:Option (List EN)):aq:=aH [sv (o.map (·.map EN.a))]
structure LS (σ:aw) (n:Nat) (S:fG) (nd:eP) (g:Bool) (τ:aw) (os:List (Option (List EN))) (A:List kH) (G:List Int):Prop where
 sa:SA τ n { S with ah:=S.ah++A,groups:=S.groups++G }
 fr:Fr n σ τ
 nog:g=false→A=[]∧G=[]
 gk:vW { S with ah:=S.ah++A,groups:=S.groups++G }
 b8:τ[σ.length]?=some (aB 1 0 [aH [.ai]])
 b10:τ[σ.length+1]?=some (aB 9 0 [nd.a])
 b14:τ[σ.length+2]?=some (aB 1 os.length (os.map oz))
 le:∀o∈os,(o.getD []).length≤1000
abbrev lpE(σ:aw)(i:Nat)(g:Bool)(j:Nat)(t:Int)(q:Nat)(l r:Int)(k:Int)(y9:aq):List aq:=[ap i,aC g,aI (j+1) 0 0 0,aI (j+4) 0 0 0,aI j 0 0 0,aI (j+3) 0 0 0,aI (j+6) 0 0 0,aI (j+5) 0 0 0,aI σ.length 0 0 0,y9,aI (σ.length+1) 0 0 0,am,am,ap t,.sl (σ.length+2) q 0 q,am,am,am,am,am,am,am,am,aC false,aC false,am,am,am,aH [ap l,ap r],ap k,am,am,am,am,am,am,am,am,am]
noncomputable abbrev PM(σ:aw)(i:Nat)(g:Bool)(j:Nat)(t:Int)(q:Nat)(l r:Int)(k:Int)(y9:aq)(τ:aw):Option (Ex×St):=bU code (σ.length+3) [9999,9,15,16,17,30,31,32] pY ⟨lpE σ i g j t q l r k y9,τ⟩
def ZA(σ:aw)(n:Nat)(S:fG)(g:Bool)(r:Option (Ex×St)):Prop:=∃(o:Option (List EN)) (e:Int) (env:List aq) (τ:aw) (A:List kH) (G:List Int),r=some (.ret,⟨env,τ⟩)∧e≠0∧env[8]?=some (aI σ.length 0 0 0)∧env[9]?=some (ap e)∧τ[σ.length]?=some (aB 1 0 [oz o])∧(o.getD []).length≤1000∧SA τ n { S with ah:=S.ah++A,groups:=S.groups++G }∧Fr n σ τ∧(g=false→A=[]∧G=[])
theorem ZH{σ:aw}{n:Nat}{S:fG}{ns:List eP}{j:Nat}{V:eP}{τ:aw}{os:List (Option (List EN))}{A:List kH}{G:List Int}(g:Bool)(h:LS σ n S V g τ os A G)(hn:n+11≤σ.length)(hc:CL σ n ns j)(i:Nat)(t l r:Int)(k:Nat)(hk:k<2)(p:Nat)(L:(if k=0 then l else r)=(p:Int))(ho:os.length≤2)(U:aq)
  (ih:HF τ n { S with ah:=S.ah++A,groups:=S.groups++G } (g&&t==0) (cC code I.qad (rR p (g&&t==0) j) τ)) :
  ZA σ n S g (PM σ i g j t os.length l r k U τ)∨∃(J:aw) (o:Option (List EN)) (W:List kH) (X:List Int),PM σ i g j t os.length l r k U τ=PM σ i g j t (os.length+1) l r (k+1:Nat) am J∧LS σ n S V g J (os++[o]) W X:=by
 obtain⟨o,e,τ1,N,O,c,C,v,f,R,z⟩:=ih;have s:g=false→A++N=[]∧G++O=[]:=fun w=>by
  have a:=h.nog w;have b:=R (by rw[w];rfl);simp[a,b]
 have d:=(hc.fr h.fr).b11;have M:¬((p:Int)<0):=by omega
 have K:=fv (f.kp _ _ (.inr (by omega)) h.b8);have P:=fv (f.kp _ _ (.inr (by omega)) h.b10);have u:=fv (f.kp _ _ (.inr (by omega)) h.b14);have m:=vg (o.map (·.map EN.a));simp only[dv]at v z;have l8:σ.length<(τ1++[Obj.arr 1 0 [oz o]]).length:=(ak.1 (K [Obj.arr 1 0 [oz o]])).1;have T:σ.length+2<(τ1++[Obj.arr 1 0 [oz o]]).length:=(ak.1 (u [Obj.arr 1 0 [oz o]])).1;have q:Fr n σ (τ1++[Obj.arr 1 0 [oz o]]):=(h.fr.trans f).trans (Fr.app _ _ _);unfold PM;have D:(k=0∧l=(p:Int))∨(k=1∧r=(p:Int)):=by
  by_cases w:k=0
  ·rw[if_pos w]at L;exact .inl ⟨w,L⟩
  rw[if_neg w]at L;exact .inr ⟨by omega,L⟩
 by_cases y:e=0
 ·right;refine⟨(τ1++[Obj.arr 1 0 [oz o]]).set (σ.length+2) (aB 1 (os.length+1) (os.map oz++[oz o])),o,A++N,G++O,?_,?_⟩
  ·subst y;have F:List.take os.length (os.map oz)=os.map oz:=ay (by simp);have B:os.length+1≤bC:=by unfold bC;omega
   have w1:IntKind.i64.wrap 1=1:=rfl;have w2:IntKind.i64.wrap 2=2:=rfl;rw[show oz o=aq.agg [sv (o.map (·.map EN.a))] from rfl];generalize sv (o.map (·.map EN.a))=ov at *;rw[aZ];rcases D with⟨rfl,rfl⟩|⟨rfl,rfl⟩
   ·cases g<;>simp only[ej,iW]at c<;>simp[pY,d,M,c,m,u,append,F,B,w1,fg]
   cases g<;>simp only[ej,iW]at c<;>simp[pY,d,M,c,m,u,append,F,B,w2,fg]
  have Q:n+11≤σ.length+2:=by omega
  refine⟨(v.app _).set _ _ Q,q.set _ _ (by omega),s,(z y).1,?_,?_,?_,?_⟩
  ·rw[aD (by omega)];exact K _
  ·rw[aD (by omega)];exact P _
  ·rw[aV T];simp
  intro x H;rcases aY.1 H with H|H
  ·exact h.le x H
  rw[aP.1 H];exact C
 left;have E:∃env,bU code (σ.length+3) [9999,9,15,16,17,30,31,32] pY ⟨lpE σ i g j t os.length l r k U,τ⟩=some (.ret,⟨env,(τ1++[Obj.arr 1 0 [oz o]]).set σ.length (aB 1 0 [oz o])⟩)∧env[8]?=some (aI σ.length 0 0 0)∧env[9]?=some (ap e):=by
  rw[show oz o=aq.agg [sv (o.map (·.map EN.a))] from rfl];generalize sv (o.map (·.map EN.a))=ov at *;rcases D with⟨rfl,rfl⟩|⟨rfl,rfl⟩
  ·cases g<;>simp only[ej,iW]at c<;>(rw[aZ];exact⟨_,by simp[pY,d,M,c,m,K,y];rfl,rfl,rfl⟩)
  cases g<;>simp only[ej,iW]at c<;>(rw[aZ];exact⟨_,by simp[pY,d,M,c,m,K,y];rfl,rfl,rfl⟩)
 obtain⟨env,hr,Y,Z⟩:=E;exact⟨o,e,env,(τ1++[Obj.arr 1 0 [oz o]]).set σ.length (aB 1 0 [oz o]),A++N,G++O,hr,y,Y,Z,by rw[aV l8],C,(v.app _).set _ _ (by omega),q.set _ _ (by omega),s⟩
abbrev Kl(σ:aw)(i:Nat)(g:Bool)(j:Nat)(t:Int)(q:Nat)(y9 y15 y16 y17 y28 y29 y30 y31 y32:aq):List aq:=[ap i,aC g,aI (j+1) 0 0 0,aI (j+4) 0 0 0,aI j 0 0 0,aI (j+3) 0 0 0,aI (j+6) 0 0 0,aI (j+5) 0 0 0,aI σ.length 0 0 0,y9,aI (σ.length+1) 0 0 0,am,am,ap t,.sl (σ.length+2) q 0 q,y15,y16,y17,am,am,am,am,am,aC false,aC false,am,am,am,y28,y29,y30,y31,y32,am,am,am,am,am,am]
theorem QZ{σ:aw}(i:Nat)(g:Bool)(j:Nat)(t:Int)(q:Nat)(l r:Int)(k:Nat)(o:k=2∨(k=0∧l=-1)∨(k=1∧r=-1))(n:aq)(τ:aw) :
  ∃a b c d e f h m,PM σ i g j t q l r k n τ=some (.ext 0,⟨Kl σ i g j t q n a b c d e f h m,τ⟩):=by
 unfold PM;rcases o with rfl|⟨rfl,rfl⟩|⟨rfl,rfl⟩
 ·rw[aZ];exact⟨am,am,am,aH [ap l,ap r],ap 2,aC false,am,am,by simp[pY]⟩
 ·rw[aZ];exact⟨ap (-1),am,am,aH [ap (-1),ap r],ap 0,aC true,aC true,am,by simp[pY]⟩
 rw[aZ];exact⟨ap (-1),am,am,aH [ap l,ap (-1)],ap 1,aC true,aC true,am,by simp[pY]⟩
def abb(n:Nat)(ns:List eP)(j i:Nat)(S:fG):Prop:=∀(p:Nat),p<i→∀(g:Bool) (τ:aw) (A:List kH) (G:List Int),SA τ n { S with ah:=S.ah++A,groups:=S.groups++G }→ey τ n { S with ah:=S.ah++A,groups:=S.groups++G }→vW { S with ah:=S.ah++A,groups:=S.groups++G }→CL τ n ns j→HF τ n { S with ah:=S.ah++A,groups:=S.groups++G } g (cC code I.qad (rR p g j) τ)
theorem ahy{σ:aw}{n:Nat}{S:fG}{P:List eP}{j:Nat}{a:eP}{τ:aw}(g:Bool)(h:LS σ n S a g τ [] [] [])(X:ey σ n S)(Y:n+11≤σ.length)(L:CL σ n P j)(i:Nat)(t:Int)(I:Ez i a)(s:aq)(Z:abb n P j i S) :
  ZA σ n S g (PM σ i g j t 0 a.l a.r 0 s τ)∨∃(u:aw) (os:List (Option (List EN))) (A:List kH) (G:List Int) (z9 b c d e f l m q:aq),PM σ i g j t 0 a.l a.r 0 s τ=some (.ext 0,⟨Kl σ i g j t os.length z9 b c d e f l m q,u⟩)∧LS σ n S a g u os A G∧(os.length:Int)=iD a.tag:=by
 have F:∀{τ:aw} {os:List (Option (List EN))} {A:List kH} {G:List Int} (h:LS σ n S a g τ os A G) (k:Nat) (M:k<2) (p:Nat) (r:p<i) (O:(if k=0 then a.l else a.r)=(p:Int)) (N:os.length≤2) (s:aq),
   ZA σ n S g (PM σ i g j t os.length a.l a.r k s τ)∨∃(u:aw) (o:Option (List EN)) (Q:List kH) (T:List Int),PM σ i g j t os.length a.l a.r k s τ=PM σ i g j t (os.length+1) a.l a.r (k+1:Nat) am u∧LS σ n S a g u (os++[o]) Q T:=
  fun h k M p r O N s=>ZH g h Y L i t a.l a.r k M p O N s (Z p r _ _ _ _ h.sa (X.fr h.fr rfl rfl rfl rfl) h.gk (L.fr h.fr))
 rcases I with⟨v,y,D⟩|⟨v,⟨p,y,r⟩,D⟩|⟨v,⟨p,y,r⟩,⟨p2,D,z⟩⟩
 ·right;obtain⟨b,c,d,e,f,l,m,q,x⟩:=QZ (σ:=σ) i g j t 0 a.l a.r 0 (.inr (.inl ⟨rfl,y⟩)) s τ;exact⟨τ,[],[],[],s,b,c,d,e,f,l,m,q,x,h,by rw[v];rfl⟩
 ·rcases F h 0 (by omega) p r y (by simp) s with w|⟨τ1,E,J,K,C,H⟩
  ·exact .inl w
  right;obtain⟨b,c,d,e,f,l,m,q,x⟩:=QZ (σ:=σ) i g j t 1 a.l a.r 1 (.inr (.inr ⟨rfl,D⟩)) am τ1;exact⟨τ1,[E],J,K,am,b,c,d,e,f,l,m,q,Eq.trans C x,H,by rw[v];rfl⟩
 rcases F h 0 (by omega) p r y (by simp) s with w|⟨τ1,E,J,K,C,H⟩
 ·exact .inl w
 rcases F H 1 (by omega) p2 z D (by simp) am with w|⟨B,o2,R,U,V,W⟩
 ·left;have:PM σ i g j t 0 a.l a.r 0 s τ=PM σ i g j t ([]++[E]).length a.l a.r (1:Nat) am τ1:=C;rw[this];exact w
 right;obtain⟨b,c,d,e,f,l,m,q,x⟩:=QZ (σ:=σ) i g j t 2 a.l a.r 2 (.inl rfl) am B;exact⟨B,[E,o2],R,U,am,b,c,d,e,f,l,m,q,Eq.trans (Eq.trans C V) x,W,by rw[v];rfl⟩
def ET(σ:aw)(n:Nat)(S:fG)(g:Bool)(r:Option (Ex×St)):Prop:=∃(o:Option (List EN)) (e:Int) (env:List aq) (τ:aw) (A:List kH) (G:List Int),r=some (.ret,⟨env,τ⟩)∧env[8]?=some (aI σ.length 0 0 0)∧env[9]?=some (ap e)∧τ[σ.length]?=some (aB 1 0 [oz o])∧(o.getD []).length≤1000∧SA τ n { S with ah:=S.ah++A,groups:=S.groups++G }∧Fr n σ τ∧(g=false→A=[]∧G=[])∧(e=0→vW { S with ah:=S.ah++A,groups:=S.groups++G }∧o.isSome=true)
theorem Z6{σ:aw}{n:Nat}{S:fG}{j:Nat}{w:eP}{τ:aw}{os:List (Option (List EN))}{A:List kH}{G:List Int}(h:LS σ n S w false τ os A G)(s:n+11≤σ.length)(i:Nat)(t:Int)(u:0<t)(p a b c d f g k l:aq) :
  ET σ n S false (run code bv ⟨Kl σ i false j t os.length p a b c d f g k l,τ⟩):=by
 have o:=h.b8;have v:=(ak.1 o).1;have m:∃env,run code bv ⟨Kl σ i false j t os.length p a b c d f g k l,τ⟩=some (.ret,⟨env,τ.set σ.length (aB 1 0 [aH [.ai]])⟩)∧env[8]?=some (aI σ.length 0 0 0)∧env[9]?=some (ap 224):=
  ⟨_,by simp[bv,dC,u,o];rfl,rfl,rfl⟩
 obtain⟨env,m,q,r⟩:=m;exact⟨none,224,env,_,A,G,m,q,r,by rw[aV v];rfl,by simp,h.sa.set _ _ s,h.fr.set _ _ (aF _),h.nog,fun e=>by cases e⟩
theorem ahn{σ:aw}{n:Nat}{S:fG}{ns:List eP}{j:Nat}{nd:eP}{τ:aw}{os:List (Option (List EN))}{A:List kH}{G:List Int}(h:LS σ n S nd true τ os A G)(hM:ey σ n S)(hk:S.ac.length≤8000)(hn:n+11≤σ.length)(hc:CL σ n ns j)(i:Nat)(t:Int)(ht:1≤t∧t≤5)(hq:os.length≤1)(T:t=1→os=[])(F g k l m p q s u:aq) :
  ET σ n S true (run code bv ⟨Kl σ i true j t os.length F g k l m p q s u,τ⟩):=by
 have b8:=fv h.b8;have b:=fv h.b14;have H:=fv (hc.fr h.fr).b3;have w:0<t:=by omega
 have N:(os.headD none).getD []=[]∨(os.headD none).getD []∈os.map (·.getD []):=by
  cases os with
  |nil=>left;rfl
  |cons o r=>right;simp
 have M:(kH.mk t (os.headD none)).es.length≤1000:=by
  rcases N with K|K
  ·show ((os.headD none).getD []).length≤1000;rw[K];simp
  obtain⟨o,ho,B⟩:=bM.1 K;show ((os.headD none).getD []).length≤1000;rw[←B];exact h.le o ho
 obtain⟨x,e,τ1,W,X,a,z,D,E⟩:=Z9 (h.sa.app [aB 2 0 [(kH.mk t (os.headD none)).a]]) ((hM.fr h.fr rfl rfl rfl rfl:ey τ n { S with ah:=S.ah++A,groups:=S.groups++G }).app _) h.gk (kH.mk t (os.headD none)) M ht (fun e=>by rw[show os=[] from T e];rfl) hk;have L:(kH.mk t (os.headD none)).a=aH [ap t,sv ((os.headD none).map (·.map EN.a))]:=rfl;rw[L]at a D;simp only[dv]at z E;have d:Fr n τ τ1:=(Fr.app _ _ _).trans D;have f:Fr n σ τ1:=h.fr.trans d;have f8:=fv (d.kp _ _ (.inr (by omega)) h.b8);have c:=d.kp _ _ (.inr (by omega)) h.b8;have Z:=(hc.fr f).b9;have l8:=(ak.1 c).1;have v:=vg ((os.headD none).map (·.map EN.a));have U:∀(P:Option (Ex×St)→Prop),P (run code bv ⟨Kl σ i true j t os.length F g k l m p q s u,τ⟩)→P (run code bv ⟨Kl σ i true j t os.length F g k l m p q s u,τ⟩):=fun _ h=>h;by_cases B:e=0
 ·subst B;obtain⟨es,Y,O,R,_⟩:=LH ⟨2,0,0,x,zE⟩;have Q:(⟨2,0,0,x,zE⟩:EN).a=aH [ap 2,ap 0,ap 0,ap x,ap 0,ap 0,.int .u64 0,aO []]:=rfl;rw[Q]at O;have y:∃env,run code bv ⟨Kl σ i true j t os.length F g k l m p q s u,τ⟩=some (.ret,⟨env,τ1.set σ.length (aB 1 0 [jh es])⟩)∧env[8]?=some (aI σ.length 0 0 0)∧env[9]?=some (ap Y):=by
   rcases os with _|⟨V,_|⟨o2,r⟩⟩
   ·simp only[List.headD_nil,Option.map_none,sv]at a;simp only[bm,bD]at b;exact⟨_,by simp[bv,dC,w,H,b,a,Z,c,O];rfl,rfl,rfl⟩
   ·simp only[List.headD_cons]at a v;simp only[aW,bm,oz,bB,bD]at b;generalize sv (V.map (·.map EN.a))=ov at *;exact⟨_,by simp[bv,dC,w,H,b,a,v,Z,c,O];rfl,rfl,rfl⟩
   simp at hq
  obtain⟨env,y,I,J⟩:=y;exact⟨some es,Y,env,_,A++W,G++X,y,I,J,by rw[aV l8];rfl,R,z.set _ _ hn,f.set _ _ (aF _),(fun C=>by cases C),fun _=>⟨E rfl,rfl⟩⟩
 have y:∃env,run code bv ⟨Kl σ i true j t os.length F g k l m p q s u,τ⟩=some (.ret,⟨env,τ1.set σ.length (aB 1 0 [aH [.ai]])⟩)∧env[8]?=some (aI σ.length 0 0 0)∧env[9]?=some (ap e):=by
  rcases os with _|⟨V,_|⟨o2,r⟩⟩
  ·simp only[List.headD_nil,Option.map_none,sv]at a;simp only[bm,bD]at b;exact⟨_,by simp[bv,dC,w,H,b,a,c,B];rfl,rfl,rfl⟩
  ·simp only[List.headD_cons]at a v;simp only[aW,bm,oz,bB,bD]at b;generalize sv (V.map (·.map EN.a))=ov at *;exact⟨_,by simp[bv,dC,w,H,b,a,v,c,B];rfl,rfl,rfl⟩
  simp at hq
 obtain⟨env,y,I,J⟩:=y;exact⟨none,e,env,_,A++W,G++X,y,I,J,by rw[aV l8];rfl,by simp,z.set _ _ hn,f.set _ _ (aF _),(fun C=>by cases C),fun C=>absurd C B⟩
theorem WH{σ:aw}{n:Nat}{S:fG}{ns:List eP}{j:Nat}{f:eP}{τ:aw}(z:Option (List EN)){A:List kH}{G:List Int}(g:Bool)(h:LS σ n S f g τ [z] A G)(hk:S.ac.length≤8000)(hn:n+11≤σ.length)(hc:CL σ n ns j)(i:Nat)(V o p q r s t u v:aq) :
  ET σ n S g (run code bv ⟨Kl σ i g j 0 1 V o p q r s t u v,τ⟩):=by
 have W:=fv h.b8;have w:=fv h.b10;have b:=h.b10;have x:=fv h.b14;have c:=h.b14;have Z:=fv (hc.fr h.fr).b10;have R:=h.le z (by simp);have ad:f.a=aH [ap f.tag,ap f.l,ap f.r,ap f.v.k,ap f.v.n,.int .u64 f.v.u,aO f.v.s,aO f.table,aO f.name]:=rfl;rw[ad]at w b;obtain⟨a,D,h1,l1,_⟩:=aeN f.tag (z.getD []) R;have l:∀base σ m,fz true false base σ (m+4) (sv (z.map (·.map EN.a)))=.aa false ((z.getD []).map EN.a):=fun base σ m=>by cases z<;>simp[sv]
 have k:=vg (z.map (·.map EN.a));have ab:S.groups.length+G.length≤8000:=by
  have:=h.gk.gr;have a1:=h.gk.kl;have a2:=h.gk.al;have a3:({ S with ah:=S.ah++A,groups:=S.groups++G }:fG).groups.length=S.groups.length+G.length:=by simp
  rw[←a3,this];simp at a1 a2 ⊢;omega
 simp only[aW,bm,oz,bB,bD]at x c;have Q:=fun J (kk:List Int) (ae:kk.length≤8000)=>pA false a J kk (by unfold bC;omega) (by unfold bC;omega);have T:∀(e:Int) (d:aw),d[σ.length]?=some (aB 1 0 [jh a])→SA d n { S with ah:=S.ah++A,groups:=S.groups++G }→Fr n σ d→∀env:List aq,env[8]?=some (aI σ.length 0 0 0)→env[9]?=some (ap e)→run code bv ⟨Kl σ i g j 0 1 V o p q r s t u v,τ⟩=some (.ret,⟨env,d⟩)→ET σ n S g (run code bv ⟨Kl σ i g j 0 1 V o p q r s t u v,τ⟩):=
  fun e d hb hs hf env L M y=>⟨some a,e,env,d,A,G,y,L,M,hb,l1,hs,hf,h.nog,fun _=>⟨h.gk,rfl⟩⟩
 have aj:σ.length<(τ++[Obj.arr 1 0 [jh a]]).length:=(ak.1 (W [Obj.arr 1 0 [jh a]])).1;have N:((τ++[Obj.arr 1 0 [jh a]]).set σ.length (aB 1 0 [jh a]))[σ.length]?=some (aB 1 0 [jh a]):=by rw[aV aj]
 have U:SA ((τ++[Obj.arr 1 0 [jh a]]).set σ.length (aB 1 0 [jh a])) n { S with ah:=S.ah++A,groups:=S.groups++G }:=(h.sa.app _).set _ _ hn;have O:Fr n σ ((τ++[Obj.arr 1 0 [jh a]]).set σ.length (aB 1 0 [jh a])):=(h.fr.trans (Fr.app _ _ _)).set _ _ (aF _);obtain⟨B,E⟩:∃B,B=S.groups++G:=⟨_,rfl⟩;have H:∀X,cC code I.qac [aC g,aI j 0 0 0] (τ++X)=some (if g then kq (n+10) B.length else kq (n+9) S.ac.length,τ++X):=fun X=>by
  rw[E];exact Bl (h.sa.app X) ((hc.fr h.fr).fr (Fr.app n τ X)) g
 have Y:∀X,(τ++X)[n+9]?=some (aB 1 S.ac.length (eA S.ac)):=h.sa.at9;have C:∀X,(τ++X)[n+10]?=some (aB 1 B.length (eA B)):=by rw[E];exact h.sa.at10
 have P:B.length≤8000:=by rw[E];simpa using ab
 by_cases he:D=0
 ·subst he;have y:∃(env:List aq) (e:Int),run code bv ⟨Kl σ i g j 0 1 V o p q r s t u v,τ⟩=some (.ret,⟨env,(τ++[Obj.arr 1 0 [jh a]]).set σ.length (aB 1 0 [jh a])⟩)∧env[8]?=some (aI σ.length 0 0 0)∧env[9]?=some (ap e):=by
   generalize sv (z.map (·.map EN.a))=ov at *;cases g with
   |false=>
    have F:=fun J=>Q J S.ac hk;generalize eF a S.ac=K at *;exact⟨_,K.2,by simp[bv,fD,fF,fw,fu,fj,dC,fC,fB,fp,fh,w,b,x,c,Z,W,h1,l,k,H,Y,C,F];rfl,rfl,rfl⟩
   |true=>
    have F:=fun J=>Q J B P;generalize eF a B=K at *;exact⟨_,K.2,by simp[bv,fD,fF,fw,fu,fj,dC,fC,fB,fp,fh,w,b,x,c,Z,W,h1,l,k,H,Y,C,F];rfl,rfl,rfl⟩
  obtain⟨env,e,y,L,M⟩:=y;exact T e _ N U O env L M y
 have y:∃(env:List aq),run code bv ⟨Kl σ i g j 0 1 V o p q r s t u v,τ⟩=some (.ret,⟨env,(τ++[Obj.arr 1 0 [jh a]]).set σ.length (aB 1 0 [jh a])⟩)∧env[8]?=some (aI σ.length 0 0 0)∧env[9]?=some (ap D):=by
  generalize sv (z.map (·.map EN.a))=ov at *;exact⟨_,by simp[bv,fD,fF,fw,fu,fj,dC,fC,fB,fp,fh,w,b,x,c,Z,W,h1,l,k,H,Y,C,he];rfl,rfl,rfl⟩
 obtain⟨env,y,L,M⟩:=y;exact T D _ N U O env L M y
theorem WR{σ:aw}{n:Nat}{S:fG}{ns:List eP}{j:Nat}{d:eP}{τ:aw}(y D:Option (List EN)){A:List kH}{G:List Int}(g:Bool)(h:LS σ n S d g τ [y,D] A G)(hk:S.ac.length≤8000)(hn:n+11≤σ.length)(hc:CL σ n ns j)(i:Nat)(y9 q r s t u v w x:aq) :
  ET σ n S g (run code bv ⟨Kl σ i g j 0 2 y9 q r s t u v w x,τ⟩):=by
 have b8:=fv h.b8;have z:=fv h.b10;have b:=h.b10;have B:=fv h.b14;have c:=h.b14;have b7:=fv (hc.fr h.fr).b10;have F:=h.le y (by simp);have W:=h.le D (by simp);have ad:d.a=aH [ap d.tag,ap d.l,ap d.r,ap d.v.k,ap d.v.n,.int .u64 d.v.u,aO d.v.s,aO d.table,aO d.name]:=rfl;rw[ad]at z b;obtain⟨ag,af,h1,l1,_⟩:=aeN d.tag (y.getD []) F;obtain⟨a,J,h2,l2,_⟩:=am6 d.tag (y.getD []) (D.getD []) F W;have o:∀base σ m,fz true false base σ (m+4) (sv (y.map (·.map EN.a)))=.aa false ((y.getD []).map EN.a):=fun base σ m=>by cases y<;>simp[sv]
 have k:=vg (y.map (·.map EN.a));have p:∀base σ m,fz true false base σ (m+4) (sv (D.map (·.map EN.a)))=.aa false ((D.getD []).map EN.a):=fun base σ m=>by cases D<;>simp[sv]
 have l:=vg (D.map (·.map EN.a));have ab:S.groups.length+G.length≤8000:=by
  have:=h.gk.gr;have a1:=h.gk.kl;have a2:=h.gk.al;have a3:({ S with ah:=S.ah++A,groups:=S.groups++G }:fG).groups.length=S.groups.length+G.length:=by simp
  rw[←a3,this];simp at a1 a2 ⊢;omega
 simp only[aW,bm,oz,bB,bD]at B c;have V:=fun O (kk:List Int) (al:kk.length≤8000)=>pA false a O kk (by unfold bC;omega) (by unfold bC;omega);have Y:∀(e:Int) (f:aw),f[σ.length]?=some (aB 1 0 [jh a])→SA f n { S with ah:=S.ah++A,groups:=S.groups++G }→Fr n σ f→∀env:List aq,env[8]?=some (aI σ.length 0 0 0)→env[9]?=some (ap e)→run code bv ⟨Kl σ i g j 0 2 y9 q r s t u v w x,τ⟩=some (.ret,⟨env,f⟩)→ET σ n S g (run code bv ⟨Kl σ i g j 0 2 y9 q r s t u v w x,τ⟩):=
  fun e f hb hs hf env P Q C=>⟨some a,e,env,f,A,G,C,P,Q,hb,l2,hs,hf,h.nog,fun _=>⟨h.gk,rfl⟩⟩
 have aj:σ.length<(τ++[Obj.arr 1 0 [jh a]]).length:=(ak.1 (b8 [Obj.arr 1 0 [jh a]])).1;have R:((τ++[Obj.arr 1 0 [jh a]]).set σ.length (aB 1 0 [jh a]))[σ.length]?=some (aB 1 0 [jh a]):=by rw[aV aj]
 have Z:SA ((τ++[Obj.arr 1 0 [jh a]]).set σ.length (aB 1 0 [jh a])) n { S with ah:=S.ah++A,groups:=S.groups++G }:=(h.sa.app _).set _ _ hn;have T:Fr n σ ((τ++[Obj.arr 1 0 [jh a]]).set σ.length (aB 1 0 [jh a])):=(h.fr.trans (Fr.app _ _ _)).set _ _ (aF _);obtain⟨E,L⟩:∃E,E=S.groups++G:=⟨_,rfl⟩;have N:∀X,cC code I.qac [aC g,aI j 0 0 0] (τ++X)=some (if g then kq (n+10) E.length else kq (n+9) S.ac.length,τ++X):=fun X=>by
  rw[L];exact Bl (h.sa.app X) ((hc.fr h.fr).fr (Fr.app n τ X)) g
 have a9:∀X,(τ++X)[n+9]?=some (aB 1 S.ac.length (eA S.ac)):=h.sa.at9;have H:∀X,(τ++X)[n+10]?=some (aB 1 E.length (eA E)):=by rw[L];exact h.sa.at10
 have U:E.length≤8000:=by rw[L];simpa using ab
 by_cases he:J=0
 ·subst he;have C:∃(env:List aq) (e:Int),run code bv ⟨Kl σ i g j 0 2 y9 q r s t u v w x,τ⟩=some (.ret,⟨env,(τ++[Obj.arr 1 0 [jh a]]).set σ.length (aB 1 0 [jh a])⟩)∧env[8]?=some (aI σ.length 0 0 0)∧env[9]?=some (ap e):=by
   generalize sv (y.map (·.map EN.a))=ov at *;generalize sv (D.map (·.map EN.a))=ae at *;cases g with
   |false=>
    have M:=fun O=>V O S.ac hk;generalize eF a S.ac=K at *;exact⟨_,K.2,by simp[bv,fD,fF,fw,fu,fj,dC,fC,fB,fp,fh,z,b,B,c,b7,b8,h1,h2,p,l,o,k,N,a9,H,M];rfl,rfl,rfl⟩
   |true=>
    have M:=fun O=>V O E U;generalize eF a E=K at *;exact⟨_,K.2,by simp[bv,fD,fF,fw,fu,fj,dC,fC,fB,fp,fh,z,b,B,c,b7,b8,h1,h2,p,l,o,k,N,a9,H,M];rfl,rfl,rfl⟩
  obtain⟨env,e,C,P,Q⟩:=C;exact Y e _ R Z T env P Q C
 have C:∃(env:List aq),run code bv ⟨Kl σ i g j 0 2 y9 q r s t u v w x,τ⟩=some (.ret,⟨env,(τ++[Obj.arr 1 0 [jh a]]).set σ.length (aB 1 0 [jh a])⟩)∧env[8]?=some (aI σ.length 0 0 0)∧env[9]?=some (ap J):=by
  generalize sv (y.map (·.map EN.a))=ov at *;generalize sv (D.map (·.map EN.a))=ae at *;exact⟨_,by simp[bv,fD,fF,fw,fu,fj,dC,fC,fB,fp,fh,z,b,B,c,b7,b8,h1,h2,p,l,o,k,N,a9,H,he];rfl,rfl,rfl⟩
 obtain⟨env,C,P,Q⟩:=C;exact Y J _ R Z T env P Q C
abbrev Jx(nd:eP):aw:=[aB 1 0 [aH [.ai]],aB 9 0 [nd.a]]
theorem aei{σ:aw}{n:Nat}{t:List eP}{j:Nat}(s:CL σ n t j)(i:Nat)(a:eP)(g:Bool):run code eo ⟨[ap i,aC g,aI (j+1) 0 0 0,aI (j+4) 0 0 0,aI j 0 0 0,aI (j+3) 0 0 0,aI (j+6) 0 0 0,aI (j+5) 0 0 0,aI σ.length 0 0 0,ap 0,aI (σ.length+1) 0 0 0,am,am,am,am,am,am,am,am,am,am,am,am,aC false,aC false,am,am,am,am,am,am,am,am,am,am,am,am,am,am],σ++Jx a⟩=some (.nrm,⟨[ap i,aC g,aI (j+1) 0 0 0,aI (j+4) 0 0 0,aI j 0 0 0,aI (j+3) 0 0 0,aI (j+6) 0 0 0,aI (j+5) 0 0 0,aI σ.length 0 0 0,ap 0,aI (σ.length+1) 0 0 0,am,am,ap (pL a.tag),am,am,am,am,am,am,am,am,am,aC false,aC false,am,am,am,am,am,am,am,am,am,am,am,am,am,am],σ++Jx a⟩):=by
 have e:=fv s.b8;have o:a.a=aH [ap a.tag,ap a.l,ap a.r,ap a.v.k,ap a.v.n,.int .u64 a.v.u,aO a.v.s,aO a.table,aO a.name]:=rfl;unfold pL;simp only[Jx,o];generalize a.tag=b;by_cases k:b=3
 ·subst k;simp[eo,e,lookup,qI]
 by_cases l:b=8
 ·subst l;simp[eo,e,lookup,qI]
 by_cases m:b=9
 ·subst m;simp[eo,e,lookup,qI]
 by_cases c:b=10
 ·subst c;simp[eo,e,lookup,qI]
 by_cases d:b=11
 ·subst d;simp[eo,e,lookup,qI]
 have p:((3:Int)==b)=false:=by simp;omega
 have q:((8:Int)==b)=false:=by simp;omega
 have r:((9:Int)==b)=false:=by simp;omega
 have f:((10:Int)==b)=false:=by simp;omega
 have h:((11:Int)==b)=false:=by simp;omega
 simp[eo,e,lookup,qI,k,l,m,c,d,p,q,r,f,h,Ne.symm k,Ne.symm l,Ne.symm m,Ne.symm c,Ne.symm d]
theorem Zj{σ:aw}{n:Nat}{c:List eP}{j:Nat}(k:CL σ n c j)(i:Nat)(a:eP)(hi:c[i]?=some a)(g:Bool)(s:a.tag≠1)(t:a.tag≠2) :
  run code Cs ⟨[ap i,aC g,aI (j+1) 0 0 0,aI (j+4) 0 0 0,aI j 0 0 0,aI (j+3) 0 0 0,aI (j+6) 0 0 0,aI (j+5) 0 0 0,am,am,am,am,am,am,am,am,am,am,am,am,am,am,am,am,am,am,am,am,am,am,am,am,am,am,am,am,am,am,am],σ⟩=tu bv (rH 0 (PM σ i g j (pL a.tag) 0 a.l a.r 0 am (σ++Jx a++[aB 1 0 []]))):=by
 have o:=fv k.b4;have f:i<c.length:=(ak.1 hi).1;have e:(i:Int)<(c.length:Int):=by omega
 have d:∀h:i<c.length,c[i]'h=a:=fun h=>(ak.1 hi).2;have b:a.a=aH [ap a.tag,ap a.l,ap a.r,ap a.v.k,ap a.v.n,.int .u64 a.v.u,aO a.v.s,aO a.table,aO a.name]:=rfl;have u:run code lF ⟨[ap i,aC g,aI (j+1) 0 0 0,aI (j+4) 0 0 0,aI j 0 0 0,aI (j+3) 0 0 0,aI (j+6) 0 0 0,aI (j+5) 0 0 0,am,am,am,am,am,am,am,am,am,am,am,am,am,am,am,am,am,am,am,am,am,am,am,am,am,am,am,am,am,am,am],σ⟩=some (.nrm,⟨[ap i,aC g,aI (j+1) 0 0 0,aI (j+4) 0 0 0,aI j 0 0 0,aI (j+3) 0 0 0,aI (j+6) 0 0 0,aI (j+5) 0 0 0,aI σ.length 0 0 0,ap 0,am,am,am,am,am,am,am,am,am,am,am,am,am,am,am,am,am,am,am,am,am,am,am,am,am,am,am,am,am],σ++[aB 1 0 [aH [.ai]]]⟩):=by
  simp[lF]
 have v:run code iR ⟨[ap i,aC g,aI (j+1) 0 0 0,aI (j+4) 0 0 0,aI j 0 0 0,aI (j+3) 0 0 0,aI (j+6) 0 0 0,aI (j+5) 0 0 0,aI σ.length 0 0 0,ap 0,am,am,am,am,am,am,am,am,am,am,am,am,am,am,am,am,am,am,am,am,am,am,am,am,am,am,am,am,am],σ++[aB 1 0 [aH [.ai]]]⟩=some (.nrm,⟨[ap i,aC g,aI (j+1) 0 0 0,aI (j+4) 0 0 0,aI j 0 0 0,aI (j+3) 0 0 0,aI (j+6) 0 0 0,aI (j+5) 0 0 0,aI σ.length 0 0 0,ap 0,aI (σ.length+1) 0 0 0,am,am,am,am,am,am,am,am,am,am,am,am,am,am,am,am,am,am,am,am,am,am,am,am,am,am,am,am],σ++Jx a⟩):=by
  simp only[Jx,b];simp[iR,o,hi,f,e,d,b]
 have w:run code (.seq gJ (.seq gC gD)) ⟨[ap i,aC g,aI (j+1) 0 0 0,aI (j+4) 0 0 0,aI j 0 0 0,aI (j+3) 0 0 0,aI (j+6) 0 0 0,aI (j+5) 0 0 0,aI σ.length 0 0 0,ap 0,aI (σ.length+1) 0 0 0,am,am,am,am,am,am,am,am,am,am,am,am,am,am,am,am,am,am,am,am,am,am,am,am,am,am,am,am],σ++Jx a⟩=run code gD ⟨[ap i,aC g,aI (j+1) 0 0 0,aI (j+4) 0 0 0,aI j 0 0 0,aI (j+3) 0 0 0,aI (j+6) 0 0 0,aI (j+5) 0 0 0,aI σ.length 0 0 0,ap 0,aI (σ.length+1) 0 0 0,am,am,am,am,am,am,am,am,am,am,am,am,aC false,aC false,am,am,am,am,am,am,am,am,am,am,am,am,am,am],σ++Jx a⟩:=by
  have l:run code gJ ⟨[ap i,aC g,aI (j+1) 0 0 0,aI (j+4) 0 0 0,aI j 0 0 0,aI (j+3) 0 0 0,aI (j+6) 0 0 0,aI (j+5) 0 0 0,aI σ.length 0 0 0,ap 0,aI (σ.length+1) 0 0 0,am,am,am,am,am,am,am,am,am,am,am,am,am,am,am,am,am,am,am,am,am,am,am,am,am,am,am,am],σ++Jx a⟩=some (.nrm,⟨([ap i,aC g,aI (j+1) 0 0 0,aI (j+4) 0 0 0,aI j 0 0 0,aI (j+3) 0 0 0,aI (j+6) 0 0 0,aI (j+5) 0 0 0,aI σ.length 0 0 0,ap 0,aI (σ.length+1) 0 0 0,am,am,am,am,am,am,am,am,am,am,am,am,am,am,am,am,am,am,am,am,am,am,am,am,am,am,am,am]:List aq).set 23 (aC false),σ++Jx a⟩):=by
   simp only[Jx,b];simp[gJ,s]
  have m:run code gC ⟨([ap i,aC g,aI (j+1) 0 0 0,aI (j+4) 0 0 0,aI j 0 0 0,aI (j+3) 0 0 0,aI (j+6) 0 0 0,aI (j+5) 0 0 0,aI σ.length 0 0 0,ap 0,aI (σ.length+1) 0 0 0,am,am,am,am,am,am,am,am,am,am,am,am,am,am,am,am,am,am,am,am,am,am,am,am,am,am,am,am]:List aq).set 23 (aC false),σ++Jx a⟩=some (.nrm,⟨[ap i,aC g,aI (j+1) 0 0 0,aI (j+4) 0 0 0,aI j 0 0 0,aI (j+3) 0 0 0,aI (j+6) 0 0 0,aI (j+5) 0 0 0,aI σ.length 0 0 0,ap 0,aI (σ.length+1) 0 0 0,am,am,am,am,am,am,am,am,am,am,am,am,aC false,aC false,am,am,am,am,am,am,am,am,am,am,am,am,am,am],σ++Jx a⟩):=by
   simp only[Jx,b];simp[gC,t]
  rw[fy,l,bW,fy,m,bW]
 have q:lE=.seq gJ (.seq gC gD):=rfl;have r:gD=.seq eo (.seq iU (.seq iO bv)):=rfl;have p:pJ=.seq iR lE:=rfl;have x:run code iU ⟨[ap i,aC g,aI (j+1) 0 0 0,aI (j+4) 0 0 0,aI j 0 0 0,aI (j+3) 0 0 0,aI (j+6) 0 0 0,aI (j+5) 0 0 0,aI σ.length 0 0 0,ap 0,aI (σ.length+1) 0 0 0,am,am,ap (pL a.tag),am,am,am,am,am,am,am,am,am,aC false,aC false,am,am,am,am,am,am,am,am,am,am,am,am,am,am],σ++Jx a⟩=some (.nrm,⟨[ap i,aC g,aI (j+1) 0 0 0,aI (j+4) 0 0 0,aI j 0 0 0,aI (j+3) 0 0 0,aI (j+6) 0 0 0,aI (j+5) 0 0 0,aI σ.length 0 0 0,ap 0,aI (σ.length+1) 0 0 0,am,am,ap (pL a.tag),.sl (σ.length+2) 0 0 0,am,am,am,am,am,am,am,am,aC false,aC false,am,am,am,am,am,am,am,am,am,am,am,am,am,am],σ++Jx a++[aB 1 0 []]⟩):=by
  simp[iU]
 have y:run code iO ⟨[ap i,aC g,aI (j+1) 0 0 0,aI (j+4) 0 0 0,aI j 0 0 0,aI (j+3) 0 0 0,aI (j+6) 0 0 0,aI (j+5) 0 0 0,aI σ.length 0 0 0,ap 0,aI (σ.length+1) 0 0 0,am,am,ap (pL a.tag),.sl (σ.length+2) 0 0 0,am,am,am,am,am,am,am,am,aC false,aC false,am,am,am,am,am,am,am,am,am,am,am,am,am,am],σ++Jx a++[aB 1 0 []]⟩=rH 0 (PM σ i g j (pL a.tag) 0 a.l a.r 0 am (σ++Jx a++[aB 1 0 []])):=by
  unfold PM;simp only[Jx,b];simp[iO]
 rw[Az,fy,u,bW,p,fy,v,bW,q,w,r,fy,aei k,bW,fy,x,bW,fy,y]
theorem S0{σ:aw}{n:Nat}{S:fG}{g:Bool}{r:Option (Ex×St)}(h:ET σ n S g r):HF σ n S g (wq arw.res r):=by
 obtain⟨o,e,env,τ,A,G,rfl,d,f,c,k,l,i,b,j⟩:=h;refine⟨o,e,τ,A,G,?_,k,l,i,b,j⟩;have a:=vg (o.map (·.map EN.a));simp only[oz]at c;generalize sv (o.map (·.map EN.a))=m at *;simp[arw,d,f,c,a]
theorem Xa{σ:aw}{n:Nat}{S:fG}{z:List eP}{j:Nat}(h:SA σ n S)(s:ey σ n S)(t:vW S)(f:CL σ n z j)(u:S.ac.length≤8000)(m:n+11≤σ.length)(i:Nat)(a:eP)(hi:z[i]?=some a)(p:Ez i a)(g:Bool)(ih:abb n z j i S):HF σ n S g (cC code I.qad (rR i g j) σ):=by
 by_cases N:a.tag=1
 ·exact abM h t f i a hi g N
 by_cases O:a.tag=2
 ·exact V7 h s t f i a hi g O
 rw[cw abp rfl];have R:arw.body=Cs:=rfl;have v:(rR i g j).take arw.np++List.replicate (arw.nenv-arw.np) aq.any=[ap i,aC g,aI (j+1) 0 0 0,aI (j+4) 0 0 0,aI j 0 0 0,aI (j+3) 0 0 0,aI (j+6) 0 0 0,aI (j+5) 0 0 0,am,am,am,am,am,am,am,am,am,am,am,am,am,am,am,am,am,am,am,am,am,am,am,am,am,am,am,am,am,am,am]:=rfl;rw[R,v,Zj f i a hi g N O];have T:LS σ n S a g (σ++Jx a++[aB 1 0 []]) [] [] []:=by
  refine⟨by simpa using (h.app (Jx a)).app [aB 1 0 []],(Fr.app _ _ _).trans (Fr.app _ _ _),fun _=>⟨rfl,rfl⟩,by simpa using t,by simp,by simp,by simp,by simp⟩
 rcases ahy g T s m f i (pL a.tag) p am ih with U|⟨M,os,A,G,z9,C,D,E,F,H,J,K,L,r,b,c⟩
 ·obtain⟨o,e,env,τ,A,G,Z,W,P,Q,V,Y,hs,X,w⟩:=U;refine S0 ⟨o,e,env,τ,A,G,?_,P,Q,V,Y,hs,X,w,fun d=>absurd d W⟩;rw[Z];rfl
 apply S0;rw[r];show ET σ n S g (run code bv ⟨Kl σ i g j (pL a.tag) os.length z9 C D E F H J K L,M⟩);have ab:=QX a.tag;by_cases y:0<pL a.tag
 ·cases g with
  |false=>exact Z6 b m i _ y _ _ _ _ _ _ _ _ _
  |true=>
   refine ahn b s u m f i _ ⟨by omega,by omega⟩ ?_ ?_ _ _ _ _ _ _ _ _ _
   ·rcases IN y with⟨_,l⟩|⟨_,l⟩<;>rw[l]at c<;>omega
   intro e1;rcases IN y with⟨_,l⟩|⟨h4,l⟩
   ·rw[l]at c;exact da.1 (by omega)
   omega
 have k:pL a.tag=0:=by omega
 rw[k];have q:iD a.tag=1∨iD a.tag=2:=by
  have l:a.tag≠3:=by intro e;rw[e]at k;cases k
  rcases p with⟨d,_⟩|⟨d,_⟩|⟨d,_⟩
  ·exfalso;unfold iD at d;split at d
   ·omega
   split at d
   ·omega
   split at d<;>omega
  ·exact .inl d
  exact .inr d
 rcases q with x|x
 ·rw[x]at c;obtain⟨B,rfl⟩:=ky.1 (show os.length=1 by omega);exact WH B g b u m f i _ _ _ _ _ _ _ _ _
 rw[x]at c
 match os,c,b with
 |[B,o2],_,b=>exact WR B o2 g b u m f i _ _ _ _ _ _ _ _ _
 |[],c,_=>simp at c
 |[_],c,_=>simp at c
 |_::_::_::_,c,_=>simp at c;omega
theorem Wm{n:Nat}{f:List eP}{j:Nat}(q:ml f):∀(i:Nat),i<f.length→∀(g:Bool) (σ:aw) (S:fG),SA σ n S→ey σ n S→vW S→CL σ n f j→S.ac.length≤8000→HF σ n S g (cC code I.qad (rR i g j) σ):=by
 intro i;induction i using Nat.strongRecOn with
 |_ i u=>
  intro hi g σ S h o r c k;have s:n+11≤σ.length:=by
   have:=(ak.1 c.b3).1;have:=c.ge;omega
  have a:=au hi;refine Xa h o r c k s i _ a (q.node i _ a) g ?_;intro p t l τ A G m b e d;exact u p t (by omega) l τ _ m b e d k
theorem C8:UZ=.seq mR qW:=rfl
theorem SA.len{σ:aw}{n:Nat}{S:fG}(h:SA σ n S):n+11≤σ.length:=by
 obtain⟨P,J,rfl,rfl⟩:=h;simp
def alK(σ:aw)(n:Nat)(S:fG)(g:Bool)(r:Option (aq×aw)):Prop:=
 ∃(o:Option (List EN)) (k e:Int) (σ':aw) (A:List kH) (G:List Int),r=some (fb [oz o,ap k,ap e],σ')∧(o.getD []).length≤1000∧SA σ' n { S with ah:=S.ah++A,groups:=S.groups++G }∧Fr n σ σ'∧(g=false→A=[]∧G=[])∧(e=0→vW { S with ah:=S.ah++A,groups:=S.groups++G }∧o.isSome=true∧eF (o.getD []) (if g then S.groups++G else S.ac)=(k,0))
abbrev bnX(σ:aw)(n:Nat)(ns:List eP):aw:=[aB 1 0 [aI (n+3) 0 0 0],aB 1 0 [aH [.aa false (ns.map eP.a)]],aB 1 0 [aH [.ai]],aB 1 0 [Il],aB 1 0 [.fn 100 [] []],aB 1 0 [.fn 103 [] [aI σ.length 0 0 0]],aB 1 0 [.fn 82 [] [aI (σ.length+1) 0 0 0,aI (σ.length+4) 0 0 0,aI σ.length 0 0 0,aI (σ.length+3) 0 0 0,aI (σ.length+6) 0 0 0,aI (σ.length+5) 0 0 0]]]
abbrev bnE(σ:aw)(n:Nat)(ns:List eP)(g:Bool)(e12 e13 e14 e15:aq):List aq:=[aI (n+3) 0 0 0,aH [.aa false (ns.map eP.a)],aC g,aI σ.length 0 0 0,aI (σ.length+1) 0 0 0,aI (σ.length+2) 0 0 0,i0,i0,aI (σ.length+3) 0 0 0,aI (σ.length+4) 0 0 0,aI (σ.length+5) 0 0 0,aI (σ.length+6) 0 0 0,e12,e13,e14,e15]
theorem WP(σ:aw)(n:Nat)(a:List eP)(g:Bool):run code UZ ⟨[aI (n+3) 0 0 0,aH [.aa false (a.map eP.a)],aC g,am,am,am,am,am,am,am,am,am,am,am,am,am],σ⟩=run code jZ ⟨bnE σ n a g am am am am,σ++bnX σ n a⟩:=by
 have c:=Yx;have d:run code mR ⟨[aI (n+3) 0 0 0,aH [.aa false (a.map eP.a)],aC g,am,am,am,am,am,am,am,am,am,am,am,am,am],σ⟩=some (.nrm,⟨[aI (n+3) 0 0 0,aH [.aa false (a.map eP.a)],aC g,aI σ.length 0 0 0,aI (σ.length+1) 0 0 0,aI (σ.length+2) 0 0 0,i0,i0,am,am,am,am,am,am,am,am],σ++[aB 1 0 [aI (n+3) 0 0 0],aB 1 0 [aH [.aa false (a.map eP.a)]],aB 1 0 [aH [.ai]]]⟩):=by
  simp[mR]
 have b:qW=.seq mU (.seq mK (.seq mN (.seq mP (.seq mL jZ)))):=rfl;rw[C8,fy,d,bW,b];simp[mU,mK,mN,mP,mL,c]
theorem Km{σ:aw}{n:Nat}{S:fG}{a:List eP}(h:SA σ n S)(hM:ey σ n S)(hg:vW S)(Q:ml a)(Y:S.ac.length≤8000)(g:Bool):alK σ n S g (cC code I.qaa [aI (n+3) 0 0 0,aH [.aa false (a.map eP.a)],aC g] σ):=by
 rw[cw anL rfl];have hE:arJ.body=UZ:=rfl;have V:[aq.ptr (n+3) 0 0 0,aH [.aa false (a.map eP.a)],aC g].take arJ.np++List.replicate (arJ.nenv-arJ.np) aq.any=[aI (n+3) 0 0 0,aH [.aa false (a.map eP.a)],aC g,am,am,am,am,am,am,am,am,am,am,am,am,am]:=rfl;rw[hE,V,WP];have B:=h.len;have F:CL (σ++bnX σ n a) n a σ.length:=⟨B,by simp,by simp,by simp,by simp,by simp,by simp⟩;have Z:=Q.pos;have ad:=Q.le;obtain⟨o,e,τ,A,G,b,U,i,t,C,f⟩:=Wm Q (a.length-1) (by omega) g (σ++bnX σ n a) S (h.app _) (hM.app _) hg F Y;have s:((a.length-1:Nat):Int)=(a.length:Int)-1:=by omega
 have w1:IntKind.i64.wrap ((a.length:Int)-1)=(a.length:Int)-1:=qL (by omega) (by omega);simp only[rR,s]at b;have y:Fr n σ τ:=(Fr.app _ _ _).trans t;have p:=F.fr t;have N:=F.b11;have f4:=F.b4;have x:=fv p.b10;have O:τ[σ.length+2]?=some (aB 1 0 [aH [.ai]]):=t.kp _ _ (.inr (by omega)) (by simp);have v:=fv O;have l:=vg (o.map (·.map EN.a));have l5:σ.length+2<(τ++[Obj.arr 1 0 [oz o]]).length:=(ak.1 (v [Obj.arr 1 0 [oz o]])).1;have e6:jZ=.seq jY (.seq fQ (.seq gn gm)):=rfl;have q6:run code jY ⟨bnE σ n a g am am am am,σ++bnX σ n a⟩=some (.nrm,⟨bnE σ n a g (aI τ.length 0 0 0) (ap e) am am,τ++[Obj.arr 1 0 [oz o]]⟩):=by
  simp only[oz];generalize sv (o.map (·.map EN.a))=H at *;simp only[bnX]at N f4 b ⊢;simp[jY,w1,b,l]
 rw[e6,fy,q6,bW];have q:Fr n σ (τ++[Obj.arr 1 0 [oz o]]):=y.trans (Fr.app _ _ _);by_cases R:e=0
 ·subst R;obtain⟨c,j⟩:∃c,c=S.groups++G:=⟨_,rfl⟩;have D:∀X,cC code I.qac [aC g,aI σ.length 0 0 0] (τ++X)=some (if g then kq (n+10) c.length else kq (n+9) S.ac.length,τ++X):=fun X=>by
   rw[j];exact Bl (i.app X) (p.fr (Fr.app n τ X)) g
  have W:∀X,(τ++X)[n+9]?=some (aB 1 S.ac.length (eA S.ac)):=i.at9;have w:∀X,(τ++X)[n+10]?=some (aB 1 c.length (eA c)):=by rw[j];exact i.at10
  have z:c.length≤8000:=by
   have:=(f rfl).1.gr;have a1:=(f rfl).1.kl;have a2:=(f rfl).1.al;rw[j];have a3:S.groups++G=({ S with ah:=S.ah++A,groups:=S.groups++G }:fG).groups:=rfl;rw[a3,this];simp at a1 a2 ⊢;omega
  have E:∀base σ m,fz true false base σ (m+4) (sv (o.map (·.map EN.a)))=.aa false ((o.getD []).map EN.a):=fun base σ m=>by cases o<;>simp[sv]
  have T:=fun J (kk:List Int) (ab:kk.length≤8000)=>pA false (o.getD []) J kk (by unfold bC;omega) (by unfold bC;omega);have k:=fun J=>T J (if g then c else S.ac) (by cases g<;>simp[z,Y]);have u:∃env,run code (.seq fQ (.seq gn gm)) ⟨bnE σ n a g (aI τ.length 0 0 0) i0 am am,τ++[Obj.arr 1 0 [oz o]]⟩=some (.ret,⟨env,(τ++[Obj.arr 1 0 [oz o]]).set (σ.length+2) (aB 1 0 [oz o])⟩)∧env[5]?=some (aI (σ.length+2) 0 0 0)∧env[6]?=some (ap (eF (o.getD []) (if g then c else S.ac)).1)∧env[7]?=some (ap (eF (o.getD []) (if g then c else S.ac)).2):=by
   simp only[oz]at v ⊢;generalize eF (o.getD []) (if g then c else S.ac)=K at *;generalize sv (o.map (·.map EN.a))=H at *;cases g with
   |false=>
    simp only[bq,cH]at k;exact⟨_,by simp[fQ,gn,gm,mM,me,x,v,D,W,w,E,l,k];rfl,rfl,rfl,rfl⟩
   |true=>
    simp only[cz]at k;exact⟨_,by simp[fQ,gn,gm,mM,me,x,v,D,W,w,E,l,k];rfl,rfl,rfl,rfl⟩
  obtain⟨env,u,L,r,M⟩:=u;rw[u];have d:((τ++[Obj.arr 1 0 [oz o]]).set (σ.length+2) (aB 1 0 [oz o]))[σ.length+2]?=some (aB 1 0 [oz o]):=by rw[aV l5]
  refine⟨o,(eF (o.getD []) (if g then c else S.ac)).1,(eF (o.getD []) (if g then c else S.ac)).2,(τ++[Obj.arr 1 0 [oz o]]).set (σ.length+2) (aB 1 0 [oz o]),A,G,?_,U,(i.app _).set _ _ (by omega),q.set _ _ (by omega),C,fun P=>⟨(f rfl).1,(f rfl).2,?_⟩⟩
  rotate_left 1
  ·rw[←j];exact Prod.ext rfl P
  simp only[oz]at d ⊢;generalize eF (o.getD []) (if g then c else S.ac)=K at *;generalize sv (o.map (·.map EN.a))=H at *;simp[arJ,L,r,M,d,l]
 have u:∃env,run code (.seq fQ (.seq gn gm)) ⟨bnE σ n a g (aI τ.length 0 0 0) (ap e) am am,τ++[Obj.arr 1 0 [oz o]]⟩=some (.ret,⟨env,(τ++[Obj.arr 1 0 [oz o]]).set (σ.length+2) (aB 1 0 [aH [.ai]])⟩)∧env[5]?=some (aI (σ.length+2) 0 0 0)∧env[6]?=some i0∧env[7]?=some (ap e):=by
  simp only[oz]at v ⊢;generalize sv (o.map (·.map EN.a))=H at *;exact⟨_,by simp[fQ,v,R];rfl,rfl,rfl,rfl⟩
 obtain⟨env,u,L,r,M⟩:=u;rw[u];have d:((τ++[Obj.arr 1 0 [oz o]]).set (σ.length+2) (aB 1 0 [aH [.ai]]))[σ.length+2]?=some (aB 1 0 [aH [.ai]]):=by rw[aV l5]
 refine⟨none,0,e,(τ++[Obj.arr 1 0 [oz o]]).set (σ.length+2) (aB 1 0 [aH [.ai]]),A,G,?_,by simp,(i.app _).set _ _ (by omega),q.set _ _ (by omega),C,fun P=>absurd P R⟩;simp only[oz]at d ⊢;generalize sv (o.map (·.map EN.a))=H at *;simp[arJ,L,r,M,d,sv]
def ajd(σ:aw)(n:Nat)(S:fG)(g:Bool)(r:Option (aq×aw)):Prop:=
 ∃(o:Option (List EN)) (e:Int) (σ':aw) (A:List kH) (G:List Int),r=some (fb [oz o,ap e],σ')∧(o.getD []).length≤1000∧SA σ' n { S with ah:=S.ah++A,groups:=S.groups++G }∧Fr n σ σ'∧(g=false→A=[]∧G=[])∧(e=0→vW { S with ah:=S.ah++A,groups:=S.groups++G }∧o.isSome=true∧jt (o.getD []) (if g then S.groups++G else S.ac)=true)
theorem Ba{σ:aw}{n:Nat}{S:fG}{w:List eP}(h:SA σ n S)(D:ey σ n S)(F:vW S)(E:ml w)(H:S.ac.length≤8000)(g:Bool):ajd σ n S g (cC code I.qan [aI (n+3) 0 0 0,aH [.aa false (w.map eP.a)],aC g] σ):=by
 obtain⟨o,k,e,τ,A,G,a,i,m,p,l,u⟩:=Km (h.app [aB 1 0 [aH [.aa false (w.map eP.a)]],aB 1 0 [aH [.ai]]]) (D.app _) F E H g;have x:=h.len;have q:Fr n σ τ:=(Fr.app _ _ _).trans p;have r:τ[σ.length+1]?=some (aB 1 0 [aH [.ai]]):=p.kp _ _ (.inr (by omega)) (by simp);have f:=fv r;have j:=vg (o.map (·.map EN.a));have K:σ.length+1<(τ++[Obj.arr 1 0 [oz o]]).length:=(ak.1 (f [Obj.arr 1 0 [oz o]])).1;have b:((τ++[Obj.arr 1 0 [oz o]]).set (σ.length+1) (aB 1 0 [oz o]))[σ.length+1]?=some (aB 1 0 [oz o]):=by rw[aV K]
 have c:Fr n σ (τ++[Obj.arr 1 0 [oz o]]):=q.trans (Fr.app _ _ _);by_cases t:e=0
 ·subst t;obtain⟨z,B,C⟩:=u rfl;have v:jt (o.getD []) (if g then S.groups++G else S.ac)=(k==0 ||k==1):=by unfold jt;rw[C];rfl
  by_cases d:k=0∨k=1
  ·refine⟨o,0,(τ++[Obj.arr 1 0 [oz o]]).set (σ.length+1) (aB 1 0 [oz o]),A,G,?_,i,(m.app _).set _ _ (by omega),c.set _ _ (by omega),l,fun _=>⟨z,B,by rw[v];rcases d with h|h<;>simp[h]⟩⟩;rw[cw XF rfl];simp only[oz]at b a f ⊢;generalize sv (o.map (·.map EN.a))=y at *;rcases d with rfl|rfl<;>simp[ar4,Vl,a,j,f,b]
  refine⟨o,226,(τ++[Obj.arr 1 0 [oz o]]).set (σ.length+1) (aB 1 0 [oz o]),A,G,?_,i,(m.app _).set _ _ (by omega),c.set _ _ (by omega),l,fun s=>by cases s⟩;rw[cw XF rfl];have J:k≠0:=fun e=>d (.inl e);have k1:k≠1:=fun e=>d (.inr e);simp only[oz]at b a f ⊢;generalize sv (o.map (·.map EN.a))=y at *;simp[ar4,Vl,a,j,f,b,J,k1]
 refine⟨o,e,(τ++[Obj.arr 1 0 [oz o]]).set (σ.length+1) (aB 1 0 [oz o]),A,G,?_,i,(m.app _).set _ _ (by omega),c.set _ _ (by omega),l,fun s=>absurd s t⟩;rw[cw XF rfl];simp only[oz]at b a f ⊢;generalize sv (o.map (·.map EN.a))=y at *;simp[ar4,Vl,a,j,f,b,t]
end Go.AM
